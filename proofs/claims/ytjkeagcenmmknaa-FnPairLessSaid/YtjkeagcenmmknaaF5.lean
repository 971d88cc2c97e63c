-- Printed by a program of this session (mp.py, over the kit's print). Not trusted: Lean checks it.
import Derived.Test.YtjkeagcenmmknaaF0
import Derived.Test.YtjkeagcenmmknaaF2
import Derived.Test.YtjkeagcenmmknaaF3
import Derived.Test.YtjkeagcenmmknaaF4
namespace Go.Proofs.Ytjkeagcenmmknaa.P
open Go.RowKit Go.Proofs.YtjkeagcenmmknaaW.PrintWords Go.Proofs.YtjkeagcenmmknaaW.PrintLast Go.Proofs.YtjkeagcenmmknaaW.PrintMore
attribute [local go_sem] max2_int min2_int max_two min_two max_three min_three max_four min_four   -- for this text's walks alone
set_option linter.unusedVariables false
set_option linter.unusedSimpArgs false

theorem caaL {p : Prop} (h : p := by (with_reducible repeat (first | apply Kd.R_alloc | apply Kd.R_drewN | apply Kd.R_drew)); exact (Kd.R_mono (Kd.R_far (p := ⟨aJ, 1, none⟩) (Kd.R_far (p := ⟨aJ, 0, none⟩) (Kd.R_types ap.out ay.out (by decide)) (fun _ hk => hk.2) (.int .i64 ((rd_T40 l1 ag).f0))) (fun _ hk => hk.2) (.int .i64 ((rd_T40 l1 ag).f1))) (fun _ h_ => h_.1))) : p := h
theorem caaM {p : Prop} (h : p := by (try simp only [List.map_toArray, List.map_cons, List.map_nil]); first | done | (rw [show (l0.take (ah : Int).toNat).length = ah.toNat from (by rw [List.length_take]; have h_ : (ah : Int) ≤ (l0.length : Int) := of_decide_eq_true (G.asm); omega)] <;> rfl) | rfl | (simp only [List.length_drop, List.length_take]; rfl)) : p := h
theorem caaJ {p : Prop} (h : p := by rw [hg]; exact (below_size (by repeat (first | (with_reducible first | exact HBW.out | apply below_alloc | apply pw_below_drewN | apply below_drew1) | exact HBW.out)))) : p := h
theorem caaN {p : Prop} (h : p := by repeat (first | (with_reducible first | exact HBW.out | apply below_alloc | apply pw_below_drewN | apply below_drew1) | exact HBW.out)) : p := h
theorem caaH {p : Prop} (h : p := by first | rfl | (simp [errW_none, errW_some] <;> rfl) | (simp [*, errW_none, errW_some] <;> rfl)) : p := h
theorem caaG {p : Prop} (h : p := by first | rfl | (simp; done) | (simp [*]; done)) : p := h
theorem caaF {p : Prop} (h : p := by rw [hg]; exact (below_size (G.cB HB.out))) : p := h
theorem caaK {p : Prop} (h : p := by repeat (first | (with_reducible first | exact bc.out | apply IsS61.alloc | apply IsS61.drewN | apply IsS61.drew | apply IsS61.set_1) | (with_reducible refine IsS61.far ?_ (Aside0.out (by assumption)) _) | exact bc.out)) : p := h
theorem caaI {B : Nat} {w w1 w2 : World} (H : Below B w w1) (h : Below B w w2 := by repeat (first | (with_reducible first | exact HB.out | apply below_alloc | apply pw_below_drewN | apply below_drew1) | (with_reducible refine below_set ?_ (Aside0.out (by assumption))) | (with_reducible refine below_set ?_ (IsS61.ge bc.out)) | exact HB.out)) : Below B w w2 := h
/-! ### impl_different: function 19 -/
def impl_different.l0 : Nat → List Int → List Int → Int → Int → Option (Bool)
 | 0, _, _, _, _ => none
 | k + 1, x0, x5, x6, x7 => if x7 < x6 then (if 0 ≤ x7 then (if x7 < (x5.length : Int) then (if x7 ≤ (x0.length : Int) then ((slices_Contains_int_int.f k (x0.take (x7 : Int).toNat) (rd x5 x7)).bind fun bC => (if bC = true then (some false) else (impl_different.l0 k x0 x5 x6 (wrap64 (x7 + 1))))) else (none)) else (none)) else (none)) else (some true)
def impl_different.f (k : Nat) (l0 : List Int) : Option (Bool) := impl_different.l0 k l0 l0 (l0.length : Int) 0
theorem impl_different.mono_l : ∀ k, (∀ y0 y1 y2 y3, LeO (impl_different.l0 k y0 y1 y2 y3) (impl_different.l0 (k + 1) y0 y1 y2 y3))
 | 0 => fun _ _ _ _ r h => by simp [impl_different.l0] at h
 | k + 1 => by
  have ax := impl_different.mono_l k
  ·intro y0 y1 y2 y3; unfold impl_different.l0
   repeat' first
   | (with_reducible exact ax _ _ _ _)
   | (with_reducible exact slices_Contains_int_int.mono _ _ _)
   | (with_reducible exact LeO.refl _)
   | (with_reducible exact LeO.none _)
   | (with_reducible refine LeO.ite ?_ ?_)
   | (with_reducible refine LeO.bind ?_ (fun _ => ?_))
   | exact ax _ _ _ _
   | exact slices_Contains_int_int.mono _ _ _
   | exact LeO.none _
   | refine LeO.ite ?_ ?_
   | refine LeO.bind ?_ (fun _ => ?_)
theorem impl_different.mono : ∀ a0 k, LeO (impl_different.f k a0) (impl_different.f (k + 1) a0) := by
 intro a0 k; have ax := impl_different.mono_l k; unfold impl_different.f
 repeat' first | (with_reducible first | exact ax _ _ _ _ | exact slices_Contains_int_int.mono _ _ _ | exact LeO.refl _ | exact LeO.none _ | refine LeO.ite ?_ ?_ | refine LeO.bind ?_ (fun _ => ?_)) | exact ax _ _ _ _ | exact slices_Contains_int_int.mono _ _ _ | exact LeO.none _ | refine LeO.ite ?_ ?_ | refine LeO.bind ?_ (fun _ => ?_)
set_option maxHeartbeats 8000000 in
set_option maxRecDepth 100000 in
theorem impl_different.calls (k : Nat) (A0 : Option Addr) (c0 : Nat) (l0 : List Int) (r : Bool) (w : World) (am : Kd.C (Kd.int .i64) w A0 l0.length l0) (bK : l0.length ≤ c0) (h : impl_different.f k l0 = some r) :
  Calls Try.prog 19 #[.slice A0 l0.length c0] w fun e w' => e = .returned (.bool r) ∧ Drawn0 w w' := by
 have bn := G.m am; have b1 := G.m bK; clear am bK; have H : (impl_different.l0 k l0 l0 (l0.length : Int) 0) = some r := h; clear h; have H' := G.m H; clear H
 go_enter Try.func19, Try.ntmps19
 go_wp2
 go_loopg [7] k (fun kq v7 w' => ∃ (ah : Int), v7 = .int .i64 ah ∧ Aside0 (impl_different.l0 kq l0 l0 (l0.length : Int) ah = some r) ∧ Aside0 (kq ≤ k) ∧ Drawn0 w w')
 case atStart => exact ⟨(0), (caaG), H', ⟨Nat.le_refl _⟩, by repeat (first | exact Drawn0.refl _ | apply Drawn0.step)⟩
 case round =>
  clear H'; try clear c1
  obtain ⟨ah, rfl, HA, df, ⟨m1, rfl⟩⟩ := hrel; cases gk with
  | zero => exact absurd HA.out (by simp [impl_different.l0])
  | succ k1 =>
   have H := HA.out; clear HA; simp only [impl_different.l0] at H
   by_cases c2 : ah < (l0.length : Int)
   ·rw [if_pos c2] at H; have bQ : decide (ah < (l0.length : Int)) = true := decide_eq_true c2; clear c2
    by_cases c3 : 0 ≤ ah
    ·rw [if_pos c3] at H; have dr : decide (0 ≤ ah) = true := decide_eq_true c3; clear c3
     by_cases c4 : ah < (l0.length : Int)
     ·rw [if_pos c4] at H; have eU : decide (ah < (l0.length : Int)) = true := decide_eq_true c4; clear c4; have a7 := eq_true (of_decide_eq_true (G.asm) : 0 ≤ ah)
      by_cases c6 : ah ≤ (l0.length : Int)
      ·rw [if_pos c6] at H; have eV := eq_true c6; have eW : decide (ah ≤ (l0.length : Int)) = true := decide_eq_true c6; clear c6; obtain ⟨bC, A7, H⟩ := G.bi H; replace H : (if bC = true then (some false) else (impl_different.l0 k1 l0 l0 (l0.length : Int) (wrap64 (ah + 1)))) = some r := H
       by_cases c8 : bC = true
       ·subst c8; have H1 : (some false) = some r := by rw [if_pos rfl] at H; exact H
        clear H; have H := H1; clear H1; obtain rfl := Option.some.inj H; have aQ : 0 ≤ (ah : Int) := of_decide_eq_true (G.asm); have aT : ah < (l0.length : Int) := of_decide_eq_true (G.asm); obtain ⟨aU, bR, ca⟩ := Kd.at_int bn.out ah aQ aT; cases bR; replace aQ := eq_true aQ; replace aT := eq_true aT; obtain ⟨e6, cl, _, cm, _⟩ := info_parts info3; obtain ⟨ey, dg, dh⟩ := print_take_of (P := Try.prog) (Value.int .i64) 0 48 3 .i64 Try.underlying48 cl cm (some aU) c0 l0 ah (of_decide_eq_true (G.asm)) (of_decide_eq_true (G.asm)) b1.out; have bD := G.m (Kd.C_of_reads (h1 := fun _ => rfl) (dg _ (Kd.reads_of_C bn.out))); have bE := G.m dh; clear dg dh cl cm
        go_wp2_with (first | ((with_reducible refine gate_callee (f := 30) rfl ?_); refine goesL_ (some 16) rfl rfl Try.func30 (by kernel_rfl) rfl #[.slice (some aU) (l0.take (ah : Int).toNat).length c0, .int .i64 (rd l0 ah)] rfl (caaM) ?_; (with_reducible refine (slices_Contains_int_int.calls k1 _ _ (l0.take (ah : Int).toNat) (rd l0 ah) true _ ?side1 ?side2 A7.out).mono ?_); (case side1 => exact G.cC bD.out); (case side2 => exact bE.out); rintro e w' ⟨rfl, ⟨nd, rfl⟩⟩; refine ⟨_, rfl, ?_⟩))
        go_ret
        exact ⟨caaG, by repeat (first | exact Drawn0.refl _ | apply Drawn0.step)⟩
       ·replace c8 := Bool.eq_false_iff.mpr c8; subst c8; have H1 : (impl_different.l0 k1 l0 l0 (l0.length : Int) (wrap64 (ah + 1))) = some r := by rw [if_neg (show ¬ (false = true) by decide)] at H; exact H
        clear H; have H := H1; clear H1; have H' := G.m H; clear H; have aQ : 0 ≤ (ah : Int) := of_decide_eq_true (G.asm); have aT : ah < (l0.length : Int) := of_decide_eq_true (G.asm); obtain ⟨aU, bR, ca⟩ := Kd.at_int bn.out ah aQ aT; cases bR; replace aQ := eq_true aQ; replace aT := eq_true aT; obtain ⟨eX, b2, _, b3, _⟩ := info_parts info3; obtain ⟨d7, cn, co⟩ := print_take_of (P := Try.prog) (Value.int .i64) 0 48 3 .i64 Try.underlying48 b2 b3 (some aU) c0 l0 ah (of_decide_eq_true (G.asm)) (of_decide_eq_true (G.asm)) b1.out; have bD := G.m (Kd.C_of_reads (h1 := fun _ => rfl) (cn _ (Kd.reads_of_C bn.out))); have bE := G.m co; clear cn co b2 b3
        go_wp2_with (first | ((with_reducible refine gate_callee (f := 30) rfl ?_); refine goesL_ (some 16) rfl rfl Try.func30 (by kernel_rfl) rfl #[.slice (some aU) (l0.take (ah : Int).toNat).length c0, .int .i64 (rd l0 ah)] rfl (caaM) ?_; (with_reducible refine (slices_Contains_int_int.calls k1 _ _ (l0.take (ah : Int).toNat) (rd l0 ah) false _ ?side1 ?side2 A7.out).mono ?_); (case side1 => exact G.cC bD.out); (case side2 => exact bE.out); rintro e w' ⟨rfl, ⟨nd, rfl⟩⟩; refine ⟨_, rfl, ?_⟩))
        go_roundg k1
        case measure => have := df.out; omega
        case rel => exact ⟨(wrap64 (ah + 1)), (caaG), H', ⟨by have := df.out; omega⟩, by repeat (first | exact Drawn0.refl _ | apply Drawn0.step)⟩
      ·rw [if_neg c6] at H; exact absurd H (by simp)
     ·rw [if_neg c4] at H; exact absurd H (by simp)
    ·rw [if_neg c3] at H; exact absurd H (by simp)
   ·rw [if_neg c2] at H; have bQ : decide (ah < (l0.length : Int)) = false := decide_eq_false c2; clear c2; obtain rfl := Option.some.inj H
    go_wp2
    go_ret
    exact ⟨caaG, by repeat (first | exact Drawn0.refl _ | apply Drawn0.step)⟩

/-! ### impl_PairOk: function 10 -/
mutual
def impl_PairOk.j0 : Nat → List (S40) → Bool → Option (Bool)
 | 0, _, _ => none
 | k + 1, x1, d8 => if d8 = true then (some false) else (impl_PairOk.l0 k (([] : List Int)) x1 (x1.length : Int) 0)
def impl_PairOk.l0 : Nat → List Int → List (S40) → Int → Int → Option (Bool)
 | 0, _, _, _, _ => none
 | k + 1, x5, b4, di, br => if br < di then (if 0 ≤ br then (if br < (b4.length : Int) then ((some (([(rd_T40 b4 br).f0, (rd_T40 b4 br).f1] : List Int) : List Int)).bind fun aK => (if x5.length + aK.length < 17592186044416 then (impl_PairOk.l0 k (x5 ++ aK) b4 di (wrap64 (br + 1))) else (none))) else (none)) else (none)) else ((impl_different.f k x5).bind fun bF => (some bF))
end
def impl_PairOk.f (k : Nat) (ac : Int) (ab : List (S40)) (l1 : List (S40)) : Option (Bool) := (impl_NetOk.f k ac ab).bind fun a8 => (if a8 = true then ((impl_Net_own.f k ac ab l1).bind fun aA => (impl_PairOk.j0 k l1 (!aA))) else (impl_PairOk.j0 k l1 true))
theorem impl_PairOk.mono_l : ∀ k, (∀ y0 y1, LeO (impl_PairOk.j0 k y0 y1) (impl_PairOk.j0 (k + 1) y0 y1)) ∧ (∀ y0 y1 y2 y3, LeO (impl_PairOk.l0 k y0 y1 y2 y3) (impl_PairOk.l0 (k + 1) y0 y1 y2 y3))
 | 0 => ⟨fun _ _ r h => by simp [impl_PairOk.j0] at h, fun _ _ _ _ r h => by simp [impl_PairOk.l0] at h⟩
 | k + 1 => by
  obtain ⟨ax, bL⟩ := impl_PairOk.mono_l k; refine ⟨?_, ?_⟩ <;> intros
  all_goals first | unfold impl_PairOk.j0 | unfold impl_PairOk.l0
  repeat' first | (with_reducible first | exact ax _ _ | exact bL _ _ _ _ | exact impl_NetOk.mono _ _ _ | exact impl_Net_own.mono _ _ _ _ | exact impl_different.mono _ _ | exact LeO.refl _ | exact LeO.none _ | refine LeO.ite ?_ ?_ | refine LeO.bind ?_ (fun _ => ?_)) | exact ax _ _ | exact bL _ _ _ _ | exact impl_NetOk.mono _ _ _ | exact impl_Net_own.mono _ _ _ _ | exact impl_different.mono _ _ | exact LeO.none _ | refine LeO.ite ?_ ?_ | refine LeO.bind ?_ (fun _ => ?_)
theorem impl_PairOk.mono : ∀ a0 a1 a2 k, LeO (impl_PairOk.f k a0 a1 a2) (impl_PairOk.f (k + 1) a0 a1 a2) := by
 intro a0 a1 a2 k; obtain ⟨ax, bL⟩ := impl_PairOk.mono_l k; unfold impl_PairOk.f
 repeat' first | (with_reducible first | exact ax _ _ | exact bL _ _ _ _ | exact impl_NetOk.mono _ _ _ | exact impl_Net_own.mono _ _ _ _ | exact impl_different.mono _ _ | exact LeO.refl _ | exact LeO.none _ | refine LeO.ite ?_ ?_ | refine LeO.bind ?_ (fun _ => ?_)) | exact ax _ _ | exact bL _ _ _ _ | exact impl_NetOk.mono _ _ _ | exact impl_Net_own.mono _ _ _ _ | exact impl_different.mono _ _ | exact LeO.none _ | refine LeO.ite ?_ ?_ | refine LeO.bind ?_ (fun _ => ?_)
set_option maxHeartbeats 8000000 in
set_option maxRecDepth 100000 in
theorem impl_PairOk.calls (k : Nat) (ac : Int) (ai : Option Addr) (aj : Nat) (ab : List (S40)) (A1 : Option Addr) (c1 : Nat) (l1 : List (S40)) (r : Bool) (w : World) (aD : Kd.C k40 w ai ab.length ab) (aE : ab.length ≤ aj) (hr1 : Kd.C k40 w A1 l1.length l1) (dj : l1.length ≤ c1) (h : impl_PairOk.f k ac ab l1 = some r) :
  Calls Try.prog 10 #[.agg #[.int .i64 ac, .slice ai ab.length aj], .slice A1 l1.length c1] w fun e w' => e = .returned (.bool r) ∧ Below w.heap.size w w' := by
 have cp := Try.underlying30; have eY := Try.underlying40; have au := G.m aD; have av := G.m aE; clear aD aE; have dk := G.m hr1; have d9 := G.m dj; clear hr1 dj; have HB := G.m (Below.refl w.heap.size w); have H : ((impl_NetOk.f k ac ab).bind fun a8 => (if a8 = true then ((impl_Net_own.f k ac ab l1).bind fun aA => (impl_PairOk.j0 k l1 (!aA))) else (impl_PairOk.j0 k l1 true))) = some r := h; clear h; have bo := G.m H; clear H
 go_enter Try.func10, Try.ntmps10
 go_upto_region 1 with (first | ((with_reducible refine G.h 2 rfl ?_); refine G.be 2 #[.int .i64 ac, .slice ai ab.length aj] 30 ?_; intro az hg w4 hbox hb; have n0 := G.bs HB hb; have n1 := G.m (hbox); have n2 := G.m (caaF : w.heap.size ≤ az); have n3 := G.m (caaF : w.heap.size ≤ az); clear HB; revert n0 n1 n2 n3; intro HB af ez eA; clear hb hbox hg))
 (try simp only [Act.put, List.setIfInBounds_toArray, List.set_cons_zero, List.set_cons_succ])
 go_cut [16] (fun d_ wc => ∃ (kq : Nat) (bf : Bool), d_ = .bool bf ∧ Aside0 (impl_PairOk.j0 kq l1 bf = some r) ∧ Aside0 (kq ≤ k) ∧ Aside0 (wc.heap[az]? = some (.cells #[.int .i64 ac, (.slice ai ab.length aj)] 30 (0, 0))) ∧ Aside0 (Below w.heap.size w wc))
 case first =>
  have H := bo.out; clear bo; obtain ⟨a8, A5, H⟩ := G.bi H; replace H : (if a8 = true then ((impl_Net_own.f k ac ab l1).bind fun aA => (impl_PairOk.j0 k l1 (!aA))) else (impl_PairOk.j0 k l1 true)) = some r := H
  by_cases c6 : a8 = true
  ·subst c6; have H1 : ((impl_Net_own.f k ac ab l1).bind fun aA => (impl_PairOk.j0 k l1 (!aA))) = some r := by rw [if_pos rfl] at H; exact H
   clear H; have H := H1; clear H1; obtain ⟨aA, A7, H⟩ := G.bi H; replace H : (impl_PairOk.j0 k l1 (!aA)) = some r := H; have H' := G.m H; clear H; have ⟨cq, cr, ct, cu⟩ := G.d2 (w := w4) af
   go_wp2_with (first | ((with_reducible refine G.f 17 rfl ?_); refine G.gL 9 Try.func17 #[.agg #[.int .i64 ac, .slice ai ab.length aj]] ?_; (with_reducible refine (impl_NetOk.calls k ac _ _ ab true _ ?side1 ?side2 A5.out).mono ?_); (case side1 => exact G.cC (Kd.C_below au.out HB.out)); (case side2 => exact av.out); rintro e w9 ⟨rfl, hb⟩; refine ⟨_, rfl, ?_⟩; have n0 := G.bb af hb; have n1 := G.bs HB hb; clear af HB; revert n0 n1; intro af HB; (try clear hb); have ⟨cd, ce, cf, cg⟩ := G.d2 (w := w9) af) | (go_at_call 18; (with_reducible refine (impl_Net_own.calls k ac _ _ ab _ _ l1 aA _ ?side1 ?side2 ?side3 ?side4 A7.out).mono ?_); (case side1 => exact G.cC (Kd.C_below au.out HB.out)); (case side2 => exact av.out); (case side3 => exact G.cC (Kd.C_below dk.out HB.out)); (case side4 => exact d9.out); rintro e ea ⟨rfl, hb⟩; have n0 := G.bb af hb; have n1 := G.bs HB hb; clear af HB; revert n0 n1; intro af HB; (try clear hb)))
   go_meet
   case rel => exact ⟨_, (!aA), (caaG), H', ⟨by first | omega | exact Nat.le_refl _⟩, ⟨G.cb af.out⟩, ⟨G.cB HB.out⟩⟩
  ·replace c6 := Bool.eq_false_iff.mpr c6; subst c6; have H1 : (impl_PairOk.j0 k l1 true) = some r := by rw [if_neg (show ¬ (false = true) by decide)] at H; exact H
   clear H; have H := H1; clear H1; have H' := G.m H; clear H; have ⟨ch, ci, dG, cj⟩ := G.d2 (w := w4) af
   go_wp2_with (first | ((with_reducible refine G.f 17 rfl ?_); refine G.gL 9 Try.func17 #[.agg #[.int .i64 ac, .slice ai ab.length aj]] ?_; (with_reducible refine (impl_NetOk.calls k ac _ _ ab false _ ?side1 ?side2 A5.out).mono ?_); (case side1 => exact G.cC (Kd.C_below au.out HB.out)); (case side2 => exact av.out); rintro e e7 ⟨rfl, hb⟩; refine ⟨_, rfl, ?_⟩; have n0 := G.bb af hb; have n1 := G.bs HB hb; clear af HB; revert n0 n1; intro af HB; (try clear hb)))
   go_meet
   case rel => exact ⟨_, (true), (caaG), H', ⟨by first | omega | exact Nat.le_refl _⟩, ⟨G.cb af.out⟩, ⟨G.cB HB.out⟩⟩
 case rest =>
  clear bo; obtain ⟨kq, bf, rfl, HA, cv, af, HB⟩ := hcut; cases kq with
  | zero => exact absurd HA.out (by simp [impl_PairOk.j0])
  | succ bM =>
   have H := HA.out; clear HA; simp only [impl_PairOk.j0] at H
   by_cases bN : bf = true
   ·subst bN; have H1 : (some false) = some r := by rw [if_pos rfl] at H; exact H
    clear H; have H := H1; clear H1; obtain rfl := Option.some.inj H
    go_wp2
    go_ret
    exact ⟨caaH, G.cB HB.out⟩
   ·replace bN := Bool.eq_false_iff.mpr bN; subst bN; have H1 : (impl_PairOk.l0 bM (([] : List Int)) l1 (l1.length : Int) 0) = some r := by rw [if_neg (show ¬ (false = true) by decide)] at H; exact H
    clear H; have H := H1; clear H1; obtain ⟨cw, aV⟩ : ∃ y_ : List Int, y_ = (([] : List Int)) := ⟨_, rfl⟩; replace H : (impl_PairOk.l0 bM cw l1 (l1.length : Int) 0) = some r := by first | (rw [aV]; with_reducible exact H) | (have aM := (Option.bind_some _ _).symm.trans H; rw [aV]; with_reducible exact aM) | (have aM := (Option.bind_some _ _).symm.trans H; with_reducible exact aM) | with_reducible exact H | (rw [aV]; exact H) | exact H
    have b5 := G.m aV; clear aV; have H' := G.m H; clear H
    go_wp2_with (first | ((with_reducible refine G.h 17 rfl ?_); refine Kd.R_lit (Kd.int .i64) _ 3 ?hg (N := 17) ?hd (xs := ([] : List Int)) (inner := []) (ok := fun _ => True) (okp := fun _ => True) ?hr ?hp (fun _ hk => hk) trivial (Below.refl _ _) (Nat.le_refl _) (by simp) ?_; (case hd => rfl); (case hg => rfl); (case hr => first | (go_simp; done) | (go_simp; rfl)); (case hp => exact (Reps.none _ _)); intro eZ e8 bp hb hg_ hnew_; clear hg_ hnew_; (first | rw [← b5.out] at bp | (simp only [Int.reduceToNat] at bp; rw [← b5.out] at bp)); have n0 := G.m (Kd.R_lower bp (below_size (G.cB HB.out))); have n1 := G.bb af hb; have n2 := G.bs HB hb; clear af HB; revert n0 n1 n2; intro cH af HB; clear hb bp))
    go_loopg [5, 20] bM (fun kq v5 eb w' => ∃ (aG : List Int) (ag : Int), eb = .int .i64 ag ∧ Aside0 (impl_PairOk.l0 kq aG l1 (l1.length : Int) ag = some r) ∧ Aside0 (kq ≤ bM) ∧ Aside0 (Kd.R (Kd.int .i64) 3 w' w.heap.size (fun _ => True) v5 aG) ∧ Aside0 (w'.heap[az]? = some (.cells #[.int .i64 ac, (.slice ai ab.length aj)] 30 (0, 0))) ∧ Aside0 (Below w.heap.size w w'))
    case atStart => exact ⟨(cw), (0), (caaG), H', ⟨Nat.le_refl _⟩, ⟨G.cR cH.out⟩, ⟨G.cb af.out⟩, ⟨G.cB HB.out⟩⟩
    case round =>
     clear H'; (try clear bN); obtain ⟨aG, ag, rfl, HA, dl, ap, af, HB⟩ := hrel; cases gk with
     | zero => exact absurd HA.out (by simp [impl_PairOk.l0])
     | succ k2 =>
      have H := HA.out; clear HA; simp only [impl_PairOk.l0] at H
      by_cases bu : ag < (l1.length : Int)
      ·rw [if_pos bu] at H; have cI : decide (ag < (l1.length : Int)) = true := decide_eq_true bu; clear bu
       by_cases aW : 0 ≤ ag
       ·rw [if_pos aW] at H; have cJ : decide (0 ≤ ag) = true := decide_eq_true aW; clear aW
        by_cases aX : ag < (l1.length : Int)
        ·rw [if_pos aX] at H; have cL : decide (ag < (l1.length : Int)) = true := decide_eq_true aX; clear aX; obtain ⟨aK, aY⟩ : ∃ y_ : List Int, y_ = (([(rd_T40 l1 ag).f0, (rd_T40 l1 ag).f1] : List Int)) := ⟨_, rfl⟩; replace H : (if aG.length + aK.length < 17592186044416 then (impl_PairOk.l0 k2 (aG ++ aK) l1 (l1.length : Int) (wrap64 (ag + 1))) else (none)) = some r := by first | (rw [aY]; with_reducible exact H) | (have aM := (Option.bind_some _ _).symm.trans H; rw [aY]; with_reducible exact aM) | (have aM := (Option.bind_some _ _).symm.trans H; with_reducible exact aM) | with_reducible exact H | (rw [aY]; exact H) | exact H
         have b6 := G.m aY; clear aY
         by_cases aZ : aG.length + aK.length < 17592186044416
         ·rw [if_pos aZ] at H; have cM := G.m aZ; clear aZ; obtain ⟨cx, a4⟩ : ∃ y_ : List Int, y_ = (aG ++ aK) := ⟨_, rfl⟩; replace H : (impl_PairOk.l0 k2 cx l1 (l1.length : Int) (wrap64 (ag + 1))) = some r := by first | (rw [a4]; with_reducible exact H) | (have aM := (Option.bind_some _ _).symm.trans H; rw [a4]; with_reducible exact aM) | (have aM := (Option.bind_some _ _).symm.trans H; with_reducible exact aM) | with_reducible exact H | (rw [a4]; exact H) | exact H
          have cN := G.m a4; clear a4; have H' := G.m H; clear H; have bS : 0 ≤ (ag : Int) := of_decide_eq_true (G.asm); have bT : ag < (l1.length : Int) := of_decide_eq_true (G.asm); obtain ⟨eB, dt, bv, bw⟩ := at_T40 dk.out ag bS bT; cases dt; replace bv := G.hx HB bv; replace bw := G.hx HB bw; replace bS := eq_true bS; replace bT := eq_true bT
          go_wp2_with (first | ((with_reducible refine G.h 7 rfl ?_); refine G.be 7 #[.int .i64 0, .int .i64 0] 40 ?_; intro aJ hg ec hbox hb; have n0 := G.rb ap hb; have n1 := G.bb af hb; have n2 := G.bs HB hb; have n3 := G.m (hbox); have n4 := G.m (caaF : w.heap.size ≤ aJ); have n5 := G.m (caaF : w.heap.size ≤ aJ); have n6 := G.m ((by rw [hg]; exact Nat.ne_of_lt (blk_lt (g := az) (o := .cells #[.int .i64 ac, .slice ai ab.length aj] 30 (0, 0)) (G.cb af.out)) : az ≠ aJ)); have n7 := G.m ((by rw [hg]; exact Nat.ne_of_gt (blk_lt (g := az) (o := .cells #[.int .i64 ac, .slice ai ab.length aj] 30 (0, 0)) (G.cb af.out)) : aJ ≠ az)); clear ap af HB; revert n0 n1 n2 n3 n4 n5 n6 n7; intro ap af HB ay eC eD aN bO; clear hb hbox hg; have eE := bO.out; have eF := aN.out; have ⟨dH, dI, dJ, dK⟩ := G.d2 (w := ec) ay) | ((with_reducible refine G.h 29 rfl ?_); refine Kd.R_lit (Kd.int .i64) _ 3 ?hg (N := 29) ?hd (xs := ([(rd_T40 l1 ag).f0, (rd_T40 l1 ag).f1] : List Int)) (inner := [.int .i64 ((rd_T40 l1 ag).f0), .int .i64 ((rd_T40 l1 ag).f1)]) (ok := fun _ => True) (okp := fun _ => True) ?hr ?hp (fun _ hk => hk) trivial (Below.refl _ _) (Nat.le_refl _) (by simp) ?_; (case hd => rfl); (case hg => rfl); (case hr => first | (go_simp; done) | (go_simp; rfl)); (case hp => exact (Reps.one (show Kd.M (Kd.int .i64) _ _ _ ((rd_T40 l1 ag).f0) [.int .i64 ((rd_T40 l1 ag).f0)] from rfl) (Reps.one (show Kd.M (Kd.int .i64) _ _ _ ((rd_T40 l1 ag).f1) [.int .i64 ((rd_T40 l1 ag).f1)] from rfl) (Reps.none _ _)))); intro e2 e9 a9 hb hg_ hnew_; clear hg_ hnew_; (first | rw [← b6.out] at a9 | (simp only [Int.reduceToNat] at a9; rw [← b6.out] at a9)); have n0 := G.m (Kd.R_elder' (caaL) (Kd.R_base a9) hb); have n1 := G.m (Kd.R_lower (Kd.R_new' a9 (Kd.R_lt (caaL))) (below_size (G.cB HB.out))); have n2 := G.m (blk_below (g := az) (o := .cells #[.int .i64 ac, .slice ai ab.length aj] 30 (0, 0)) (by (with_reducible repeat (first | refine blk_drewN ?_ _ | refine blk_drew ?_ | refine blk_alloc ?_ _)); refine blk_far ?_ aN.out _; (with_reducible repeat (first | refine blk_drewN ?_ _ | refine blk_drew ?_ | refine blk_alloc ?_ _)); refine blk_far ?_ aN.out _; (with_reducible repeat (first | refine blk_drewN ?_ _ | refine blk_drew ?_ | refine blk_alloc ?_ _)); exact af.out) hb); have n3 := G.m (blk_below (g := aJ) (o := .cells #[.int .i64 ((rd_T40 l1 ag).f0), .int .i64 ((rd_T40 l1 ag).f1)] 40 (0, 0)) (by (with_reducible repeat (first | refine blk_drewN ?_ _ | refine blk_drew ?_ | refine blk_alloc ?_ _)); refine blk_put (cs := #[.int .i64 ((rd_T40 l1 ag).f0), .int .i64 0]) ?_ 1 _ rfl; (with_reducible repeat (first | refine blk_drewN ?_ _ | refine blk_drew ?_ | refine blk_alloc ?_ _)); refine blk_put (cs := #[.int .i64 0, .int .i64 0]) ?_ 0 _ rfl; (with_reducible repeat (first | refine blk_drewN ?_ _ | refine blk_drew ?_ | refine blk_alloc ?_ _)); exact ay.out) hb); have n4 := G.bs HB hb; clear ap af ay HB; revert n0 n1 n2 n3 n4; intro ap aP af ay HB; clear hb a9; obtain ⟨du, dv, dw⟩ := Kd.R_slice aP.out; subst dw) | ((with_reducible refine gate_builtin (b := .append) (xs := #[.tmp 24, .tmp 29]) rfl ?_); at_builtin; refine Kd.R_append_rows (Kd.int .i64) (w0 := w) w.heap.size rfl (.tmp 24) (.tmp 29) 48 3 (.int .i64 0) 8 rfl Try.underlying48 info3 rfl (by decide) (by omega) u5 aG aK _ _ _ (fun k_ => some k_ ≠ (.slice du aK.length dv : Value).ownBlock) (fun _ => False) rfl rfl ?aO ?aR (fun _ _ h => h) (fun _ h => h.elim) ?aF ?aB ?aS ?aL ?_; (case aR => exact G.cC (Kd.R_reads' aP.out).2.2); (case aB => exact (G.cB HB.out)); (case aF => exact (fun k_ hk => Kd.fresh' (Kd.R_lt (G.cR aP.out)) k_ hk)); (case aO => exact (by (with_reducible repeat (first | apply Kd.R_alloc | apply Kd.R_drewN | apply Kd.R_drew)); exact Kd.R_mono ap.out (fun _ hk => hk.2))); (case aS => exact (below_size (G.cB HB.out))); (case aL => have := cM.out; omega); intro e3 fa ho hb hg hat; rw [← cN.out] at ho; have n0 := G.bg af hg (Kd.R_ne ap.out af.out (by decide)); have n1 := G.bg ay hg (Kd.R_ne ap.out ay.out (by decide)); have n2 := G.m (Kd.R_after (ok := (fun _ => True)) (G.cR aP.out) hg hat); have n3 := G.m (hb); have n4 := G.m (ho); clear af ay aP HB ap; revert n0 n1 n2 n3 n4; intro af ay aP HB cO; clear ho hb hg hat))
          go_roundg k2
          case measure => have := cv.out; have := dl.out; omega
          case rel => exact ⟨(cx), (wrap64 (ag + 1)), (caaG), H', ⟨by have := cv.out; have := dl.out; omega⟩, ⟨by (with_reducible repeat (first | apply Kd.R_alloc | apply Kd.R_drewN | apply Kd.R_drew)); exact Kd.R_mono cO.out (fun _ hk => trivial)⟩, ⟨G.cb af.out⟩, ⟨G.cB HB.out⟩⟩
         ·rw [if_neg aZ] at H; exact absurd H (by simp)
        ·rw [if_neg aX] at H; exact absurd H (by simp)
       ·rw [if_neg aW] at H; exact absurd H (by simp)
      ·rw [if_neg bu] at H; have cI : decide (ag < (l1.length : Int)) = false := decide_eq_false bu; clear bu; obtain ⟨bF, ed, H⟩ := G.bi H; replace H : (some bF) = some r := H; obtain rfl := Option.some.inj H; obtain ⟨dx, dy, dz⟩ := Kd.R_slice ap.out; subst dz
       go_wp2_with (first | ((with_reducible refine G.f 19 rfl ?_); refine G.gL 33 Try.func19 #[.slice dx aG.length dy] ?_; (with_reducible refine (impl_different.calls k2 _ _ aG bF _ ?side1 ?side2 ed.out).mono ?_); (case side1 => exact G.cC (Kd.R_reads' ap.out).2.2); (case side2 => exact (Kd.R_reads' ap.out).2.1); rintro e w' ⟨rfl, ⟨nd, rfl⟩⟩; refine ⟨_, rfl, ?_⟩))
       go_ret
       exact ⟨caaH, G.cB HB.out⟩

/-- A state of type 61 at block g of W; what its slices lead to came in by w0. -/
def IsS61 (w0 W : World) (g : Nat) (f0 : List Int) (f1 : Int) : Prop := ∃ A0 c0, W.heap[g]? = some (.cells #[.slice A0 f0.length c0, .int .i64 f1] 61 (0, 0)) ∧ w0.heap.size ≤ g ∧ Kd.C (Kd.int .u8) w0 A0 f0.length f0
theorem IsS61.grown {w0 W : World} {g : Nat} {f0 : List Int} {f1 : Int} {W1 : World} {row : Option Nat} (h : IsS61 w0 W g f0 f1) (hw : W.grownBy W1 row) (hne : some g ≠ row) : IsS61 w0 W1 g f0 f1 := by
 obtain ⟨A0, c0, hb, hg, am⟩ := h; exact ⟨A0, c0, blk_grown hb hw hne, hg, am⟩
theorem IsS61.own_neN {w0 W : World} {g : Nat} {f0 : List Int} {f1 : Int} {α : Type} {d : Kd α} {e : Nat} {base : Nat} {ok : Nat → Prop} {v : Value} {xs : List α} (h : IsS61 w0 W g f0 f1) (ho : Kd.N d e W base ok v xs) (ht : e ≠ 61) : some g ≠ v.ownBlock := by
 obtain ⟨A0, c0, hb, hg, am⟩ := h; exact Kd.N_ne ho hb ht
theorem IsS61.fresh {w0 W : World} {g : Nat} {f0 : List Int} {f1 : Int} (h : IsS61 w0 W g f0 f1) : ∀ k, W.heap.size ≤ k → k ≠ g := by
 obtain ⟨A0, c0, hb, hg, am⟩ := h; exact Kd.freshB hb
theorem IsS61.kept {w0 W : World} {g : Nat} {f0 : List Int} {f1 : Int} {W1 : World} {S : Nat → Prop} (h : IsS61 w0 W g f0 f1) (hk : Kept W W1 S) (hne : ¬ S g) : IsS61 w0 W1 g f0 f1 := by
 obtain ⟨A0, c0, hb, hg, am⟩ := h; exact ⟨A0, c0, blk_kept hb hk hne, hg, am⟩
theorem IsS61.below {w0 W : World} {g : Nat} {f0 : List Int} {f1 : Int} {W1 : World} (h : IsS61 w0 W g f0 f1) (hw : Below W.heap.size W W1) : IsS61 w0 W1 g f0 f1 := h.grown (grown_of_below hw none) (by simp)
theorem IsS61.alloc {w0 W : World} {g : Nat} {f0 : List Int} {f1 : Int} (h : IsS61 w0 W g f0 f1) (o : Obj) : IsS61 w0 (W.alloc o) g f0 f1 := h.below (below_alloc (Below.refl _ _) o)
theorem IsS61.drewN {w0 W : World} {g : Nat} {f0 : List Int} {f1 : Int} (h : IsS61 w0 W g f0 f1) (m : Nat) : IsS61 w0 (W.drewN m) g f0 f1 := h
theorem IsS61.drew {w0 W : World} {g : Nat} {f0 : List Int} {f1 : Int} (h : IsS61 w0 W g f0 f1) : IsS61 w0 W.drew g f0 f1 := h
theorem IsS61.at_ {w0 W : World} {g : Nat} {f0 : List Int} {f1 : Int} {w' : World} {m : Nat} (hq : W.drewN m = w') (h : IsS61 w0 W g f0 f1) : IsS61 w0 w' g f0 f1 := by subst hq; exact IsS61.drewN h m
theorem IsS61.apart {w0 W : World} {g : Nat} {f0 : List Int} {f1 : Int} {α : Type} {d : Kd α} {e : Nat} {base : Nat} {ok : Nat → Prop} {v : Value} {xs : List α} (h : IsS61 w0 W g f0 f1) (ho : d.R e W base ok v xs) (ht : ∀ q, q ∈ e :: d.E → q ≠ 61) : d.R e W base (fun k => ok k ∧ k ≠ g) v xs := by
 obtain ⟨A0, c0, hb, hg, am⟩ := h; exact Kd.R_types ho hb ht
theorem IsS61.own_ne {w0 W : World} {g : Nat} {f0 : List Int} {f1 : Int} {α : Type} {d : Kd α} {e : Nat} {base : Nat} {ok : Nat → Prop} {v : Value} {xs : List α} (h : IsS61 w0 W g f0 f1) (ho : d.R e W base ok v xs) (ht : e ≠ 61) : some g ≠ v.ownBlock := by
 obtain ⟨A0, c0, hb, hg, am⟩ := h; exact Kd.R_ne ho hb ht
theorem IsS61.apartQ {w0 W : World} {g : Nat} {f0 : List Int} {f1 : Int} {α : Type} {d : Kd α} {e : Nat} {base : Nat} {ok : Nat → Prop} {v : Value} {xs : List α} (h : IsS61 w0 W g f0 f1) (ho : d.Q e W base ok v xs) (ht : ∀ q, q ∈ e :: d.E → q ≠ 61) : d.Q e W base (fun k => ok k ∧ k ≠ g) v xs := by
 obtain ⟨A0, c0, hb, hg, am⟩ := h; exact Kd.Q_types ho hb ht
theorem IsS61.own_neQ {w0 W : World} {g : Nat} {f0 : List Int} {f1 : Int} {α : Type} {d : Kd α} {e : Nat} {base : Nat} {ok : Nat → Prop} {v : Value} {xs : List α} (h : IsS61 w0 W g f0 f1) (ho : d.Q e W base ok v xs) (ht : e ≠ 61) : some g ≠ v.ownBlock := by
 obtain ⟨A0, c0, hb, hg, am⟩ := h; exact Kd.Q_ne ho hb ht
theorem IsS61.apartS {w0 W : World} {g : Nat} {f0 : List Int} {f1 : Int} {α : Type} {d : Kd α} {e : Nat} {base : Nat} {ok : Nat → Prop} {v : Value} {xs : List α} (h : IsS61 w0 W g f0 f1) (ho : d.S e W base ok v xs) (ht : ∀ q, q ∈ e :: d.E → q ≠ 61) : d.S e W base (fun k => ok k ∧ k ≠ g) v xs := by
 obtain ⟨A0, c0, hb, hg, am⟩ := h; exact Kd.S_types ho hb ht
theorem IsS61.own_neS {w0 W : World} {g : Nat} {f0 : List Int} {f1 : Int} {α : Type} {d : Kd α} {e : Nat} {base : Nat} {ok : Nat → Prop} {v : Value} {xs : List α} (h : IsS61 w0 W g f0 f1) (ho : d.S e W base ok v xs) (ht : e ≠ 61) : some g ≠ v.ownBlock := by
 obtain ⟨A0, c0, hb, hg, am⟩ := h; exact Kd.S_ne ho hb ht
theorem IsS61.lt {w0 W : World} {g : Nat} {f0 : List Int} {f1 : Int} (h : IsS61 w0 W g f0 f1) : g < W.heap.size := by
 obtain ⟨A0, c0, hb, hg, am⟩ := h; exact blk_lt hb
theorem IsS61.ge {w0 W : World} {g : Nat} {f0 : List Int} {f1 : Int} (h : IsS61 w0 W g f0 f1) : w0.heap.size ≤ g := by
 obtain ⟨A0, c0, hb, hg, am⟩ := h; exact hg
theorem IsS61.ne_blk {w0 W : World} {g : Nat} {f0 : List Int} {f1 : Int} {a : Nat} {cs : Array Value} {t : TypeId} {fr : Nat × Nat} (h : IsS61 w0 W g f0 f1) (b7 : W.heap[a]? = some (.cells cs t fr)) (ht : t ≠ 61) : g ≠ a := by
 obtain ⟨A0, c0, hb, hg, am⟩ := h; rintro rfl; rw [hb] at b7; injection b7 with b7; injection b7 with _ ht2; exact ht ht2.symm
theorem IsS61.far {w0 W : World} {g : Nat} {f0 : List Int} {f1 : Int} {p : Addr} (h : IsS61 w0 W g f0 f1) (hne : g ≠ p.block) (u : Value) : IsS61 w0 (W.setCell p u) g f0 f1 := by
 obtain ⟨A0, c0, hb, hg, am⟩ := h; exact ⟨A0, c0, blk_far hb hne u, hg, am⟩
theorem cellS61_0 {W : World} {g : Nat} {A0 : Option Addr} {c0 : Nat} {f0 : List Int} {f1 : Int} (h : W.heap[g]? = some (.cells #[.slice A0 f0.length c0, .int .i64 f1] 61 (0, 0))) : W.cell? ⟨g, 0, none⟩ = some (.slice A0 f0.length c0) := (blk_cell h 0).trans rfl
theorem cellS61_1 {W : World} {g : Nat} {A0 : Option Addr} {c0 : Nat} {f0 : List Int} {f1 : Int} (h : W.heap[g]? = some (.cells #[.slice A0 f0.length c0, .int .i64 f1] 61 (0, 0))) : W.cell? ⟨g, 1, none⟩ = some (.int .i64 f1) := (blk_cell h 1).trans rfl
theorem IsS61.set_1 {w0 W : World} {g : Nat} {f0 : List Int} {f1 : Int} (h : IsS61 w0 W g f0 f1) (x : Int) : IsS61 w0 (W.setCell ⟨g, 1, none⟩ (.int .i64 x)) g f0 x := by
 obtain ⟨A0, c0, hb, hg, am⟩ := h; exact ⟨A0, c0, by simpa using blk_set hb 1 (.int .i64 x), hg, am⟩
theorem IsS61.new (w0 W : World) (A0 : Option Addr) (c0 : Nat) (f0 : List Int) (f1 : Int) (hB : Below w0.heap.size w0 W) (am : Kd.C (Kd.int .u8) w0 A0 f0.length f0) : IsS61 w0 (W.alloc (.cells #[.slice A0 f0.length c0, .int .i64 f1] 61)) W.heap.size f0 f1 := ⟨A0, c0, by simpa using heap_alloc_new W _, hB.size, am⟩

/-! ### spec_l6Open: function 21 -/
def spec_l6Open.f (l0 : List Int) : Option (List Int × Int) := if (l0.length : Int) > 2000 then (if 2000 ≤ (l0.length : Int) then (some (l0.take 2000, 0)) else (none)) else (some (l0, 0))
set_option maxHeartbeats 8000000 in
set_option maxRecDepth 100000 in
theorem spec_l6Open.calls (A0 : Option Addr) (c0 : Nat) (l0 : List Int) (r1 : List Int) (r2 : Int) (w0 w : World) (hB : Below w0.heap.size w0 w) (am : Kd.C (Kd.int .u8) w0 A0 l0.length l0) (bK : l0.length ≤ c0) (h : spec_l6Open.f l0 = some (r1, r2)) :
  Calls Try.prog 21 #[.slice A0 l0.length c0] w fun e w' => ∃ g_ : Nat, e = .returned (.pointer (some ⟨g_, 0, none⟩)) ∧ IsS61 w0 w' g_ r1 r2 ∧ Below w0.heap.size w0 w' ∧ Below w.heap.size w w' := by
 have e4 := Try.underlying61; have bn := G.m am; have b1 := G.m bK; clear am bK; have HBW := G.m (Below.refl w.heap.size w); have cy := G.m hB.size; have HB := G.m hB; clear hB; have H : (if (l0.length : Int) > 2000 then (if 2000 ≤ (l0.length : Int) then (some (l0.take 2000, 0)) else (none)) else (some (l0, 0))) = some (r1, r2) := h; clear h
 by_cases c2 : (l0.length : Int) > 2000
 ·rw [if_pos c2] at H; have bQ : decide (2000 < (l0.length : Int)) = true := decide_eq_true c2; have dA : decide (2000 < l0.length) = true := decide_eq_true (by omega); clear c2
  by_cases c3 : 2000 ≤ (l0.length : Int)
  ·rw [if_pos c3] at H; have dr := eq_true c3; have e5 : decide (2000 ≤ (l0.length : Int)) = true := decide_eq_true c3; clear c3; simp only [Option.some.injEq, Prod.mk.injEq] at H; obtain ⟨rfl, rfl⟩ := H; obtain ⟨fb, cz, _, cA, _⟩ := info_parts info5; obtain ⟨eG, dn, dp⟩ := print_take_of (P := Try.prog) (Value.int .u8) 0 36 5 .i64 Try.underlying36 cz cA A0 c0 l0 2000 (by omega) (of_decide_eq_true (G.asm)) b1.out; have cP := G.m (Kd.C_of_reads (h1 := fun _ => rfl) (dn _ (Kd.reads_of_C bn.out))); have eH := G.m dp; clear dn dp cz cA
   go_enter Try.func21, Try.ntmps21
   go_wp2_with (first | ((with_reducible refine G.h 10 rfl ?_); refine G.be 10 #[.slice A0 (l0.take 2000).length c0, .int .i64 0] 61 ?_; intro bh hg w5 hbox hb; have n0 := G.m (below_step HBW.out hb); have n1 := G.bs HB hb; have n2 := G.m (hbox); have n3 := G.m (caaJ : w.heap.size ≤ bh); have n4 := G.m (Nat.le_trans cy.out (caaJ : w.heap.size ≤ bh) : w0.heap.size ≤ bh); clear HBW HB; revert n0 n1 n2 n3 n4; intro HBW HB cQ cS cT; clear hb hbox hg))
   go_ret
   exact ⟨_, rfl, (show IsS61 w0 _ bh (l0.take 2000) 0 from ⟨_, _, G.cb cQ.out, cT.out, cP.out⟩), G.cB HB.out, by repeat (first | (with_reducible first | exact HBW.out | apply below_alloc | apply pw_below_drewN | apply below_drew1 | refine below_set ?_ cS.out) | exact HBW.out)⟩
  ·rw [if_neg c3] at H; exact absurd H (by simp)
 ·rw [if_neg c2] at H; have bQ : decide (2000 < (l0.length : Int)) = false := decide_eq_false c2; have dA : decide (2000 < l0.length) = false := decide_eq_false (by omega); clear c2; simp only [Option.some.injEq, Prod.mk.injEq] at H; obtain ⟨rfl, rfl⟩ := H
  go_enter Try.func21, Try.ntmps21
  go_wp2_with (first | ((with_reducible refine G.h 10 rfl ?_); refine G.be 10 #[.slice A0 l0.length c0, .int .i64 0] 61 ?_; intro bj hg w6 hbox hb; have n0 := G.m (below_step HBW.out hb); have n1 := G.bs HB hb; have n2 := G.m (hbox); have n3 := G.m (caaJ : w.heap.size ≤ bj); have n4 := G.m (Nat.le_trans cy.out (caaJ : w.heap.size ≤ bj) : w0.heap.size ≤ bj); clear HBW HB; revert n0 n1 n2 n3 n4; intro HBW HB cU cW cX; clear hb hbox hg))
  go_ret
  exact ⟨_, rfl, (show IsS61 w0 _ bj l0 0 from ⟨_, _, G.cb cU.out, cX.out, bn.out⟩), G.cB HB.out, by repeat (first | (with_reducible first | exact HBW.out | apply below_alloc | apply pw_below_drewN | apply below_drew1 | refine below_set ?_ cW.out) | exact HBW.out)⟩

/-! ### spec_l6Rd_pick: function 23 -/
def spec_l6Rd_pick.j0 : Nat → Int → Bool → List Int → Int → Option (Int × Int)
 | 0, _, _, _, _ => none
 | k + 1, x1, ee, ak, al => if ee = true then (some (0, al)) else (if (wrap64 (al - 1)) < (ak.length : Int) then (if 0 ≤ (wrap64 (al - 1)) then (if x1 = 0 then (none) else (some (Int.tmod (wrap64 (rd ak (wrap64 (al - 1)))) x1, al))) else (none)) else (if (ak.length : Int) = 0 then (none) else (if 0 ≤ (Int.tmod (wrap64 (al - 1)) (ak.length : Int)) then (if (Int.tmod (wrap64 (al - 1)) (ak.length : Int)) < (ak.length : Int) then (if 0 ≤ (Int.tmod (wrap64 ((wrap64 ((wrap64 (al - 1)) * 7)) + 3)) (ak.length : Int)) then (if (Int.tmod (wrap64 ((wrap64 ((wrap64 (al - 1)) * 7)) + 3)) (ak.length : Int)) < (ak.length : Int) then (if x1 = 0 then (none) else (some (Int.tmod (Go.bits .xor .i64 (wrap64 ((wrap64 ((wrap64 ((wrap64 ((wrap64 (rd ak (Int.tmod (wrap64 (al - 1)) (ak.length : Int)))) * 131)) + (wrap64 ((wrap64 (rd ak (Int.tmod (wrap64 ((wrap64 ((wrap64 (al - 1)) * 7)) + 3)) (ak.length : Int)))) * 1117)))) + (wrap64 ((wrap64 (al - 1)) * 29)))) + (wrap64 ((wrap64 (Int.tdiv (wrap64 (al - 1)) (ak.length : Int))) * 53)))) (wrap64 (Int.tdiv (wrap64 ((wrap64 ((wrap64 ((wrap64 ((wrap64 (rd ak (Int.tmod (wrap64 (al - 1)) (ak.length : Int)))) * 131)) + (wrap64 ((wrap64 (rd ak (Int.tmod (wrap64 ((wrap64 ((wrap64 (al - 1)) * 7)) + 3)) (ak.length : Int)))) * 1117)))) + (wrap64 ((wrap64 (al - 1)) * 29)))) + (wrap64 ((wrap64 (Int.tdiv (wrap64 (al - 1)) (ak.length : Int))) * 53)))) 64))) x1, al))) else (none)) else (none)) else (none)) else (none))))
def spec_l6Rd_pick.f (k : Nat) (aa : List Int) (ae : Int) (a1 : Int) : Option (Int × Int) := if a1 < 1 then (spec_l6Rd_pick.j0 k a1 true aa (wrap64 (ae + 1))) else (spec_l6Rd_pick.j0 k a1 ((aa.length : Int) == 0) aa (wrap64 (ae + 1)))
theorem spec_l6Rd_pick.mono_l : ∀ k, (∀ y0 y1 y2 y3, LeO (spec_l6Rd_pick.j0 k y0 y1 y2 y3) (spec_l6Rd_pick.j0 (k + 1) y0 y1 y2 y3))
 | 0 => fun _ _ _ _ r h => by simp [spec_l6Rd_pick.j0] at h
 | k + 1 => by
  have ax := spec_l6Rd_pick.mono_l k
  ·intro y0 y1 y2 y3; unfold spec_l6Rd_pick.j0
   repeat' first
   | (with_reducible exact ax _ _ _ _)
   | (with_reducible exact LeO.refl _)
   | (with_reducible exact LeO.none _)
   | (with_reducible refine LeO.ite ?_ ?_)
   | (with_reducible refine LeO.bind ?_ (fun _ => ?_))
   | exact ax _ _ _ _
   | exact LeO.none _
   | refine LeO.ite ?_ ?_
   | refine LeO.bind ?_ (fun _ => ?_)
theorem spec_l6Rd_pick.mono : ∀ a0 a1 a2 k, LeO (spec_l6Rd_pick.f k a0 a1 a2) (spec_l6Rd_pick.f (k + 1) a0 a1 a2) := by
 intro a0 a1 a2 k; have ax := spec_l6Rd_pick.mono_l k; unfold spec_l6Rd_pick.f
 repeat' first | (with_reducible first | exact ax _ _ _ _ | exact LeO.refl _ | exact LeO.none _ | refine LeO.ite ?_ ?_ | refine LeO.bind ?_ (fun _ => ?_)) | exact ax _ _ _ _ | exact LeO.none _ | refine LeO.ite ?_ ?_ | refine LeO.bind ?_ (fun _ => ?_)
set_option maxHeartbeats 8000000 in
set_option maxRecDepth 100000 in
theorem spec_l6Rd_pick.calls (k : Nat) (g : Nat) (aa : List Int) (ae : Int) (a1 : Int) (r1 : Int) (r2 : Int) (w0 w : World) (hI : IsS61 w0 w g aa ae) (hB : Below w0.heap.size w0 w) (h : spec_l6Rd_pick.f k aa ae a1 = some (r1, r2)) :
  Calls Try.prog 23 #[.pointer (some ⟨g, 0, none⟩), .int .i64 a1] w fun e w' => e = .returned (.int .i64 r1) ∧ IsS61 w0 w' g aa r2 ∧ Below w0.heap.size w0 w' ∧ KeepBut w w' g none := by
 have bc := G.m hI; have HK := G.m (KeepBut.refl w g none); have HL := G.m hB.size; clear hI; have cy := G.m hB.size; have HB := G.m hB; clear hB; have H : (if a1 < 1 then (spec_l6Rd_pick.j0 k a1 true aa (wrap64 (ae + 1))) else (spec_l6Rd_pick.j0 k a1 ((aa.length : Int) == 0) aa (wrap64 (ae + 1)))) = some (r1, r2) := h; clear h; have bo := G.m H; clear H; obtain ⟨ef, eg, bG, dB, eh⟩ := bc.out; have cD := cellS61_0 bG; have cE := cellS61_1 bG; have cF := blk_frozen bG 1; clear bG dB
 go_enter Try.func23, Try.ntmps23
 go_upto_region 2 with (fail)
 repeat (go_quiet (fail); go_upto_region 2 with (fail))
 go_cut [24] (fun ei wc => ∃ (kq : Nat) (bk : Bool), ei = .bool bk ∧ Aside0 (spec_l6Rd_pick.j0 kq a1 bk aa (wrap64 (ae + 1)) = some (r1, r2)) ∧ Aside0 (kq ≤ k) ∧ Aside0 (IsS61 w0 wc g aa (wrap64 (ae + 1))) ∧ Aside0 (KeepBut w wc g none) ∧ Aside0 (Below w0.heap.size w0 wc))
 case first =>
  have H := bo.out; clear bo
  by_cases c5 : a1 < 1
  ·rw [if_pos c5] at H; have a7 : decide (a1 < 1) = true := decide_eq_true c5; clear c5; (first | rw [a7] | (simp only [i64_w, i32_w]; rw [a7]) | skip); have H' := G.m H; clear H
   go_wp2
   repeat (go_quiet (fail); try go_wp2)
   go_meet
   case rel => exact ⟨_, (true), (caaG), H', ⟨by first | omega | exact Nat.le_refl _⟩, ⟨caaK⟩, ⟨G.cK HK.out⟩, ⟨caaI HB.out⟩⟩
  ·rw [if_neg c5] at H; have a7 : decide (a1 < 1) = false := decide_eq_false c5; clear c5; (first | rw [a7] | (simp only [i64_w, i32_w]; rw [a7]) | skip); have H' := G.m H; clear H; obtain ⟨ej, ek, bH, dC, el⟩ := bc.out; have em := cellS61_0 bH; have en := cellS61_1 bH; have eo := blk_frozen bH 1; clear bH dC
   go_wp2
   repeat (go_quiet (fail); try go_wp2)
   go_meet
   case rel => exact ⟨_, (((aa.length : Int) == 0)), (caaG), H', ⟨by first | omega | exact Nat.le_refl _⟩, ⟨caaK⟩, ⟨G.cK HK.out⟩, ⟨caaI HB.out⟩⟩
 case rest =>
  clear bo; (try clear cD cE cF); obtain ⟨kq, bk, rfl, HA, cv, bc, HK, HB⟩ := hcut; cases kq with
  | zero => exact absurd HA.out (by simp [spec_l6Rd_pick.j0])
  | succ bM =>
   have H := HA.out; clear HA; simp only [spec_l6Rd_pick.j0] at H
   by_cases c7 : bk = true
   ·subst c7; have H1 : (some (0, (wrap64 (ae + 1)))) = some (r1, r2) := by rw [if_pos rfl] at H; exact H
    clear H; have H := H1; clear H1; simp only [Option.some.injEq, Prod.mk.injEq] at H; obtain ⟨rfl, rfl⟩ := H
    go_wp2
    repeat (go_quiet (fail); try go_wp2)
    go_ret
    exact ⟨caaH, caaK, caaI HB.out, G.cK HK.out⟩
   ·replace c7 := Bool.eq_false_iff.mpr c7; subst c7; have H1 : (if (wrap64 ((wrap64 (ae + 1)) - 1)) < (aa.length : Int) then (if 0 ≤ (wrap64 ((wrap64 (ae + 1)) - 1)) then (if a1 = 0 then (none) else (some (Int.tmod (wrap64 (rd aa (wrap64 ((wrap64 (ae + 1)) - 1)))) a1, (wrap64 (ae + 1))))) else (none)) else (if (aa.length : Int) = 0 then (none) else (if 0 ≤ (Int.tmod (wrap64 ((wrap64 (ae + 1)) - 1)) (aa.length : Int)) then (if (Int.tmod (wrap64 ((wrap64 (ae + 1)) - 1)) (aa.length : Int)) < (aa.length : Int) then (if 0 ≤ (Int.tmod (wrap64 ((wrap64 ((wrap64 ((wrap64 (ae + 1)) - 1)) * 7)) + 3)) (aa.length : Int)) then (if (Int.tmod (wrap64 ((wrap64 ((wrap64 ((wrap64 (ae + 1)) - 1)) * 7)) + 3)) (aa.length : Int)) < (aa.length : Int) then (if a1 = 0 then (none) else (some (Int.tmod (Go.bits .xor .i64 (wrap64 ((wrap64 ((wrap64 ((wrap64 ((wrap64 (rd aa (Int.tmod (wrap64 ((wrap64 (ae + 1)) - 1)) (aa.length : Int)))) * 131)) + (wrap64 ((wrap64 (rd aa (Int.tmod (wrap64 ((wrap64 ((wrap64 ((wrap64 (ae + 1)) - 1)) * 7)) + 3)) (aa.length : Int)))) * 1117)))) + (wrap64 ((wrap64 ((wrap64 (ae + 1)) - 1)) * 29)))) + (wrap64 ((wrap64 (Int.tdiv (wrap64 ((wrap64 (ae + 1)) - 1)) (aa.length : Int))) * 53)))) (wrap64 (Int.tdiv (wrap64 ((wrap64 ((wrap64 ((wrap64 ((wrap64 (rd aa (Int.tmod (wrap64 ((wrap64 (ae + 1)) - 1)) (aa.length : Int)))) * 131)) + (wrap64 ((wrap64 (rd aa (Int.tmod (wrap64 ((wrap64 ((wrap64 ((wrap64 (ae + 1)) - 1)) * 7)) + 3)) (aa.length : Int)))) * 1117)))) + (wrap64 ((wrap64 ((wrap64 (ae + 1)) - 1)) * 29)))) + (wrap64 ((wrap64 (Int.tdiv (wrap64 ((wrap64 (ae + 1)) - 1)) (aa.length : Int))) * 53)))) 64))) a1, (wrap64 (ae + 1))))) else (none)) else (none)) else (none)) else (none)))) = some (r1, r2) := by rw [if_neg (show ¬ (false = true) by decide)] at H; exact H
    clear H; have H := H1; clear H1
    by_cases c8 : (wrap64 ((wrap64 (ae + 1)) - 1)) < (aa.length : Int)
    ·rw [if_pos c8] at H; have cG : decide ((wrap64 ((wrap64 (ae + 1)) - 1)) < (aa.length : Int)) = true := decide_eq_true c8; clear c8; obtain ⟨bd, bq⟩ : ∃ j_ : Int, (wrap64 ((wrap64 (ae + 1)) - 1)) = j_ := ⟨_, rfl⟩; replace H : (if 0 ≤ (bd) then (if a1 = 0 then (none) else (some (Int.tmod (wrap64 (rd aa (bd))) a1, (wrap64 (ae + 1))))) else (none)) = some (r1, r2) := by first | (rw [bq] at H; exact H) | (simp only [bq] at H ⊢; exact H)
     (try rw [bq] at cG); have eI : (IntKind.i64.wrap ((wrap64 (ae + 1)) - 1)) = bd := (i64_w _).trans bq
     by_cases c10 : 0 ≤ (bd)
     ·rw [if_pos c10] at H; have eJ : decide (0 ≤ (bd)) = true := decide_eq_true c10; clear c10
      by_cases b8 : a1 = 0
      ·rw [if_pos b8] at H; exact absurd H (by simp)
      ·rw [if_neg b8] at H; have eK : (a1 == 0) = false := beq_eq_false_iff_ne.mpr b8; have eL : (a1 != 0) = true := bne_iff_ne.mpr b8; simp only [Option.some.injEq, Prod.mk.injEq] at H; obtain ⟨rfl, rfl⟩ := H; obtain ⟨dL, dM, bl, cY, ck⟩ := bc.out; have ch := cellS61_0 bl; have ci := cellS61_1 bl; have cj := blk_frozen bl 1; clear bl cY; have bU : 0 ≤ ((bd) : Int) := of_decide_eq_true (G.asm); have bV : (bd) < (aa.length : Int) := of_decide_eq_true (G.asm); obtain ⟨eM, dD, bx⟩ := Kd.at_int ck (bd) bU bV; cases dD; replace bx := pw_cell_below HB.out bx; replace bU := eq_true bU; replace bV := eq_true bV
       go_wp2
       repeat (go_quiet (fail); try go_wp2)
       go_ret
       exact ⟨by first | rfl | (simp [errW_none, errW_some] <;> rfl) | (simp only [← bq]; first | rfl | (simp [errW_none, errW_some] <;> rfl)) | (simp [*, errW_none, errW_some] <;> rfl), caaK, caaI HB.out, G.cK HK.out⟩
     ·rw [if_neg c10] at H; exact absurd H (by simp)
    ·rw [if_neg c8] at H; have cG : decide ((wrap64 ((wrap64 (ae + 1)) - 1)) < (aa.length : Int)) = false := decide_eq_false c8; clear c8
     by_cases bP : (aa.length : Int) = 0
     ·rw [if_pos bP] at H; exact absurd H (by simp)
     ·rw [if_neg bP] at H; have eN : ((aa.length : Int) == 0) = false := beq_eq_false_iff_ne.mpr bP; have eO : ((aa.length : Int) != 0) = true := bne_iff_ne.mpr bP; have eP : ¬ (aa = []) := fun h_ => bP (by rw [h_]; rfl); obtain ⟨aq, bI⟩ : ∃ j_ : Int, (Int.tmod (wrap64 ((wrap64 (ae + 1)) - 1)) (aa.length : Int)) = j_ := ⟨_, rfl⟩; replace H : (if 0 ≤ (aq) then (if (aq) < (aa.length : Int) then (if 0 ≤ (Int.tmod (wrap64 ((wrap64 ((wrap64 ((wrap64 (ae + 1)) - 1)) * 7)) + 3)) (aa.length : Int)) then (if (Int.tmod (wrap64 ((wrap64 ((wrap64 ((wrap64 (ae + 1)) - 1)) * 7)) + 3)) (aa.length : Int)) < (aa.length : Int) then (if a1 = 0 then (none) else (some (Int.tmod (Go.bits .xor .i64 (wrap64 ((wrap64 ((wrap64 ((wrap64 ((wrap64 (rd aa (aq))) * 131)) + (wrap64 ((wrap64 (rd aa (Int.tmod (wrap64 ((wrap64 ((wrap64 ((wrap64 (ae + 1)) - 1)) * 7)) + 3)) (aa.length : Int)))) * 1117)))) + (wrap64 ((wrap64 ((wrap64 (ae + 1)) - 1)) * 29)))) + (wrap64 ((wrap64 (Int.tdiv (wrap64 ((wrap64 (ae + 1)) - 1)) (aa.length : Int))) * 53)))) (wrap64 (Int.tdiv (wrap64 ((wrap64 ((wrap64 ((wrap64 ((wrap64 (rd aa (aq))) * 131)) + (wrap64 ((wrap64 (rd aa (Int.tmod (wrap64 ((wrap64 ((wrap64 ((wrap64 (ae + 1)) - 1)) * 7)) + 3)) (aa.length : Int)))) * 1117)))) + (wrap64 ((wrap64 ((wrap64 (ae + 1)) - 1)) * 29)))) + (wrap64 ((wrap64 (Int.tdiv (wrap64 ((wrap64 (ae + 1)) - 1)) (aa.length : Int))) * 53)))) 64))) a1, (wrap64 (ae + 1))))) else (none)) else (none)) else (none)) else (none)) = some (r1, r2) := by first | (rw [bI] at H; exact H) | (simp only [bI] at H ⊢; exact H)
      by_cases b9 : 0 ≤ (aq)
      ·rw [if_pos b9] at H; have eQ : decide (0 ≤ (aq)) = true := decide_eq_true b9; clear b9
       by_cases b_ : (aq) < (aa.length : Int)
       ·rw [if_pos b_] at H; have eR : decide ((aq) < (aa.length : Int)) = true := decide_eq_true b_; clear b_; obtain ⟨aC, bJ⟩ : ∃ j_ : Int, (Int.tmod (wrap64 ((wrap64 ((wrap64 ((wrap64 (ae + 1)) - 1)) * 7)) + 3)) (aa.length : Int)) = j_ := ⟨_, rfl⟩; replace H : (if 0 ≤ (aC) then (if (aC) < (aa.length : Int) then (if a1 = 0 then (none) else (some (Int.tmod (Go.bits .xor .i64 (wrap64 ((wrap64 ((wrap64 ((wrap64 ((wrap64 (rd aa (aq))) * 131)) + (wrap64 ((wrap64 (rd aa (aC))) * 1117)))) + (wrap64 ((wrap64 ((wrap64 (ae + 1)) - 1)) * 29)))) + (wrap64 ((wrap64 (Int.tdiv (wrap64 ((wrap64 (ae + 1)) - 1)) (aa.length : Int))) * 53)))) (wrap64 (Int.tdiv (wrap64 ((wrap64 ((wrap64 ((wrap64 ((wrap64 (rd aa (aq))) * 131)) + (wrap64 ((wrap64 (rd aa (aC))) * 1117)))) + (wrap64 ((wrap64 ((wrap64 (ae + 1)) - 1)) * 29)))) + (wrap64 ((wrap64 (Int.tdiv (wrap64 ((wrap64 (ae + 1)) - 1)) (aa.length : Int))) * 53)))) 64))) a1, (wrap64 (ae + 1))))) else (none)) else (none)) = some (r1, r2) := by first | (rw [bJ] at H; exact H) | (simp only [bJ] at H ⊢; exact H)
        by_cases aW : 0 ≤ (aC)
        ·rw [if_pos aW] at H; have cJ : decide (0 ≤ (aC)) = true := decide_eq_true aW; clear aW
         by_cases aX : (aC) < (aa.length : Int)
         ·rw [if_pos aX] at H; have cL : decide ((aC) < (aa.length : Int)) = true := decide_eq_true aX; clear aX
          by_cases aZ : a1 = 0
          ·rw [if_pos aZ] at H; exact absurd H (by simp)
          ·rw [if_neg aZ] at H; have eS : (a1 == 0) = false := beq_eq_false_iff_ne.mpr aZ; have eT : (a1 != 0) = true := bne_iff_ne.mpr aZ; simp only [Option.some.injEq, Prod.mk.injEq] at H; obtain ⟨rfl, rfl⟩ := H; obtain ⟨dN, dO, bm, cZ, bz⟩ := bc.out; have dP := cellS61_0 bm; have dQ := cellS61_1 bm; have dR := blk_frozen bm 1; clear bm cZ; have bW : 0 ≤ ((aq) : Int) := of_decide_eq_true (G.asm); have bX : (aq) < (aa.length : Int) := of_decide_eq_true (G.asm); obtain ⟨c_, dE, bA⟩ := Kd.at_int bz (aq) bW bX; cases dE; replace bA := pw_cell_below HB.out bA; replace bW := eq_true bW; replace bX := eq_true bX; have bY : 0 ≤ ((aC) : Int) := of_decide_eq_true (G.asm); have bZ : (aC) < (aa.length : Int) := of_decide_eq_true (G.asm); obtain ⟨da, dF, bB⟩ := Kd.at_int bz (aC) bY bZ; obtain rfl : c_ = da := (by injection dF); replace bB := pw_cell_below HB.out bB; replace bY := eq_true bY; replace bZ := eq_true bZ
           go_wp2
           repeat (go_quiet (fail); try go_wp2)
           go_ret
           exact ⟨by first | rfl | (simp [errW_none, errW_some] <;> rfl) | (simp only [← bI, ← bJ]; first | rfl | (simp [errW_none, errW_some] <;> rfl)) | (simp [*, errW_none, errW_some] <;> rfl), caaK, caaI HB.out, G.cK HK.out⟩
         ·rw [if_neg aX] at H; exact absurd H (by simp)
        ·rw [if_neg aW] at H; exact absurd H (by simp)
       ·rw [if_neg b_] at H; exact absurd H (by simp)
      ·rw [if_neg b9] at H; exact absurd H (by simp)

/-! ### spec_l1Knot: function 39 -/
def spec_l1Knot.f (k : Nat) (ac : Int) (ab : List (S40)) (a1 : Int) : Option (Bool) := (spec_NetOk.f k ac ab).bind fun a_ => (if a_ = true then ((spec_l6In.f a1 0 (wrap64 (ac - 1))).bind fun aH => (some aH)) else (some false))
theorem spec_l1Knot.mono : ∀ a0 a1 a2 k, LeO (spec_l1Knot.f k a0 a1 a2) (spec_l1Knot.f (k + 1) a0 a1 a2) := by
 intro a0 a1 a2 k; unfold spec_l1Knot.f
 repeat' first | (with_reducible first | exact spec_NetOk.mono _ _ _ | exact LeO.refl _ | exact LeO.none _ | refine LeO.ite ?_ ?_ | refine LeO.bind ?_ (fun _ => ?_)) | exact spec_NetOk.mono _ _ _ | exact LeO.none _ | refine LeO.ite ?_ ?_ | refine LeO.bind ?_ (fun _ => ?_)
set_option maxHeartbeats 8000000 in
set_option maxRecDepth 100000 in
theorem spec_l1Knot.calls (k : Nat) (ac : Int) (ai : Option Addr) (aj : Nat) (ab : List (S40)) (a1 : Int) (r : Bool) (w : World) (aD : Kd.C k40 w ai ab.length ab) (aE : ab.length ≤ aj) (h : spec_l1Knot.f k ac ab a1 = some r) :
  Calls Try.prog 39 #[.agg #[.int .i64 ac, .slice ai ab.length aj], .int .i64 a1] w fun e w' => e = .returned (.bool r) ∧ Below w.heap.size w w' := by
 have cp := Try.underlying30; have au := G.m aD; have av := G.m aE; clear aD aE; have HB := G.m (Below.refl w.heap.size w); have H : ((spec_NetOk.f k ac ab).bind fun a_ => (if a_ = true then ((spec_l6In.f a1 0 (wrap64 (ac - 1))).bind fun aH => (some aH)) else (some false))) = some r := h; clear h; obtain ⟨a_, A3, H⟩ := G.bi H; replace H : (if a_ = true then ((spec_l6In.f a1 0 (wrap64 (ac - 1))).bind fun aH => (some aH)) else (some false)) = some r := H
 by_cases c4 : a_ = true
 ·subst c4; have H1 : ((spec_l6In.f a1 0 (wrap64 (ac - 1))).bind fun aH => (some aH)) = some r := by rw [if_pos rfl] at H; exact H
  clear H; have H := H1; clear H1; obtain ⟨aH, A5, H⟩ := G.bi H; replace H : (some aH) = some r := H; obtain rfl := Option.some.inj H
  go_enter Try.func39, Try.ntmps39
  go_wp2_with (first | ((with_reducible refine G.h 2 rfl ?_); refine G.be 2 #[.int .i64 ac, .slice ai ab.length aj] 30 ?_; intro a5 hg w6 hbox hb; have n0 := G.bs HB hb; have n1 := G.m (hbox); have n2 := G.m (caaF : w.heap.size ≤ a5); have n3 := G.m (caaF : w.heap.size ≤ a5); clear HB; revert n0 n1 n2 n3; intro HB aw db dc; clear hb hbox hg; have ⟨ep, eq, er, es⟩ := G.d2 (w := w6) aw) | ((with_reducible refine G.f 14 rfl ?_); refine G.gL 6 Try.func14 #[.agg #[.int .i64 ac, .slice ai ab.length aj]] ?_; (with_reducible refine (spec_NetOk.calls k ac _ _ ab true _ ?side1 ?side2 A3.out).mono ?_); (case side1 => exact G.cC (Kd.C_below au.out HB.out)); (case side2 => exact av.out); rintro e w8 ⟨rfl, hb⟩; refine ⟨_, rfl, ?_⟩; have n0 := G.bb aw hb; have n1 := G.bs HB hb; clear aw HB; revert n0 n1; intro aw HB; (try clear hb); have ⟨et, eu, ev, ew⟩ := G.d2 (w := w8) aw) | (go_at_call 25; (with_reducible refine (spec_l6In.calls a1 0 (wrap64 (ac - 1)) aH _ A5.out).mono ?_); rintro e w' ⟨rfl, ⟨nd, rfl⟩⟩))
  go_ret
  exact ⟨caaH, G.cB HB.out⟩
 ·replace c4 := Bool.eq_false_iff.mpr c4; subst c4; have H1 : (some false) = some r := by rw [if_neg (show ¬ (false = true) by decide)] at H; exact H
  clear H; have H := H1; clear H1; obtain rfl := Option.some.inj H
  go_enter Try.func39, Try.ntmps39
  go_wp2_with (first | ((with_reducible refine G.h 2 rfl ?_); refine G.be 2 #[.int .i64 ac, .slice ai ab.length aj] 30 ?_; intro a5 hg ex hbox hb; have n0 := G.bs HB hb; have n1 := G.m (hbox); have n2 := G.m (caaF : w.heap.size ≤ a5); have n3 := G.m (caaF : w.heap.size ≤ a5); clear HB; revert n0 n1 n2 n3; intro HB aw db dc; clear hb hbox hg; have ⟨dS, dT, dU, dV⟩ := G.d2 (w := ex) aw) | ((with_reducible refine G.f 14 rfl ?_); refine G.gL 6 Try.func14 #[.agg #[.int .i64 ac, .slice ai ab.length aj]] ?_; (with_reducible refine (spec_NetOk.calls k ac _ _ ab false _ ?side1 ?side2 A3.out).mono ?_); (case side1 => exact G.cC (Kd.C_below au.out HB.out)); (case side2 => exact av.out); rintro e dq ⟨rfl, hb⟩; refine ⟨_, rfl, ?_⟩; have n0 := G.bb aw hb; have n1 := G.bs HB hb; clear aw HB; revert n0 n1; intro aw HB; (try clear hb)))
  go_ret
  exact ⟨caaH, G.cB HB.out⟩

/-! ### spec_NetHas: function 43 -/
def spec_NetHas.f (k : Nat) (ac : Int) (ab : List (S40)) (a1 : Int) (a2 : Int) : Option (Bool) := (spec_NetOk.f k ac ab).bind fun ba => (if ba = true then ((spec_l1Has.f k ac ab a1 a2).bind fun aI => (some aI)) else (some false))
theorem spec_NetHas.mono : ∀ a0 a1 a2 a3 k, LeO (spec_NetHas.f k a0 a1 a2 a3) (spec_NetHas.f (k + 1) a0 a1 a2 a3) := by
 intro a0 a1 a2 a3 k; unfold spec_NetHas.f
 repeat' first | (with_reducible first | exact spec_NetOk.mono _ _ _ | exact spec_l1Has.mono _ _ _ _ _ | exact LeO.refl _ | exact LeO.none _ | refine LeO.ite ?_ ?_ | refine LeO.bind ?_ (fun _ => ?_)) | exact spec_NetOk.mono _ _ _ | exact spec_l1Has.mono _ _ _ _ _ | exact LeO.none _ | refine LeO.ite ?_ ?_ | refine LeO.bind ?_ (fun _ => ?_)
set_option maxHeartbeats 8000000 in
set_option maxRecDepth 100000 in
theorem spec_NetHas.calls (k : Nat) (ac : Int) (ai : Option Addr) (aj : Nat) (ab : List (S40)) (a1 : Int) (a2 : Int) (r : Bool) (w : World) (aD : Kd.C k40 w ai ab.length ab) (aE : ab.length ≤ aj) (h : spec_NetHas.f k ac ab a1 a2 = some r) :
  Calls Try.prog 43 #[.agg #[.int .i64 ac, .slice ai ab.length aj], .int .i64 a1, .int .i64 a2] w fun e w' => e = .returned (.bool r) ∧ Below w.heap.size w w' := by
 have cp := Try.underlying30; have au := G.m aD; have av := G.m aE; clear aD aE; have HB := G.m (Below.refl w.heap.size w); have H : ((spec_NetOk.f k ac ab).bind fun ba => (if ba = true then ((spec_l1Has.f k ac ab a1 a2).bind fun aI => (some aI)) else (some false))) = some r := h; clear h; obtain ⟨ba, A4, H⟩ := G.bi H; replace H : (if ba = true then ((spec_l1Has.f k ac ab a1 a2).bind fun aI => (some aI)) else (some false)) = some r := H
 by_cases c5 : ba = true
 ·subst c5; have H1 : ((spec_l1Has.f k ac ab a1 a2).bind fun aI => (some aI)) = some r := by rw [if_pos rfl] at H; exact H
  clear H; have H := H1; clear H1; obtain ⟨aI, A6, H⟩ := G.bi H; replace H : (some aI) = some r := H; obtain rfl := Option.some.inj H
  go_enter Try.func43, Try.ntmps43
  go_wp2_with (first | ((with_reducible refine G.h 3 rfl ?_); refine G.be 3 #[.int .i64 ac, .slice ai ab.length aj] 30 ?_; intro a6 hg w7 hbox hb; have n0 := G.bs HB hb; have n1 := G.m (hbox); have n2 := G.m (caaF : w.heap.size ≤ a6); have n3 := G.m (caaF : w.heap.size ≤ a6); clear HB; revert n0 n1 n2 n3; intro HB ao dd de; clear hb hbox hg; have ⟨cq, cr, ct, cu⟩ := G.d2 (w := w7) ao) | ((with_reducible refine G.f 14 rfl ?_); refine G.gL 8 Try.func14 #[.agg #[.int .i64 ac, .slice ai ab.length aj]] ?_; (with_reducible refine (spec_NetOk.calls k ac _ _ ab true _ ?side1 ?side2 A4.out).mono ?_); (case side1 => exact G.cC (Kd.C_below au.out HB.out)); (case side2 => exact av.out); rintro e w9 ⟨rfl, hb⟩; refine ⟨_, rfl, ?_⟩; have n0 := G.bb ao hb; have n1 := G.bs HB hb; clear ao HB; revert n0 n1; intro ao HB; (try clear hb); have ⟨cd, ce, cf, cg⟩ := G.d2 (w := w9) ao) | (go_at_call 15; (with_reducible refine (spec_l1Has.calls k ac _ _ ab a1 a2 aI _ ?side1 ?side2 A6.out).mono ?_); (case side1 => exact G.cC (Kd.C_below au.out HB.out)); (case side2 => exact av.out); rintro e ea ⟨rfl, hb⟩; have n0 := G.bb ao hb; have n1 := G.bs HB hb; clear ao HB; revert n0 n1; intro ao HB; (try clear hb)))
  go_ret
  exact ⟨caaH, G.cB HB.out⟩
 ·replace c5 := Bool.eq_false_iff.mpr c5; subst c5; have H1 : (some false) = some r := by rw [if_neg (show ¬ (false = true) by decide)] at H; exact H
  clear H; have H := H1; clear H1; obtain rfl := Option.some.inj H
  go_enter Try.func43, Try.ntmps43
  go_wp2_with (first | ((with_reducible refine G.h 3 rfl ?_); refine G.be 3 #[.int .i64 ac, .slice ai ab.length aj] 30 ?_; intro a6 hg dq hbox hb; have n0 := G.bs HB hb; have n1 := G.m (hbox); have n2 := G.m (caaF : w.heap.size ≤ a6); have n3 := G.m (caaF : w.heap.size ≤ a6); clear HB; revert n0 n1 n2 n3; intro HB ao dd de; clear hb hbox hg; have ⟨dW, dX, dY, dZ⟩ := G.d2 (w := dq) ao) | ((with_reducible refine G.f 14 rfl ?_); refine G.gL 8 Try.func14 #[.agg #[.int .i64 ac, .slice ai ab.length aj]] ?_; (with_reducible refine (spec_NetOk.calls k ac _ _ ab false _ ?side1 ?side2 A4.out).mono ?_); (case side1 => exact G.cC (Kd.C_below au.out HB.out)); (case side2 => exact av.out); rintro e fc ⟨rfl, hb⟩; refine ⟨_, rfl, ?_⟩; have n0 := G.bb ao hb; have n1 := G.bs HB hb; clear ao HB; revert n0 n1; intro ao HB; (try clear hb)))
  go_ret
  exact ⟨caaH, G.cB HB.out⟩

end Go.Proofs.Ytjkeagcenmmknaa.P
