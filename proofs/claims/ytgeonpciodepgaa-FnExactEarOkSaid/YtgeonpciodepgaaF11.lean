-- Printed by a program of this session (mp.py, over the kit's print). Not trusted: Lean checks it.
import Derived.Test.YtgeonpciodepgaaF0
import Derived.Test.YtgeonpciodepgaaF4
namespace Go.Proofs.Ytgeonpciodepgaa.P
open Go.RowKit Go.Proofs.YtgeonpciodepgaaW.PrintWords Go.Proofs.YtgeonpciodepgaaW.PrintLast Go.Proofs.YtgeonpciodepgaaW.PrintMore
attribute [local go_sem] max2_int min2_int max_two min_two max_three min_three max_four min_four   -- for this text's walks alone
set_option linter.unusedVariables false
set_option linter.unusedSimpArgs false

theorem cabf {p : Prop} (h : p := by (try simp only [List.map_toArray, List.map_cons, List.map_nil]); first | done | (rw [show (l0.take (af : Int).toNat).length = af.toNat from (by rw [List.length_take]; have h_ : (af : Int) ≤ (l0.length : Int) := of_decide_eq_true (G.asm); omega)] <;> rfl) | rfl | (simp only [List.length_drop, List.length_take]; rfl)) : p := h
theorem cabg {p : Prop} (h : p := by (try simp only [List.map_toArray, List.map_cons, List.map_nil]); first | done | (simp only [az]; rfl) | rfl | (simp only [List.length_drop, List.length_take]; rfl)) : p := h
theorem cabe {p : Prop} (h : p := by first | rfl | (simp [errW_none, errW_some] <;> rfl) | (simp [*, errW_none, errW_some] <;> rfl)) : p := h
theorem cabb {p : Prop} (h : p := by first | rfl | (simp; done) | (simp [*]; done)) : p := h
theorem cabd {p : Prop} (h : p := by rw [hg]; exact (below_size (G.cB HB.out))) : p := h
theorem cabc {p : Prop} (h : p := by kernel_rfl) : p := h
/-! ### impl_Net_knot: function 78 -/
def impl_Net_knot.f (ae : Int) (ac : List (S59)) (a1 : Int) : Option (Bool) := if a1 ≥ 0 then (some (decide (a1 < ae))) else (some false)
set_option maxHeartbeats 8000000 in
set_option maxRecDepth 100000 in
theorem impl_Net_knot.calls (ae : Int) (aj : Option Addr) (ak : Nat) (ac : List (S59)) (a1 : Int) (r : Bool) (w : World) (aK : Kd.C k59 w aj ac.length ac) (aL : ac.length ≤ ak) (h : impl_Net_knot.f ae ac a1 = some r) :
  Calls Try.prog 78 #[.agg #[.int .i64 ae, .slice aj ac.length ak], .int .i64 a1] w fun e w' => e = .returned (.bool r) ∧ Below w.heap.size w w' := by
 have bz := Try.underlying31; have aw := G.m aK; have ax := G.m aL; clear aK aL; have HB := G.m (Below.refl w.heap.size w); have H : (if a1 ≥ 0 then (some (decide (a1 < ae))) else (some false)) = some r := h; clear h
 by_cases c3 : a1 ≥ 0
 ·rw [if_pos c3] at H; have aT : decide (0 ≤ a1) = true := decide_eq_true c3; clear c3; obtain rfl := Option.some.inj H
  go_enter Try.func78, Try.ntmps78
  go_wp2_with (first | ((with_reducible refine G.h 2 rfl ?_); refine G.be 2 #[.int .i64 ae, .slice aj ac.length ak] 31 ?_; intro aM hg w4 hbox hb; have n0 := G.bs HB hb; have n1 := G.m (hbox); have n2 := G.m (cabd : w.heap.size ≤ aM); have n3 := G.m (cabd : w.heap.size ≤ aM); clear HB; revert n0 n1 n2 n3; intro HB a8 bp bq; clear hb hbox hg; have ⟨bC, bD, bE, bF⟩ := G.d2 (w := w4) a8))
  go_ret
  exact ⟨cabe, G.cB HB.out⟩
 ·rw [if_neg c3] at H; have aT : decide (0 ≤ a1) = false := decide_eq_false c3; clear c3; obtain rfl := Option.some.inj H
  go_enter Try.func78, Try.ntmps78
  go_wp2_with (first | ((with_reducible refine G.h 2 rfl ?_); refine G.be 2 #[.int .i64 ae, .slice aj ac.length ak] 31 ?_; intro aM hg w6 hbox hb; have n0 := G.bs HB hb; have n1 := G.m (hbox); have n2 := G.m (cabd : w.heap.size ≤ aM); have n3 := G.m (cabd : w.heap.size ≤ aM); clear HB; revert n0 n1 n2 n3; intro HB a8 bp bq; clear hb hbox hg))
  go_ret
  exact ⟨cabe, G.cB HB.out⟩

/-! ### impl_Net_walk: function 51 -/
def impl_Net_walk.l0 : Nat → List Int → List Int → Int → Int → Int → List (S59) → Option (Bool)
 | 0, _, _, _, _, _, _ => none
 | k + 1, x1, x7, x8, x9, aA, aB => if x9 < x8 then (if 0 ≤ x9 then (if x9 < (x7.length : Int) then ((impl_Net_knot.f aA aB (rd x7 x9)).bind fun aU => (if aU = true then (if x9 > 0 then (if 0 ≤ (wrap64 (x9 - 1)) then (if (wrap64 (x9 - 1)) < (x1.length : Int) then ((impl_Net_has.f k aA aB (rd x1 (wrap64 (x9 - 1))) (rd x7 x9)).bind fun av => (if av = true then (impl_Net_walk.l0 k x1 x7 x8 (wrap64 (x9 + 1)) aA aB) else (some false))) else (none)) else (none)) else (impl_Net_walk.l0 k x1 x7 x8 (wrap64 (x9 + 1)) aA aB)) else (some false))) else (none)) else (none)) else (some true)
def impl_Net_walk.f (k : Nat) (ae : Int) (ac : List (S59)) (l1 : List Int) : Option (Bool) := impl_Net_walk.l0 k l1 l1 (l1.length : Int) 0 ae ac
theorem impl_Net_walk.mono_l : ∀ k, (∀ y0 y1 y2 y3 y4 y5, LeO (impl_Net_walk.l0 k y0 y1 y2 y3 y4 y5) (impl_Net_walk.l0 (k + 1) y0 y1 y2 y3 y4 y5))
 | 0 => fun _ _ _ _ _ _ r h => by simp [impl_Net_walk.l0] at h
 | k + 1 => by
  have au := impl_Net_walk.mono_l k
  ·intro y0 y1 y2 y3 y4 y5; unfold impl_Net_walk.l0
   repeat' first
   | (with_reducible exact au _ _ _ _ _ _)
   | (with_reducible exact impl_Net_has.mono _ _ _ _ _)
   | (with_reducible exact LeO.refl _)
   | (with_reducible exact LeO.none _)
   | (with_reducible refine LeO.ite ?_ ?_)
   | (with_reducible refine LeO.bind ?_ (fun _ => ?_))
   | exact au _ _ _ _ _ _
   | exact impl_Net_has.mono _ _ _ _ _
   | exact LeO.none _
   | refine LeO.ite ?_ ?_
   | refine LeO.bind ?_ (fun _ => ?_)
theorem impl_Net_walk.mono : ∀ a0 a1 a2 k, LeO (impl_Net_walk.f k a0 a1 a2) (impl_Net_walk.f (k + 1) a0 a1 a2) := by
 intro a0 a1 a2 k; have au := impl_Net_walk.mono_l k; unfold impl_Net_walk.f
 repeat' first | (with_reducible first | exact au _ _ _ _ _ _ | exact impl_Net_has.mono _ _ _ _ _ | exact LeO.refl _ | exact LeO.none _ | refine LeO.ite ?_ ?_ | refine LeO.bind ?_ (fun _ => ?_)) | exact au _ _ _ _ _ _ | exact impl_Net_has.mono _ _ _ _ _ | exact LeO.none _ | refine LeO.ite ?_ ?_ | refine LeO.bind ?_ (fun _ => ?_)
def impl_Net_walk.T4 : Bool × List (List Nat × List Nat) := (true, [([], []), ([], []), ([0, 1], [0, 1]), ([2], [2]), ([3, 2], [3]), ([4], [4]), ([5, 4], [4, 5]), ([6, 4, 4], [4, 6]), ([7], [7]), ([7], [7]), ([7], [7]), ([10, 7], [7, 10]), ([9, 11, 7], [7, 9, 11]), ([12, 7], [7, 12]), ([7], [7]), ([8, 13, 14, 7, 7], [7, 8, 13, 14]), ([15, 7], [7, 15]), ([7, 16, 4], [4, 7, 16]), ([4, 17], [4, 17])])
def impl_Net_walk.B4 : List Nat := [0, 0, 3, 7, 15, 31, 63, 127, 255, 255, 255, 1279, 3839, 7935, 255, 32767, 65535, 131071, 262143]
theorem impl_Net_walk.tab4 : rtab .any (opsOf Try.f51 4) = impl_Net_walk.T4 := by kernel_rfl
theorem impl_Net_walk.bits4 : waitsOk impl_Net_walk.T4.2 impl_Net_walk.B4 = true := by kernel_rfl
set_option maxHeartbeats 8000000 in
set_option maxRecDepth 100000 in
theorem impl_Net_walk.calls (k : Nat) (ae : Int) (aj : Option Addr) (ak : Nat) (ac : List (S59)) (A1 : Option Addr) (c1 : Nat) (l1 : List Int) (r : Bool) (w : World) (aK : Kd.C k59 w aj ac.length ac) (aL : ac.length ≤ ak) (hr1 : Kd.C (Kd.int .i64) w A1 l1.length l1) (bu : l1.length ≤ c1) (h : impl_Net_walk.f k ae ac l1 = some r) :
  Calls Try.prog 51 #[.agg #[.int .i64 ae, .slice aj ac.length ak], .slice A1 l1.length c1] w fun e w' => e = .returned (.bool r) ∧ Below w.heap.size w w' := by
 have bz := Try.underlying31; have aw := G.m aK; have ax := G.m aL; clear aK aL; have aS := G.m hr1; have bO := G.m bu; clear hr1 bu; have HB := G.m (Below.refl w.heap.size w); have H : (impl_Net_walk.l0 k l1 l1 (l1.length : Int) 0 ae ac) = some r := h; clear h; have H' := G.m H; clear H
 go_enter Try.func51, Try.ntmps51
 go_wp2_with (first | ((with_reducible refine G.h 2 rfl ?_); refine G.be 2 #[.int .i64 ae, .slice aj ac.length ak] 31 ?_; intro ap hg w3 hbox hb; have n0 := G.bs HB hb; have n1 := G.m (hbox); have n2 := G.m (cabd : w.heap.size ≤ ap); have n3 := G.m (cabd : w.heap.size ≤ ap); clear HB; revert n0 n1 n2 n3; intro HB aa bI bJ; clear hb hbox hg))
 go_loopg [9] k (fun kq v9 w' => ∃ (ab : Int), v9 = .int .i64 ab ∧ Aside0 (impl_Net_walk.l0 kq l1 l1 (l1.length : Int) ab ae ac = some r) ∧ Aside0 (kq ≤ k) ∧ Aside0 (w'.heap[ap]? = some (.cells #[.int .i64 ae, (.slice aj ac.length ak)] 31 (0, 0))) ∧ Aside0 (Below w.heap.size w w'))
 case atStart => exact ⟨(0), (cabb), H', ⟨Nat.le_refl _⟩, ⟨G.cb aa.out⟩, ⟨G.cB HB.out⟩⟩
 case round =>
  clear H'; obtain ⟨ab, rfl, HA, aC, aa, HB⟩ := hrel; cases gk with
  | zero => exact absurd HA.out (by simp [impl_Net_walk.l0])
  | succ k1 =>
   have H := HA.out; clear HA; simp only [impl_Net_walk.l0] at H
   by_cases c4 : ab < (l1.length : Int)
   ·rw [if_pos c4] at H; have a3 : decide (ab < (l1.length : Int)) = true := decide_eq_true c4; clear c4
    by_cases c5 : 0 ≤ ab
    ·rw [if_pos c5] at H; have bj : decide (0 ≤ ab) = true := decide_eq_true c5; clear c5
     by_cases c6 : ab < (l1.length : Int)
     ·rw [if_pos c6] at H; have a4 : decide (ab < (l1.length : Int)) = true := decide_eq_true c6; clear c6; obtain ⟨aU, A7, H⟩ := G.bi H; replace H : (if aU = true then (if ab > 0 then (if 0 ≤ (wrap64 (ab - 1)) then (if (wrap64 (ab - 1)) < (l1.length : Int) then ((impl_Net_has.f k1 ae ac (rd l1 (wrap64 (ab - 1))) (rd l1 ab)).bind fun av => (if av = true then (impl_Net_walk.l0 k1 l1 l1 (l1.length : Int) (wrap64 (ab + 1)) ae ac) else (some false))) else (none)) else (none)) else (impl_Net_walk.l0 k1 l1 l1 (l1.length : Int) (wrap64 (ab + 1)) ae ac)) else (some false)) = some r := H
      by_cases c8 : aU = true
      ·subst c8; have H1 : (if ab > 0 then (if 0 ≤ (wrap64 (ab - 1)) then (if (wrap64 (ab - 1)) < (l1.length : Int) then ((impl_Net_has.f k1 ae ac (rd l1 (wrap64 (ab - 1))) (rd l1 ab)).bind fun av => (if av = true then (impl_Net_walk.l0 k1 l1 l1 (l1.length : Int) (wrap64 (ab + 1)) ae ac) else (some false))) else (none)) else (none)) else (impl_Net_walk.l0 k1 l1 l1 (l1.length : Int) (wrap64 (ab + 1)) ae ac)) = some r := by rw [if_pos rfl] at H; exact H
       clear H; have H := H1; clear H1
       by_cases c9 : ab > 0
       ·rw [if_pos c9] at H; have bA : decide (0 < ab) = true := decide_eq_true c9; clear c9; obtain ⟨ag, az⟩ : ∃ j_ : Int, (wrap64 (ab - 1)) = j_ := ⟨_, rfl⟩; replace H : (if 0 ≤ (ag) then (if (ag) < (l1.length : Int) then ((impl_Net_has.f k1 ae ac (rd l1 (ag)) (rd l1 ab)).bind fun av => (if av = true then (impl_Net_walk.l0 k1 l1 l1 (l1.length : Int) (wrap64 (ab + 1)) ae ac) else (some false))) else (none)) else (none)) = some r := by first | (rw [az] at H; exact H) | (simp only [az] at H ⊢; exact H)
        (try rw [az] at A7); have bG : (IntKind.i64.wrap (ab - 1)) = ag := (i64_w _).trans az
        by_cases a9 : 0 ≤ (ag)
        ·rw [if_pos a9] at H; have bK : decide (0 ≤ (ag)) = true := decide_eq_true a9; clear a9
         by_cases a_ : (ag) < (l1.length : Int)
         ·rw [if_pos a_] at H; have bL : decide ((ag) < (l1.length : Int)) = true := decide_eq_true a_; clear a_; obtain ⟨av, bv, H⟩ := G.bi H; replace H : (if av = true then (impl_Net_walk.l0 k1 l1 l1 (l1.length : Int) (wrap64 (ab + 1)) ae ac) else (some false)) = some r := H
          by_cases ba : av = true
          ·subst ba; have H1 : (impl_Net_walk.l0 k1 l1 l1 (l1.length : Int) (wrap64 (ab + 1)) ae ac) = some r := by rw [if_pos rfl] at H; exact H
           clear H; have H := H1; clear H1; have H' := G.m H; clear H; have am : 0 ≤ (ab : Int) := of_decide_eq_true (G.asm); have ao : ab < (l1.length : Int) := of_decide_eq_true (G.asm); obtain ⟨ay, aD, ai⟩ := Kd.at_int aS.out ab am ao; cases aD; replace ai := G.hx HB ai; replace am := eq_true am; replace ao := eq_true ao; try go_wp2
           have n0 := G.m (blk_drew aa.out); have n1 := G.m (below_drew1 HB.out); clear aa HB; revert n0 n1; intro aa HB; have aE : 0 ≤ ((ag) : Int) := of_decide_eq_true (G.asm); have aF : (ag) < (l1.length : Int) := of_decide_eq_true (G.asm); obtain ⟨aV, a5, al⟩ := Kd.at_int aS.out (ag) aE aF; have aq := al; obtain rfl : ay = aV := (by injection a5); replace al := G.hx HB al; replace aE := eq_true aE; replace aF := eq_true aF; refine G.st 19 (S := fun w' => w'.cell? ⟨ap, 0, none⟩ = some (.int .i64 ae) ∧ w'.cell? ⟨ap, 1, none⟩ = some (.slice aj ac.length ak) ∧ w'.cell? (ay.add ((ag)).toNat) = some (.int .i64 (rd l1 (ag)))) [] ⟨G.z aa 0, G.z aa 1, (G.hx HB aq)⟩ impl_Net_walk.tab4 impl_Net_walk.bits4 (fun hHeld HT_ HW_ => ?_); generalize wr.drew = bP at aa HB al hHeld ⊢; refine G.pu 1 15 2 ?_; refine G.ta3 0 14 3 ?_; refine G.on 2 16 7 (fun K hK => ?_); refine G.gs Try.func78 #[.agg #[.int .i64 ae, .slice aj ac.length ak], .int .i64 (rd l1 ab)] ?_; with_reducible refine (impl_Net_knot.calls ae _ _ ac (rd l1 ab) true _ ?side1 ?side2 A7.out).mono ?_
           (case side1 => exact G.cC (Kd.C_below aw.out HB.out)); (case side2 => exact ax.out); rintro e bQ ⟨rfl, hb⟩; refine ⟨_, rfl, ?_⟩; have n0 := G.bb aa hb; have n1 := G.bs HB hb; clear aa HB; revert n0 n1; intro aa HB; (try clear hb); refine hK.out _ _ ⟨G.z aa 0, G.z aa 1, (G.hx HB aq)⟩ (fun hHeld => ?_); clear hK K; refine G.no 16 ?_; refine G.pu 3 17 15 ?_; refine G.pu 4 18 31 ?_; refine G.pu 5 19 63 ?_; refine G.pu 6 20 127 ?_; refine G.pu 7 21 255 ?_; refine G.pu 9 23 767 ?_; refine G.pu 10 24 1791 ?_; refine G.pu 11 25 3839 ?_; refine G.pu 12 26 7935 ?_; refine G.pu 14 28 24319 ?_; refine G.ta3 8 22 24575 ?_; refine G.ta3 13 27 32767 ?_; refine G.on 15 29 65535 (fun K hK => ?_); refine goes_ Try.func65 (cabc) rfl #[.agg #[.int .i64 ae, .slice aj ac.length ak], .int .i64 (rd l1 (ag)), .int .i64 (rd l1 ab)] (by rfl) rfl rfl (cabg) ?_; with_reducible refine (impl_Net_has.calls k1 ae _ _ ac (rd l1 (ag)) (rd l1 ab) true _ ?side1 ?side2 bv.out).mono ?_
           (case side1 => exact G.cC (Kd.C_below aw.out HB.out)); (case side2 => exact ax.out); rintro e bR ⟨rfl, hb⟩; refine ⟨_, rfl, ?_⟩; have n0 := G.bb aa hb; have n1 := G.bs HB hb; clear aa HB; revert n0 n1; intro aa HB; (try clear hb); refine hK.out _ _ ⟨G.z aa 0, G.z aa 1, (G.hx HB aq)⟩ (fun hHeld => ?_); clear hK K; refine G.no 29 ?_; refine G.pu 16 30 131071 ?_; refine G.pu 17 31 262143 ?_; refine G.pu 18 32 524287 ?_; refine done_ (done_of HT_.out (cabc)) ?_; try go_wp2
           go_roundg k1
           case measure => have := aC.out; omega
           case rel => exact ⟨(wrap64 (ab + 1)), (cabb), H', ⟨by have := aC.out; omega⟩, ⟨G.cb aa.out⟩, ⟨G.cB HB.out⟩⟩
          ·replace ba := Bool.eq_false_iff.mpr ba; subst ba; have H1 : (some false) = some r := by rw [if_neg (show ¬ (false = true) by decide)] at H; exact H
           clear H; have H := H1; clear H1; obtain rfl := Option.some.inj H; have am : 0 ≤ (ab : Int) := of_decide_eq_true (G.asm); have ao : ab < (l1.length : Int) := of_decide_eq_true (G.asm); obtain ⟨ay, aD, ai⟩ := Kd.at_int aS.out ab am ao; cases aD; replace ai := G.hx HB ai; replace am := eq_true am; replace ao := eq_true ao; try go_wp2
           have n0 := G.m (blk_drew aa.out); have n1 := G.m (below_drew1 HB.out); clear aa HB; revert n0 n1; intro aa HB; have aE : 0 ≤ ((ag) : Int) := of_decide_eq_true (G.asm); have aF : (ag) < (l1.length : Int) := of_decide_eq_true (G.asm); obtain ⟨aV, a5, al⟩ := Kd.at_int aS.out (ag) aE aF; have aq := al; obtain rfl : ay = aV := (by injection a5); replace al := G.hx HB al; replace aE := eq_true aE; replace aF := eq_true aF; refine G.st 19 (S := fun w' => w'.cell? ⟨ap, 0, none⟩ = some (.int .i64 ae) ∧ w'.cell? ⟨ap, 1, none⟩ = some (.slice aj ac.length ak) ∧ w'.cell? (ay.add ((ag)).toNat) = some (.int .i64 (rd l1 (ag)))) [] ⟨G.z aa 0, G.z aa 1, (G.hx HB aq)⟩ impl_Net_walk.tab4 impl_Net_walk.bits4 (fun hHeld HT_ HW_ => ?_); generalize wr.drew = bS at aa HB al hHeld ⊢; refine G.pu 1 15 2 ?_; refine G.ta3 0 14 3 ?_; refine G.on 2 16 7 (fun K hK => ?_); refine G.gs Try.func78 #[.agg #[.int .i64 ae, .slice aj ac.length ak], .int .i64 (rd l1 ab)] ?_; with_reducible refine (impl_Net_knot.calls ae _ _ ac (rd l1 ab) true _ ?side1 ?side2 A7.out).mono ?_
           (case side1 => exact G.cC (Kd.C_below aw.out HB.out)); (case side2 => exact ax.out); rintro e bT ⟨rfl, hb⟩; refine ⟨_, rfl, ?_⟩; have n0 := G.bb aa hb; have n1 := G.bs HB hb; clear aa HB; revert n0 n1; intro aa HB; (try clear hb); refine hK.out _ _ ⟨G.z aa 0, G.z aa 1, (G.hx HB aq)⟩ (fun hHeld => ?_); clear hK K; refine G.no 16 ?_; refine G.pu 3 17 15 ?_; refine G.pu 4 18 31 ?_; refine G.pu 5 19 63 ?_; refine G.pu 6 20 127 ?_; refine G.pu 7 21 255 ?_; refine G.pu 9 23 767 ?_; refine G.pu 10 24 1791 ?_; refine G.pu 11 25 3839 ?_; refine G.pu 12 26 7935 ?_; refine G.pu 14 28 24319 ?_; refine G.ta3 8 22 24575 ?_; refine G.ta3 13 27 32767 ?_; refine G.on 15 29 65535 (fun K hK => ?_); refine goes_ Try.func65 (cabc) rfl #[.agg #[.int .i64 ae, .slice aj ac.length ak], .int .i64 (rd l1 (ag)), .int .i64 (rd l1 ab)] (by rfl) rfl rfl (cabg) ?_; with_reducible refine (impl_Net_has.calls k1 ae _ _ ac (rd l1 (ag)) (rd l1 ab) false _ ?side1 ?side2 bv.out).mono ?_
           (case side1 => exact G.cC (Kd.C_below aw.out HB.out)); (case side2 => exact ax.out); rintro e bU ⟨rfl, hb⟩; refine ⟨_, rfl, ?_⟩; have n0 := G.bb aa hb; have n1 := G.bs HB hb; clear aa HB; revert n0 n1; intro aa HB; (try clear hb); refine hK.out _ _ ⟨G.z aa 0, G.z aa 1, (G.hx HB aq)⟩ (fun hHeld => ?_); clear hK K; refine G.no 29 ?_; refine G.pu 16 30 131071 ?_; refine G.pu 17 31 262143 ?_; refine G.pu 18 32 524287 ?_; refine done_ (done_of HT_.out (cabc)) ?_; try go_wp2
           go_ret
           exact ⟨by first | rfl | (simp [errW_none, errW_some] <;> rfl) | (simp only [← az]; first | rfl | (simp [errW_none, errW_some] <;> rfl)) | (simp [*, errW_none, errW_some] <;> rfl), G.cB HB.out⟩
         ·rw [if_neg a_] at H; exact absurd H (by simp)
        ·rw [if_neg a9] at H; exact absurd H (by simp)
       ·rw [if_neg c9] at H; have bA : decide (0 < ab) = false := decide_eq_false c9; clear c9; have H' := G.m H; clear H; have am : 0 ≤ (ab : Int) := of_decide_eq_true (G.asm); have ao : ab < (l1.length : Int) := of_decide_eq_true (G.asm); obtain ⟨ay, aD, ai⟩ := Kd.at_int aS.out ab am ao; cases aD; replace ai := G.hx HB ai; replace am := eq_true am; replace ao := eq_true ao; try go_wp2
        have n0 := G.m (blk_drew aa.out); have n1 := G.m (below_drew1 HB.out); clear aa HB; revert n0 n1; intro aa HB; refine G.st 19 (S := fun w' => w'.cell? ⟨ap, 0, none⟩ = some (.int .i64 ae) ∧ w'.cell? ⟨ap, 1, none⟩ = some (.slice aj ac.length ak)) [] ⟨G.z aa 0, G.z aa 1⟩ impl_Net_walk.tab4 impl_Net_walk.bits4 (fun hHeld HT_ HW_ => ?_); generalize wr.drew = bV at aa HB hHeld ⊢; refine G.pu 1 15 2 ?_; refine G.ta2 0 14 3 ?_; refine G.on 2 16 7 (fun K hK => ?_); refine G.gs Try.func78 #[.agg #[.int .i64 ae, .slice aj ac.length ak], .int .i64 (rd l1 ab)] ?_; with_reducible refine (impl_Net_knot.calls ae _ _ ac (rd l1 ab) true _ ?side1 ?side2 A7.out).mono ?_
        (case side1 => exact G.cC (Kd.C_below aw.out HB.out)); (case side2 => exact ax.out); rintro e bW ⟨rfl, hb⟩; refine ⟨_, rfl, ?_⟩; have n0 := G.bb aa hb; have n1 := G.bs HB hb; clear aa HB; revert n0 n1; intro aa HB; (try clear hb); refine hK.out _ _ ⟨G.z aa 0, G.z aa 1⟩ (fun hHeld => ?_); clear hK K; refine G.no 16 ?_; refine G.pu 3 17 15 ?_; refine G.pu 4 18 31 ?_; refine G.pu 5 19 63 ?_; refine G.pu 6 20 127 ?_; refine G.pu 7 21 255 ?_; refine G.pf 8 22 511 ?_; refine G.pf 9 23 1023 ?_; refine G.pf 10 24 2047 ?_; refine G.pf 11 25 4095 ?_; refine G.pf 12 26 8191 ?_; refine G.pf 13 27 16383 ?_; refine G.pf 14 28 32767 ?_; refine G.pf 15 29 65535 ?_; refine G.pf 16 30 131071 ?_; refine G.pu 17 31 262143 ?_; refine G.pu 18 32 524287 ?_; refine done_ (done_of HT_.out (cabc)) ?_; try go_wp2
        go_roundg k1
        case measure => have := aC.out; omega
        case rel => exact ⟨(wrap64 (ab + 1)), (cabb), H', ⟨by have := aC.out; omega⟩, ⟨G.cb aa.out⟩, ⟨G.cB HB.out⟩⟩
      ·replace c8 := Bool.eq_false_iff.mpr c8; subst c8; have H1 : (some false) = some r := by rw [if_neg (show ¬ (false = true) by decide)] at H; exact H
       clear H; have H := H1; clear H1; obtain rfl := Option.some.inj H; have am : 0 ≤ (ab : Int) := of_decide_eq_true (G.asm); have ao : ab < (l1.length : Int) := of_decide_eq_true (G.asm); obtain ⟨ay, aD, ai⟩ := Kd.at_int aS.out ab am ao; cases aD; replace ai := G.hx HB ai; replace am := eq_true am; replace ao := eq_true ao; try go_wp2
       have n0 := G.m (blk_drew aa.out); have n1 := G.m (below_drew1 HB.out); clear aa HB; revert n0 n1; intro aa HB; refine G.st 19 (S := fun w' => w'.cell? ⟨ap, 0, none⟩ = some (.int .i64 ae) ∧ w'.cell? ⟨ap, 1, none⟩ = some (.slice aj ac.length ak)) [] ⟨G.z aa 0, G.z aa 1⟩ impl_Net_walk.tab4 impl_Net_walk.bits4 (fun hHeld HT_ HW_ => ?_); generalize wr.drew = bX at aa HB hHeld ⊢; refine G.pu 1 15 2 ?_; refine G.ta2 0 14 3 ?_; refine G.on 2 16 7 (fun K hK => ?_); refine G.gs Try.func78 #[.agg #[.int .i64 ae, .slice aj ac.length ak], .int .i64 (rd l1 ab)] ?_; with_reducible refine (impl_Net_knot.calls ae _ _ ac (rd l1 ab) false _ ?side1 ?side2 A7.out).mono ?_
       (case side1 => exact G.cC (Kd.C_below aw.out HB.out)); (case side2 => exact ax.out); rintro e bY ⟨rfl, hb⟩; refine ⟨_, rfl, ?_⟩; have n0 := G.bb aa hb; have n1 := G.bs HB hb; clear aa HB; revert n0 n1; intro aa HB; (try clear hb); refine hK.out _ _ ⟨G.z aa 0, G.z aa 1⟩ (fun hHeld => ?_); clear hK K; refine G.no 16 ?_; refine G.pu 3 17 15 ?_; refine G.pu 4 18 31 ?_; refine G.pf 5 19 63 ?_; refine G.pf 6 20 127 ?_; refine G.pf 7 21 255 ?_; refine G.pf 8 22 511 ?_; refine G.pf 9 23 1023 ?_; refine G.pf 10 24 2047 ?_; refine G.pf 11 25 4095 ?_; refine G.pf 12 26 8191 ?_; refine G.pf 13 27 16383 ?_; refine G.pf 14 28 32767 ?_; refine G.pf 15 29 65535 ?_; refine G.pf 16 30 131071 ?_; refine G.pf 17 31 262143 ?_; refine G.pu 18 32 524287 ?_; refine done_ (done_of HT_.out (cabc)) ?_; try go_wp2
       go_ret
       exact ⟨cabe, G.cB HB.out⟩
     ·rw [if_neg c6] at H; exact absurd H (by simp)
    ·rw [if_neg c5] at H; exact absurd H (by simp)
   ·rw [if_neg c4] at H; have a3 : decide (ab < (l1.length : Int)) = false := decide_eq_false c4; clear c4; obtain rfl := Option.some.inj H
    go_wp2
    go_ret
    exact ⟨cabe, G.cB HB.out⟩

/-! ### slices_Index_int_int: function 114 -/
def slices_Index_int_int.l0 : Nat → List Int → Int → Int → Int → Option (Int)
 | 0, _, _, _, _ => none
 | k + 1, x0, x1, x7, x8 => if x8 < x7 then (if 0 ≤ x8 then (if x8 < (x0.length : Int) then (if x1 = (rd x0 x8) then (some x8) else (slices_Index_int_int.l0 k x0 x1 x7 (wrap64 (x8 + 1)))) else (none)) else (none)) else (some (-1))
def slices_Index_int_int.f (k : Nat) (l0 : List Int) (a1 : Int) : Option (Int) := slices_Index_int_int.l0 k l0 a1 (l0.length : Int) 0
theorem slices_Index_int_int.mono_l : ∀ k, (∀ y0 y1 y2 y3, LeO (slices_Index_int_int.l0 k y0 y1 y2 y3) (slices_Index_int_int.l0 (k + 1) y0 y1 y2 y3))
 | 0 => fun _ _ _ _ r h => by simp [slices_Index_int_int.l0] at h
 | k + 1 => by
  have au := slices_Index_int_int.mono_l k
  ·intro y0 y1 y2 y3; unfold slices_Index_int_int.l0
   repeat' first
   | (with_reducible exact au _ _ _ _)
   | (with_reducible exact LeO.refl _)
   | (with_reducible exact LeO.none _)
   | (with_reducible refine LeO.ite ?_ ?_)
   | (with_reducible refine LeO.bind ?_ (fun _ => ?_))
   | exact au _ _ _ _
   | exact LeO.none _
   | refine LeO.ite ?_ ?_
   | refine LeO.bind ?_ (fun _ => ?_)
theorem slices_Index_int_int.mono : ∀ a0 a1 k, LeO (slices_Index_int_int.f k a0 a1) (slices_Index_int_int.f (k + 1) a0 a1) := by
 intro a0 a1 k; have au := slices_Index_int_int.mono_l k; unfold slices_Index_int_int.f
 repeat' first | (with_reducible first | exact au _ _ _ _ | exact LeO.refl _ | exact LeO.none _ | refine LeO.ite ?_ ?_ | refine LeO.bind ?_ (fun _ => ?_)) | exact au _ _ _ _ | exact LeO.none _ | refine LeO.ite ?_ ?_ | refine LeO.bind ?_ (fun _ => ?_)
set_option maxHeartbeats 8000000 in
set_option maxRecDepth 100000 in
theorem slices_Index_int_int.calls (k : Nat) (A0 : Option Addr) (c0 : Nat) (l0 : List Int) (a1 : Int) (r : Int) (w : World) (aQ : Kd.C (Kd.int .i64) w A0 l0.length l0) (aR : l0.length ≤ c0) (h : slices_Index_int_int.f k l0 a1 = some r) :
  Calls Try.prog 114 #[.slice A0 l0.length c0, .int .i64 a1] w fun e w' => e = .returned (.int .i64 r) ∧ Drawn0 w w' := by
 have aN := G.m aQ; have aZ := G.m aR; clear aQ aR; have H : (slices_Index_int_int.l0 k l0 a1 (l0.length : Int) 0) = some r := h; clear h; have H' := G.m H; clear H
 go_enter Try.func114, Try.ntmps114
 go_wp2
 go_loopg [8] k (fun kq v8 w' => ∃ (ah : Int), v8 = .int .i64 ah ∧ Aside0 (slices_Index_int_int.l0 kq l0 a1 (l0.length : Int) ah = some r) ∧ Aside0 (kq ≤ k) ∧ Drawn0 w w')
 case atStart => exact ⟨(0), (cabb), H', ⟨Nat.le_refl _⟩, by repeat (first | exact Drawn0.refl _ | apply Drawn0.step)⟩
 case round =>
  clear H'; obtain ⟨ah, rfl, HA, aC, ⟨m1, rfl⟩⟩ := hrel; cases gk with
  | zero => exact absurd HA.out (by simp [slices_Index_int_int.l0])
  | succ k1 =>
   have H := HA.out; clear HA; simp only [slices_Index_int_int.l0] at H
   by_cases c3 : ah < (l0.length : Int)
   ·rw [if_pos c3] at H; have aT : decide (ah < (l0.length : Int)) = true := decide_eq_true c3; clear c3
    by_cases c4 : 0 ≤ ah
    ·rw [if_pos c4] at H; have a3 : decide (0 ≤ ah) = true := decide_eq_true c4; clear c4
     by_cases c5 : ah < (l0.length : Int)
     ·rw [if_pos c5] at H; have bj : decide (ah < (l0.length : Int)) = true := decide_eq_true c5; clear c5
      by_cases c6 : a1 = (rd l0 ah)
      ·rw [if_pos c6] at H; have a4 : (a1 == (rd l0 ah)) = true := beq_iff_eq.mpr c6; have bk : (a1 != (rd l0 ah)) = false := bne_eq_false_iff_eq.mpr c6; clear c6; obtain rfl := Option.some.inj H; have aG : 0 ≤ (ah : Int) := of_decide_eq_true (G.asm); have aH : ah < (l0.length : Int) := of_decide_eq_true (G.asm); obtain ⟨br, a6, bf⟩ := Kd.at_int aN.out ah aG aH; cases a6; replace aG := eq_true aG; replace aH := eq_true aH
       go_wp2
       go_ret
       exact ⟨cabb, by repeat (first | exact Drawn0.refl _ | apply Drawn0.step)⟩
      ·rw [if_neg c6] at H; have a4 : (a1 == (rd l0 ah)) = false := beq_eq_false_iff_ne.mpr c6; have bk : (a1 != (rd l0 ah)) = true := bne_iff_ne.mpr c6; have H' := G.m H; clear H; have aG : 0 ≤ (ah : Int) := of_decide_eq_true (G.asm); have aH : ah < (l0.length : Int) := of_decide_eq_true (G.asm); obtain ⟨br, a6, bf⟩ := Kd.at_int aN.out ah aG aH; cases a6; replace aG := eq_true aG; replace aH := eq_true aH
       go_wp2
       go_roundg k1
       case measure => have := aC.out; omega
       case rel => exact ⟨(wrap64 (ah + 1)), (cabb), H', ⟨by have := aC.out; omega⟩, by repeat (first | exact Drawn0.refl _ | apply Drawn0.step)⟩
     ·rw [if_neg c5] at H; exact absurd H (by simp)
    ·rw [if_neg c4] at H; exact absurd H (by simp)
   ·rw [if_neg c3] at H; have aT : decide (ah < (l0.length : Int)) = false := decide_eq_false c3; clear c3; obtain rfl := Option.some.inj H
    go_wp2
    go_ret
    exact ⟨cabb, by repeat (first | exact Drawn0.refl _ | apply Drawn0.step)⟩

/-! ### slices_Contains_int_int: function 89 -/
def slices_Contains_int_int.f (k : Nat) (l0 : List Int) (a1 : Int) : Option (Bool) := (slices_Index_int_int.f k l0 a1).bind fun aP => (some (decide (aP ≥ 0)))
theorem slices_Contains_int_int.mono : ∀ a0 a1 k, LeO (slices_Contains_int_int.f k a0 a1) (slices_Contains_int_int.f (k + 1) a0 a1) := by
 intro a0 a1 k; unfold slices_Contains_int_int.f
 repeat' first | (with_reducible first | exact slices_Index_int_int.mono _ _ _ | exact LeO.refl _ | exact LeO.none _ | refine LeO.ite ?_ ?_ | refine LeO.bind ?_ (fun _ => ?_)) | exact slices_Index_int_int.mono _ _ _ | exact LeO.none _ | refine LeO.ite ?_ ?_ | refine LeO.bind ?_ (fun _ => ?_)
set_option maxHeartbeats 8000000 in
set_option maxRecDepth 100000 in
theorem slices_Contains_int_int.calls (k : Nat) (A0 : Option Addr) (c0 : Nat) (l0 : List Int) (a1 : Int) (r : Bool) (w : World) (aQ : Kd.C (Kd.int .i64) w A0 l0.length l0) (aR : l0.length ≤ c0) (h : slices_Contains_int_int.f k l0 a1 = some r) :
  Calls Try.prog 89 #[.slice A0 l0.length c0, .int .i64 a1] w fun e w' => e = .returned (.bool r) ∧ Drawn0 w w' := by
 have aN := G.m aQ; have aZ := G.m aR; clear aQ aR; have H : ((slices_Index_int_int.f k l0 a1).bind fun aP => (some (decide (aP ≥ 0)))) = some r := h; clear h; obtain ⟨aP, A3, H⟩ := G.bi H; replace H : (some (decide (aP ≥ 0))) = some r := H; obtain rfl := Option.some.inj H
 go_enter Try.func89, Try.ntmps89
 go_wp2_with (first | ((with_reducible refine G.f 114 rfl ?_); refine G.gL 7 Try.func114 #[.slice A0 l0.length c0, .int .i64 a1] ?_; (with_reducible refine (slices_Index_int_int.calls k _ _ l0 a1 aP _ ?side1 ?side2 A3.out).mono ?_); (case side1 => exact G.cC aN.out); (case side2 => exact aZ.out); rintro e w' ⟨rfl, ⟨nd, rfl⟩⟩; refine ⟨_, rfl, ?_⟩))
 go_ret
 exact ⟨cabb, by repeat (first | exact Drawn0.refl _ | apply Drawn0.step)⟩

/-! ### impl_different: function 52 -/
def impl_different.l0 : Nat → List Int → List Int → Int → Int → Option (Bool)
 | 0, _, _, _, _ => none
 | k + 1, x0, x5, x6, x7 => if x7 < x6 then (if 0 ≤ x7 then (if x7 < (x5.length : Int) then (if x7 ≤ (x0.length : Int) then ((slices_Contains_int_int.f k (x0.take (x7 : Int).toNat) (rd x5 x7)).bind fun aW => (if aW = true then (some false) else (impl_different.l0 k x0 x5 x6 (wrap64 (x7 + 1))))) else (none)) else (none)) else (none)) else (some true)
def impl_different.f (k : Nat) (l0 : List Int) : Option (Bool) := impl_different.l0 k l0 l0 (l0.length : Int) 0
theorem impl_different.mono_l : ∀ k, (∀ y0 y1 y2 y3, LeO (impl_different.l0 k y0 y1 y2 y3) (impl_different.l0 (k + 1) y0 y1 y2 y3))
 | 0 => fun _ _ _ _ r h => by simp [impl_different.l0] at h
 | k + 1 => by
  have au := impl_different.mono_l k
  ·intro y0 y1 y2 y3; unfold impl_different.l0
   repeat' first
   | (with_reducible exact au _ _ _ _)
   | (with_reducible exact slices_Contains_int_int.mono _ _ _)
   | (with_reducible exact LeO.refl _)
   | (with_reducible exact LeO.none _)
   | (with_reducible refine LeO.ite ?_ ?_)
   | (with_reducible refine LeO.bind ?_ (fun _ => ?_))
   | exact au _ _ _ _
   | exact slices_Contains_int_int.mono _ _ _
   | exact LeO.none _
   | refine LeO.ite ?_ ?_
   | refine LeO.bind ?_ (fun _ => ?_)
theorem impl_different.mono : ∀ a0 k, LeO (impl_different.f k a0) (impl_different.f (k + 1) a0) := by
 intro a0 k; have au := impl_different.mono_l k; unfold impl_different.f
 repeat' first | (with_reducible first | exact au _ _ _ _ | exact slices_Contains_int_int.mono _ _ _ | exact LeO.refl _ | exact LeO.none _ | refine LeO.ite ?_ ?_ | refine LeO.bind ?_ (fun _ => ?_)) | exact au _ _ _ _ | exact slices_Contains_int_int.mono _ _ _ | exact LeO.none _ | refine LeO.ite ?_ ?_ | refine LeO.bind ?_ (fun _ => ?_)
set_option maxHeartbeats 8000000 in
set_option maxRecDepth 100000 in
theorem impl_different.calls (k : Nat) (A0 : Option Addr) (c0 : Nat) (l0 : List Int) (r : Bool) (w : World) (aQ : Kd.C (Kd.int .i64) w A0 l0.length l0) (aR : l0.length ≤ c0) (h : impl_different.f k l0 = some r) :
  Calls Try.prog 52 #[.slice A0 l0.length c0] w fun e w' => e = .returned (.bool r) ∧ Drawn0 w w' := by
 have aN := G.m aQ; have aZ := G.m aR; clear aQ aR; have H : (impl_different.l0 k l0 l0 (l0.length : Int) 0) = some r := h; clear h; have H' := G.m H; clear H
 go_enter Try.func52, Try.ntmps52
 go_wp2
 go_loopg [7] k (fun kq v7 w' => ∃ (af : Int), v7 = .int .i64 af ∧ Aside0 (impl_different.l0 kq l0 l0 (l0.length : Int) af = some r) ∧ Aside0 (kq ≤ k) ∧ Drawn0 w w')
 case atStart => exact ⟨(0), (cabb), H', ⟨Nat.le_refl _⟩, by repeat (first | exact Drawn0.refl _ | apply Drawn0.step)⟩
 case round =>
  clear H'; obtain ⟨af, rfl, HA, aC, ⟨m1, rfl⟩⟩ := hrel; cases gk with
  | zero => exact absurd HA.out (by simp [impl_different.l0])
  | succ k1 =>
   have H := HA.out; clear HA; simp only [impl_different.l0] at H
   by_cases c2 : af < (l0.length : Int)
   ·rw [if_pos c2] at H; have bB : decide (af < (l0.length : Int)) = true := decide_eq_true c2; clear c2
    by_cases c3 : 0 ≤ af
    ·rw [if_pos c3] at H; have aT : decide (0 ≤ af) = true := decide_eq_true c3; clear c3
     by_cases c4 : af < (l0.length : Int)
     ·rw [if_pos c4] at H; have a3 : decide (af < (l0.length : Int)) = true := decide_eq_true c4; clear c4; have bj := eq_true (of_decide_eq_true (G.asm) : 0 ≤ af)
      by_cases c6 : af ≤ (l0.length : Int)
      ·rw [if_pos c6] at H; have a4 := eq_true c6; have bk : decide (af ≤ (l0.length : Int)) = true := decide_eq_true c6; clear c6; obtain ⟨aW, A7, H⟩ := G.bi H; replace H : (if aW = true then (some false) else (impl_different.l0 k1 l0 l0 (l0.length : Int) (wrap64 (af + 1)))) = some r := H
       by_cases c8 : aW = true
       ·subst c8; have H1 : (some false) = some r := by rw [if_pos rfl] at H; exact H
        clear H; have H := H1; clear H1; obtain rfl := Option.some.inj H; have aI : 0 ≤ (af : Int) := of_decide_eq_true (G.asm); have aJ : af < (l0.length : Int) := of_decide_eq_true (G.asm); obtain ⟨aO, a7, bh⟩ := Kd.at_int aN.out af aI aJ; cases a7; replace aI := eq_true aI; replace aJ := eq_true aJ; obtain ⟨bZ, bl, _, bm, _⟩ := info_parts info3; obtain ⟨bM, bw, bx⟩ := print_take_of (P := Try.prog) (Value.int .i64) 0 45 3 .i64 Try.underlying45 bl bm (some aO) c0 l0 af (of_decide_eq_true (G.asm)) (of_decide_eq_true (G.asm)) aZ.out; have aX := G.m (Kd.C_of_reads (h1 := fun _ => rfl) (bw _ (Kd.reads_of_C aN.out))); have aY := G.m bx; clear bw bx bl bm
        go_wp2_with (first | ((with_reducible refine gate_callee (f := 89) rfl ?_); refine goesL_ (some 16) rfl rfl Try.func89 (cabc) rfl #[.slice (some aO) (l0.take (af : Int).toNat).length c0, .int .i64 (rd l0 af)] rfl (cabf) ?_; (with_reducible refine (slices_Contains_int_int.calls k1 _ _ (l0.take (af : Int).toNat) (rd l0 af) true _ ?side1 ?side2 A7.out).mono ?_); (case side1 => exact G.cC aX.out); (case side2 => exact aY.out); rintro e w' ⟨rfl, ⟨nd, rfl⟩⟩; refine ⟨_, rfl, ?_⟩))
        go_ret
        exact ⟨cabb, by repeat (first | exact Drawn0.refl _ | apply Drawn0.step)⟩
       ·replace c8 := Bool.eq_false_iff.mpr c8; subst c8; have H1 : (impl_different.l0 k1 l0 l0 (l0.length : Int) (wrap64 (af + 1))) = some r := by rw [if_neg (show ¬ (false = true) by decide)] at H; exact H
        clear H; have H := H1; clear H1; have H' := G.m H; clear H; have aI : 0 ≤ (af : Int) := of_decide_eq_true (G.asm); have aJ : af < (l0.length : Int) := of_decide_eq_true (G.asm); obtain ⟨aO, a7, bh⟩ := Kd.at_int aN.out af aI aJ; cases a7; replace aI := eq_true aI; replace aJ := eq_true aJ; obtain ⟨bN, bc, _, bd, _⟩ := info_parts info3; obtain ⟨bH, bn, bo⟩ := print_take_of (P := Try.prog) (Value.int .i64) 0 45 3 .i64 Try.underlying45 bc bd (some aO) c0 l0 af (of_decide_eq_true (G.asm)) (of_decide_eq_true (G.asm)) aZ.out; have aX := G.m (Kd.C_of_reads (h1 := fun _ => rfl) (bn _ (Kd.reads_of_C aN.out))); have aY := G.m bo; clear bn bo bc bd
        go_wp2_with (first | ((with_reducible refine gate_callee (f := 89) rfl ?_); refine goesL_ (some 16) rfl rfl Try.func89 (cabc) rfl #[.slice (some aO) (l0.take (af : Int).toNat).length c0, .int .i64 (rd l0 af)] rfl (cabf) ?_; (with_reducible refine (slices_Contains_int_int.calls k1 _ _ (l0.take (af : Int).toNat) (rd l0 af) false _ ?side1 ?side2 A7.out).mono ?_); (case side1 => exact G.cC aX.out); (case side2 => exact aY.out); rintro e w' ⟨rfl, ⟨nd, rfl⟩⟩; refine ⟨_, rfl, ?_⟩))
        go_roundg k1
        case measure => have := aC.out; omega
        case rel => exact ⟨(wrap64 (af + 1)), (cabb), H', ⟨by have := aC.out; omega⟩, by repeat (first | exact Drawn0.refl _ | apply Drawn0.step)⟩
      ·rw [if_neg c6] at H; exact absurd H (by simp)
     ·rw [if_neg c4] at H; exact absurd H (by simp)
    ·rw [if_neg c3] at H; exact absurd H (by simp)
   ·rw [if_neg c2] at H; have bB : decide (af < (l0.length : Int)) = false := decide_eq_false c2; clear c2; obtain rfl := Option.some.inj H
    go_wp2
    go_ret
    exact ⟨cabb, by repeat (first | exact Drawn0.refl _ | apply Drawn0.step)⟩

end Go.Proofs.Ytgeonpciodepgaa.P
