-- Printed by a program of this session (mp.py, over the kit's print). Not trusted: Lean checks it.
import Derived.Test.YtbkdpnfjcnkoeaaF0
import Derived.Test.YtbkdpnfjcnkoeaaF17
import Derived.Test.YtbkdpnfjcnkoeaaF19
import Derived.Test.YtbkdpnfjcnkoeaaF21
import Derived.Test.YtbkdpnfjcnkoeaaF22
namespace Go.Proofs.Ytbkdpnfjcnkoeaa.P
open Go.RowKit Go.Proofs.YtbkdpnfjcnkoeaaW.PrintWords Go.Proofs.YtbkdpnfjcnkoeaaW.PrintLast Go.Proofs.YtbkdpnfjcnkoeaaW.PrintMore
attribute [local go_sem] max2_int min2_int max_two min_two max_three min_three max_four min_four   -- for this text's walks alone
set_option linter.unusedVariables false
set_option linter.unusedSimpArgs false

theorem caeX {p : Prop} (h : p := by (with_reducible repeat (first | apply Kd.Q_alloc | apply Kd.Q_drewN | apply Kd.Q_drew)); exact ak.out) : p := h
theorem caeY {p : Prop} (h : p := by (with_reducible repeat (first | apply Kd.Q_alloc | apply Kd.Q_drewN | apply Kd.Q_drew)); exact al.out) : p := h
theorem caeZ {p : Prop} (h : p := by first | rfl | (simp [errW_none, errW_some] <;> rfl) | (simp [*, errW_none, errW_some] <;> rfl)) : p := h
theorem caeW {p : Prop} (h : p := by first | rfl | (simp; done) | (simp [*]; done)) : p := h
/-! ### laws_loAhead: function 36 -/
def laws_loAhead.l0 : Nat → List Int → List Int → Int → Option (Bool)
 | 0, _, _, _ => none
 | k + 1, x0, x1, x5 => if x5 < (x0.length : Int) then (if 0 ≤ x5 then (if x5 < (x1.length : Int) then (if (rd x0 x5) = (rd x1 x5) then (laws_loAhead.l0 k x0 x1 (wrap64 (x5 + 1))) else (some (decide ((rd x0 x5) < (rd x1 x5))))) else (none)) else (none)) else (some false)
def laws_loAhead.f (k : Nat) (l0 : List Int) (l1 : List Int) : Option (Bool) := if (l0.length : Int) = (l1.length : Int) then (laws_loAhead.l0 k l0 l1 0) else (some (decide ((l0.length : Int) < (l1.length : Int))))
theorem laws_loAhead.mono_l : ∀ k, (∀ y0 y1 y2, LeO (laws_loAhead.l0 k y0 y1 y2) (laws_loAhead.l0 (k + 1) y0 y1 y2))
 | 0 => fun _ _ _ r h => by simp [laws_loAhead.l0] at h
 | k + 1 => by
  have aw := laws_loAhead.mono_l k
  ·intro y0 y1 y2; unfold laws_loAhead.l0
   repeat' first
   | (with_reducible exact aw _ _ _)
   | (with_reducible exact LeO.refl _)
   | (with_reducible exact LeO.none _)
   | (with_reducible refine LeO.ite ?_ ?_)
   | (with_reducible refine LeO.bind ?_ (fun _ => ?_))
   | exact aw _ _ _
   | exact LeO.none _
   | refine LeO.ite ?_ ?_
   | refine LeO.bind ?_ (fun _ => ?_)
theorem laws_loAhead.mono : ∀ a0 a1 k, LeO (laws_loAhead.f k a0 a1) (laws_loAhead.f (k + 1) a0 a1) := by
 intro a0 a1 k; have aw := laws_loAhead.mono_l k; unfold laws_loAhead.f
 repeat' first | (with_reducible first | exact aw _ _ _ | exact LeO.refl _ | exact LeO.none _ | refine LeO.ite ?_ ?_ | refine LeO.bind ?_ (fun _ => ?_)) | exact aw _ _ _ | exact LeO.none _ | refine LeO.ite ?_ ?_ | refine LeO.bind ?_ (fun _ => ?_)
set_option maxHeartbeats 8000000 in
set_option maxRecDepth 100000 in
theorem laws_loAhead.calls (k : Nat) (A0 : Option Addr) (c0 : Nat) (l0 : List Int) (A1 : Option Addr) (c1 : Nat) (l1 : List Int) (r : Bool) (w : World) (aR : Kd.C (Kd.int .i64) w A0 l0.length l0) (aS : l0.length ≤ c0) (hr1 : Kd.C (Kd.int .i64) w A1 l1.length l1) (bD : l1.length ≤ c1) (h : laws_loAhead.f k l0 l1 = some r) :
  Calls Try.prog 36 #[.slice A0 l0.length c0, .slice A1 l1.length c1] w fun e w' => e = .returned (.bool r) ∧ Drawn0 w w' := by
 have aT := G.m aR; have bE := G.m aS; clear aR aS; have bj := G.m hr1; have cp := G.m bD; clear hr1 bD; have H : (if (l0.length : Int) = (l1.length : Int) then (laws_loAhead.l0 k l0 l1 0) else (some (decide ((l0.length : Int) < (l1.length : Int))))) = some r := h; clear h
 by_cases c3 : (l0.length : Int) = (l1.length : Int)
 ·rw [if_pos c3] at H; have bk : ((l0.length : Int) == (l1.length : Int)) = true := beq_iff_eq.mpr c3; have bl : ((l0.length : Int) != (l1.length : Int)) = false := bne_eq_false_iff_eq.mpr c3; have bm : (l0.length == l1.length) = true := by first | simpa using c3 | (simp at c3 ⊢; omega)
  clear c3; have H' := G.m H; clear H
  go_enter Try.func36, Try.ntmps36
  go_wp2
  repeat (go_quiet (fail); try go_wp2)
  go_loopg [5] k (fun kq v5 w' => ∃ (ae : Int), v5 = .int .i64 ae ∧ Aside0 (laws_loAhead.l0 kq l0 l1 ae = some r) ∧ Aside0 (kq ≤ k) ∧ Drawn0 w w')
  case atStart => exact ⟨(0), (caeW), H', ⟨Nat.le_refl _⟩, by repeat (first | exact Drawn0.refl _ | apply Drawn0.step)⟩
  case round =>
   clear H'; (try clear bk bl bm); obtain ⟨ae, rfl, HA, bF, ⟨m1, rfl⟩⟩ := hrel; cases gk with
   | zero => exact absurd HA.out (by simp [laws_loAhead.l0])
   | succ k1 =>
    have H := HA.out; clear HA; simp only [laws_loAhead.l0] at H
    by_cases c4 : ae < (l0.length : Int)
    ·rw [if_pos c4] at H; have bJ : decide (ae < (l0.length : Int)) = true := decide_eq_true c4; clear c4
     by_cases c5 : 0 ≤ ae
     ·rw [if_pos c5] at H; have cj : decide (0 ≤ ae) = true := decide_eq_true c5; clear c5
      by_cases c6 : ae < (l1.length : Int)
      ·rw [if_pos c6] at H; have ck : decide (ae < (l1.length : Int)) = true := decide_eq_true c6; clear c6
       by_cases c7 : (rd l0 ae) = (rd l1 ae)
       ·rw [if_pos c7] at H; have bK : ((rd l0 ae) == (rd l1 ae)) = true := beq_iff_eq.mpr c7; have bL : ((rd l0 ae) != (rd l1 ae)) = false := bne_eq_false_iff_eq.mpr c7; clear c7; have H' := G.m H; clear H; have az : 0 ≤ (ae : Int) := of_decide_eq_true (G.asm); have aA : ae < (l0.length : Int) := of_decide_eq_true (G.asm); obtain ⟨a5, aV, a_⟩ := Kd.at_int aT.out ae az aA; cases aV; replace az := eq_true az; replace aA := eq_true aA; have aB : 0 ≤ (ae : Int) := of_decide_eq_true (G.asm); have aC : ae < (l1.length : Int) := of_decide_eq_true (G.asm); obtain ⟨a6, aW, ba⟩ := Kd.at_int bj.out ae aB aC; cases aW; replace aB := eq_true aB; replace aC := eq_true aC
        go_wp2
        repeat (go_quiet (fail); try go_wp2)
        go_roundg k1
        case measure => have := bF.out; omega
        case rel => exact ⟨(wrap64 (ae + 1)), (caeW), H', ⟨by have := bF.out; omega⟩, by repeat (first | exact Drawn0.refl _ | apply Drawn0.step)⟩
       ·rw [if_neg c7] at H; have bK : ((rd l0 ae) == (rd l1 ae)) = false := beq_eq_false_iff_ne.mpr c7; have bL : ((rd l0 ae) != (rd l1 ae)) = true := bne_iff_ne.mpr c7; obtain rfl := Option.some.inj H; have az : 0 ≤ (ae : Int) := of_decide_eq_true (G.asm); have aA : ae < (l0.length : Int) := of_decide_eq_true (G.asm); obtain ⟨a5, aV, a_⟩ := Kd.at_int aT.out ae az aA; cases aV; replace az := eq_true az; replace aA := eq_true aA; have aB : 0 ≤ (ae : Int) := of_decide_eq_true (G.asm); have aC : ae < (l1.length : Int) := of_decide_eq_true (G.asm); obtain ⟨a6, aW, ba⟩ := Kd.at_int bj.out ae aB aC; cases aW; replace aB := eq_true aB; replace aC := eq_true aC; have aX : 0 ≤ (ae : Int) := of_decide_eq_true (G.asm); have aY : ae < (l0.length : Int) := of_decide_eq_true (G.asm); obtain ⟨bx, bM, bS⟩ := Kd.at_int aT.out ae aX aY; obtain rfl : a5 = bx := (by injection bM); replace aX := eq_true aX; replace aY := eq_true aY; have aZ : 0 ≤ (ae : Int) := of_decide_eq_true (G.asm); have a2 : ae < (l1.length : Int) := of_decide_eq_true (G.asm); obtain ⟨bz, bN, bT⟩ := Kd.at_int bj.out ae aZ a2; obtain rfl : a6 = bz := (by injection bN); replace aZ := eq_true aZ; replace a2 := eq_true a2
        go_wp2
        repeat (go_quiet (fail); try go_wp2)
        go_ret
        exact ⟨caeW, by repeat (first | exact Drawn0.refl _ | apply Drawn0.step)⟩
      ·rw [if_neg c6] at H; exact absurd H (by simp)
     ·rw [if_neg c5] at H; exact absurd H (by simp)
    ·rw [if_neg c4] at H; have bJ : decide (ae < (l0.length : Int)) = false := decide_eq_false c4; clear c4; obtain rfl := Option.some.inj H
     go_wp2
     repeat (go_quiet (fail); try go_wp2)
     go_ret
     exact ⟨caeW, by repeat (first | exact Drawn0.refl _ | apply Drawn0.step)⟩
 ·rw [if_neg c3] at H; have bk : ((l0.length : Int) == (l1.length : Int)) = false := beq_eq_false_iff_ne.mpr c3; have bl : ((l0.length : Int) != (l1.length : Int)) = true := bne_iff_ne.mpr c3; have bm : (l0.length == l1.length) = false := by first | simpa using c3 | (simp at c3 ⊢; omega)
  obtain rfl := Option.some.inj H
  go_enter Try.func36, Try.ntmps36
  go_wp2
  repeat (go_quiet (fail); try go_wp2)
  go_ret
  exact ⟨caeW, by repeat (first | exact Drawn0.refl _ | apply Drawn0.step)⟩

/-! ### laws_FnTrailFirst: function 13 -/
def laws_FnTrailFirst.j0 : Nat → List Int → Bool → Bool → Int → List (S63) → Option (Bool)
 | 0, _, _, _, _, _ => none
 | k + 1, x4, x5, b7, aO, aP => if b7 = true then ((spec_TrailOk.f k aO aP x4).bind fun aI => (some (x5 == aI))) else (if 0 < (x4.length : Int) then ((impl_TrailOf.f k aO aP (rd x4 0)).bind fun aF => (if aF.2 = true then ((laws_loAhead.f k x4 aF.1).bind fun av => (some (!av))) else (some false))) else (none))
def laws_FnTrailFirst.f (k : Nat) (l0 : List Int) : Option (Bool) := if (l0.length : Int) > 1048576 then (some true) else ((spec_DrawTrailOk.f k l0).bind fun ai => ((impl_TrailOk.f k ai.1 ai.2.1 ai.2.2).bind fun ag => ((spec_TrailOk.f k ai.1 ai.2.1 ai.2.2).bind fun am => (if (ag != am) = true then (laws_FnTrailFirst.j0 k ai.2.2 ag true ai.1 ai.2.1) else (laws_FnTrailFirst.j0 k ai.2.2 ag (!ag) ai.1 ai.2.1)))))
theorem laws_FnTrailFirst.mono_l : ∀ k, (∀ y0 y1 y2 y3 y4, LeO (laws_FnTrailFirst.j0 k y0 y1 y2 y3 y4) (laws_FnTrailFirst.j0 (k + 1) y0 y1 y2 y3 y4))
 | 0 => fun _ _ _ _ _ r h => by simp [laws_FnTrailFirst.j0] at h
 | k + 1 => by
  have aw := laws_FnTrailFirst.mono_l k
  ·intro y0 y1 y2 y3 y4; unfold laws_FnTrailFirst.j0
   repeat' first
   | (with_reducible exact aw _ _ _ _ _)
   | (with_reducible exact impl_TrailOf.mono _ _ _ _)
   | (with_reducible exact impl_TrailOk.mono _ _ _ _)
   | (with_reducible exact laws_loAhead.mono _ _ _)
   | (with_reducible exact spec_DrawTrailOk.mono _ _)
   | (with_reducible exact spec_TrailOk.mono _ _ _ _)
   | (with_reducible exact LeO.refl _)
   | (with_reducible exact LeO.none _)
   | (with_reducible refine LeO.ite ?_ ?_)
   | (with_reducible refine LeO.bind ?_ (fun _ => ?_))
   | exact aw _ _ _ _ _
   | exact impl_TrailOf.mono _ _ _ _
   | exact impl_TrailOk.mono _ _ _ _
   | exact laws_loAhead.mono _ _ _
   | exact spec_DrawTrailOk.mono _ _
   | exact spec_TrailOk.mono _ _ _ _
   | exact LeO.none _
   | refine LeO.ite ?_ ?_
   | refine LeO.bind ?_ (fun _ => ?_)
theorem laws_FnTrailFirst.mono : ∀ a0 k, LeO (laws_FnTrailFirst.f k a0) (laws_FnTrailFirst.f (k + 1) a0) := by
 intro a0 k; have aw := laws_FnTrailFirst.mono_l k; unfold laws_FnTrailFirst.f
 repeat' first | (with_reducible first | exact aw _ _ _ _ _ | exact impl_TrailOf.mono _ _ _ _ | exact impl_TrailOk.mono _ _ _ _ | exact laws_loAhead.mono _ _ _ | exact spec_DrawTrailOk.mono _ _ | exact spec_TrailOk.mono _ _ _ _ | exact LeO.refl _ | exact LeO.none _ | refine LeO.ite ?_ ?_ | refine LeO.bind ?_ (fun _ => ?_)) | exact aw _ _ _ _ _ | exact impl_TrailOf.mono _ _ _ _ | exact impl_TrailOk.mono _ _ _ _ | exact laws_loAhead.mono _ _ _ | exact spec_DrawTrailOk.mono _ _ | exact spec_TrailOk.mono _ _ _ _ | exact LeO.none _ | refine LeO.ite ?_ ?_ | refine LeO.bind ?_ (fun _ => ?_)
def laws_FnTrailFirst.T7 : Bool × List (List Nat × List Nat) := (true, [([], []), ([], []), ([1], [1]), ([2], [2]), ([0, 3], [0, 3]), ([4], [4]), ([5], [5]), ([5], [5]), ([6, 4, 0, 1, 2, 3, 4, 5, 6], [6]), ([7, 8, 0, 1, 2, 3, 4, 5, 6, 7, 8], [7])])
def laws_FnTrailFirst.B7 : List Nat := [0, 0, 2, 6, 15, 31, 63, 63, 127, 511]
theorem laws_FnTrailFirst.tab7 : rtab .any (opsOf Try.f13 7) = laws_FnTrailFirst.T7 := by kernel_rfl
theorem laws_FnTrailFirst.bits7 : waitsOk laws_FnTrailFirst.T7.2 laws_FnTrailFirst.B7 = true := by kernel_rfl
set_option maxHeartbeats 8000000 in
set_option maxRecDepth 100000 in
theorem laws_FnTrailFirst.calls (k : Nat) (A0 : Option Addr) (c0 : Nat) (l0 : List Int) (r : Bool) (w : World) (aR : Kd.C (Kd.int .u8) w A0 l0.length l0) (aS : l0.length ≤ c0) (h : laws_FnTrailFirst.f k l0 = some r) :
  Calls Try.prog 13 #[.slice A0 l0.length c0] w fun e w' => e = .returned (.bool r) ∧ Below w.heap.size w w' := by
 have cl := Try.underlying29; have aT := G.m aR; have bE := G.m aS; clear aR aS; have HB := G.m (Below.refl w.heap.size w); have H : (if (l0.length : Int) > 1048576 then (some true) else ((spec_DrawTrailOk.f k l0).bind fun ai => ((impl_TrailOk.f k ai.1 ai.2.1 ai.2.2).bind fun ag => ((spec_TrailOk.f k ai.1 ai.2.1 ai.2.2).bind fun am => (if (ag != am) = true then (laws_FnTrailFirst.j0 k ai.2.2 ag true ai.1 ai.2.1) else (laws_FnTrailFirst.j0 k ai.2.2 ag (!ag) ai.1 ai.2.1)))))) = some r := h; clear h
 by_cases c2 : (l0.length : Int) > 1048576
 ·rw [if_pos c2] at H; have bn : decide (1048576 < (l0.length : Int)) = true := decide_eq_true c2; have bo : decide (1048576 < l0.length) = true := decide_eq_true (by omega); clear c2; obtain rfl := Option.some.inj H
  go_enter Try.func13, Try.ntmps13
  go_wp2
  go_ret
  exact ⟨caeZ, G.cB HB.out⟩
 ·rw [if_neg c2] at H; have bn : decide (1048576 < (l0.length : Int)) = false := decide_eq_false c2; have bo : decide (1048576 < l0.length) = false := decide_eq_false (by omega); clear c2; obtain ⟨⟨ah, af, ac⟩, A3, H⟩ := G.bi H; replace H : ((impl_TrailOk.f k ah af ac).bind fun ag => ((spec_TrailOk.f k ah af ac).bind fun am => (if (ag != am) = true then (laws_FnTrailFirst.j0 k ac ag true ah af) else (laws_FnTrailFirst.j0 k ac ag (!ag) ah af)))) = some r := H; obtain ⟨ag, A4, H⟩ := G.bi H; replace H : ((spec_TrailOk.f k ah af ac).bind fun am => (if (ag != am) = true then (laws_FnTrailFirst.j0 k ac ag true ah af) else (laws_FnTrailFirst.j0 k ac ag (!ag) ah af))) = some r := H; have bp := G.m H; clear H
  go_enter Try.func13, Try.ntmps13
  go_upto_region 5 with (first | ((with_reducible refine G.f 30 rfl ?_); refine G.gL 13 Try.func30 #[.slice A0 l0.length c0] ?_; (with_reducible refine (spec_DrawTrailOk.calls k _ _ l0 ah af ac _ ?side1 ?side2 A3.out).mono ?_); (case side1 => exact G.cC aT.out); (case side2 => exact bE.out); rintro e w6 ⟨cm, bO, rfl, ay, ho1, hb⟩; refine ⟨_, rfl, ?_⟩; have n0 := G.m (Kd.R_lower ay (below_size (G.cB HB.out))); have n1 := G.m (Kd.Q_lower ho1 (below_size (G.cB HB.out))); have n2 := G.bs HB hb; clear HB; revert n0 n1 n2; intro aj ak HB; (try clear hb ay ho1)) | ((with_reducible refine G.h 3 rfl ?_); refine G.be 3 #[.int .i64 0, .slice none 0 0] 29 ?_; intro ao hg w7 hbox hb; have n0 := G.rb aj hb; have n1 := G.m (Kd.Q_below (caeX) hb); have n2 := G.bs HB hb; have n3 := G.m (hbox); have n4 := G.m ((by rw [hg]; exact (below_size (G.cB HB.out)) : w.heap.size ≤ ao)); have n5 := G.m ((by rw [hg]; exact (below_size (G.cB HB.out)) : w.heap.size ≤ ao)); clear aj ak HB; revert n0 n1 n2 n3 n4 n5; intro aj ak HB aa ce cf; clear hb hbox hg; have ⟨bq, br, bu, bv⟩ := G.d2 (w := w7) aa; obtain ⟨aq, au, b8⟩ := Kd.R_slice aj.out; subst b8) | ((with_reducible refine gate_store (t := 29) (p := 3) rfl ?_); refine store_event (t := 29) (p := 3) (v := ?vo_w10) (w1 := ((w7.setCell ⟨ao, 0, none⟩ (.int .i64 ah)).setCell ⟨ao, 1, none⟩ (.slice aq af.length au))) ?hg ?ho ?hn ?hr ?_; (case ho => rfl); (case hg => rfl); (case hn => rfl); (case hr => first | (go_simp; done) | (go_simp; rfl)); intro aU hw; have n0 : Aside0 (Kd.R k63 63 aU w.heap.size (fun _ => True) (.slice aq af.length au) af) := ⟨(by rw [hw]; exact (by (with_reducible repeat (first | apply Kd.R_alloc | apply Kd.R_drewN | apply Kd.R_drew)); exact Kd.R_mono (Kd.R_far (p := ⟨ao, 1, none⟩) (Kd.R_far (p := ⟨ao, 0, none⟩) (Kd.R_types aj.out aa.out (by decide)) (fun _ hk => hk.2) (.int .i64 ah)) (fun _ hk => hk.2) (.slice aq af.length au)) (fun _ hk => trivial)))⟩; have n1 : Aside0 (Kd.Q (Kd.int .i64) 3 aU w.heap.size (fun _ => True) bO ac) := ⟨(by rw [hw]; exact (by (with_reducible repeat (first | apply Kd.Q_alloc | apply Kd.Q_drewN | apply Kd.Q_drew)); exact Kd.Q_mono (Kd.Q_far (p := ⟨ao, 1, none⟩) (Kd.Q_far (p := ⟨ao, 0, none⟩) (Kd.Q_types ak.out aa.out (by decide)) (fun _ hk => hk.2) (.int .i64 ah)) (fun _ hk => hk.2) (.slice aq af.length au)) (fun _ hk => trivial)))⟩; have n2 : Aside0 (aU.heap[ao]? = some (.cells #[.int .i64 ah, .slice aq af.length au] 29 (0, 0))) := ⟨(by rw [hw]; exact (by (with_reducible repeat (first | refine blk_drewN ?_ _ | refine blk_drew ?_ | refine blk_alloc ?_ _)); refine blk_put (cs := #[.int .i64 ah, .slice none 0 0]) ?_ 1 _ rfl; (with_reducible repeat (first | refine blk_drewN ?_ _ | refine blk_drew ?_ | refine blk_alloc ?_ _)); refine blk_put (cs := #[.int .i64 0, .slice none 0 0]) ?_ 0 _ rfl; (with_reducible repeat (first | refine blk_drewN ?_ _ | refine blk_drew ?_ | refine blk_alloc ?_ _)); exact aa.out))⟩; have n3 : Aside0 (Below w.heap.size w aU) := ⟨(by rw [hw]; exact (G.cB HB.out))⟩; clear hw aj ak aa HB; revert n0 n1 n2 n3; intro aj ak aa HB; have ⟨bc, bd, bf, bh⟩ := G.d2 (w := aU) aa; obtain ⟨aL, aM, bP, _⟩ := Kd.Q_slice ak.out; subst bP) | ((with_reducible refine G.f 21 rfl ?_); refine G.gL 18 Try.func21 #[.agg #[.int .i64 ah, .slice aq af.length au], .slice aL ac.length aM] ?_; (with_reducible refine (impl_TrailOk.calls k ah (fun k_ => some k_ = (.slice aq af.length au : Value).ownBlock) _ _ af _ _ ac ag _ ?side1 ?side2 ?side3 A4.out).mono ?_); (case side1 => exact Kd.R_V (Kd.R_tight rfl (Kd.R_types (Kd.R_apart' (aj.out) (Kd.Q_typed ak.out) (by decide)) aa.out (by decide)))); (case side2 => exact G.cC (Kd.Q_reads' ak.out).2.2); (case side3 => exact (Kd.Q_reads' ak.out).2.1); rintro e bG ⟨rfl, hb⟩; refine ⟨_, rfl, ?_⟩; have n0 := G.rb aj hb; have n1 := G.m (Kd.Q_below (caeX) hb); have n2 := G.bb aa hb; have n3 := G.bs HB hb; clear aj ak aa HB; revert n0 n1 n2 n3; intro aj ak aa HB; (try clear hb)))
  (try simp only [Act.put, List.setIfInBounds_toArray, List.set_cons_zero, List.set_cons_succ])
  go_cut [27] (fun b9 wc => ∃ (kq : Nat) (aJ : Bool), b9 = .bool aJ ∧ Aside0 (laws_FnTrailFirst.j0 kq ac ag aJ ah af = some r) ∧ Aside0 (kq ≤ k) ∧ Aside0 (Kd.Q (Kd.int .i64) 3 wc w.heap.size (fun _ => True) (.slice aL ac.length aM) ac) ∧ Aside0 (Kd.R k63 63 wc w.heap.size (fun _ => True) (.slice aq af.length au) af) ∧ Aside0 (wc.heap[ao]? = some (.cells #[.int .i64 ah, (.slice aq af.length au)] 29 (0, 0))) ∧ Aside0 (Below w.heap.size w wc))
  case first =>
   have H := bp.out; clear bp; obtain ⟨am, bH, H⟩ := G.bi H; replace H : (if (ag != am) = true then (laws_FnTrailFirst.j0 k ac ag true ah af) else (laws_FnTrailFirst.j0 k ac ag (!ag) ah af)) = some r := H
   by_cases ax : (ag != am) = true
   ·rw [if_pos ax] at H; have aG : (ag != am) = true := ax; (try (have bA : decide (ag = am) = false := by simpa using ax)); (try (have bB : (ag == am) = false := by simpa using ax)); (try (have cg : ¬ (ag = am) := by simpa using ax)); clear ax; (first | rw [aG] | (simp only [i64_w, i32_w]; rw [aG]) | skip); have H' := G.m H; clear H; have ⟨bU, bV, bW, bX⟩ := G.d2 (w := bG) aa
    go_wp2_with (first | ((with_reducible refine G.f 19 rfl ?_); refine G.gL 22 Try.func19 #[.agg #[.int .i64 ah, .slice aq af.length au], .slice aL ac.length aM] ?_; (with_reducible refine (spec_TrailOk.calls k ah _ _ af _ _ ac am _ ?side1 ?side2 ?side3 ?side4 bH.out).mono ?_); (case side1 => exact G.cC (Kd.R_reads' aj.out).2.2); (case side2 => exact (Kd.R_reads' aj.out).2.1); (case side3 => exact G.cC (Kd.Q_reads' ak.out).2.2); (case side4 => exact (Kd.Q_reads' ak.out).2.1); rintro e cq ⟨rfl, hb⟩; refine ⟨_, rfl, ?_⟩; have n0 := G.rb aj hb; have n1 := G.m (Kd.Q_below (caeX) hb); have n2 := G.bb aa hb; have n3 := G.bs HB hb; clear aj ak aa HB; revert n0 n1 n2 n3; intro aj ak aa HB; (try clear hb)))
    go_meet
    case rel => exact ⟨_, (true), (caeW), H', ⟨by first | omega | exact Nat.le_refl _⟩, ⟨caeX⟩, ⟨G.cR aj.out⟩, ⟨G.cb aa.out⟩, ⟨G.cB HB.out⟩⟩
   ·rw [if_neg ax] at H; have aG : (ag != am) = false := by simpa using ax
    (try (have bA : decide (ag = am) = true := by simpa using ax)); (try (have bB : (ag == am) = true := by simpa using ax)); clear ax; (first | rw [aG] | (simp only [i64_w, i32_w]; rw [aG]) | skip); have H' := G.m H; clear H; have ⟨bY, bZ, b1, b2⟩ := G.d2 (w := bG) aa
    go_wp2_with (first | ((with_reducible refine G.f 19 rfl ?_); refine G.gL 22 Try.func19 #[.agg #[.int .i64 ah, .slice aq af.length au], .slice aL ac.length aM] ?_; (with_reducible refine (spec_TrailOk.calls k ah _ _ af _ _ ac am _ ?side1 ?side2 ?side3 ?side4 bH.out).mono ?_); (case side1 => exact G.cC (Kd.R_reads' aj.out).2.2); (case side2 => exact (Kd.R_reads' aj.out).2.1); (case side3 => exact G.cC (Kd.Q_reads' ak.out).2.2); (case side4 => exact (Kd.Q_reads' ak.out).2.1); rintro e cr ⟨rfl, hb⟩; refine ⟨_, rfl, ?_⟩; have n0 := G.rb aj hb; have n1 := G.m (Kd.Q_below (caeX) hb); have n2 := G.bb aa hb; have n3 := G.bs HB hb; clear aj ak aa HB; revert n0 n1 n2 n3; intro aj ak aa HB; (try clear hb)))
    go_meet
    case rel => exact ⟨_, (!ag), (caeW), H', ⟨by first | omega | exact Nat.le_refl _⟩, ⟨caeX⟩, ⟨G.cR aj.out⟩, ⟨G.cb aa.out⟩, ⟨G.cB HB.out⟩⟩
  case rest =>
   clear bp; (try clear bn bo bc bd bq br bf bh bu bv); obtain ⟨kq, aJ, rfl, HA, ct, al, ab, aa, HB⟩ := hcut; cases kq with
   | zero => exact absurd HA.out (by simp [laws_FnTrailFirst.j0])
   | succ aH =>
    have H := HA.out; clear HA; simp only [laws_FnTrailFirst.j0] at H
    by_cases a7 : aJ = true
    ·subst a7; have H1 : ((spec_TrailOk.f aH ah af ac).bind fun aI => (some (ag == aI))) = some r := by rw [if_pos rfl] at H; exact H
     clear H; have H := H1; clear H1; obtain ⟨aI, b_, H⟩ := G.bi H; replace H : (some (ag == aI)) = some r := H; obtain rfl := Option.some.inj H; have ⟨b3, b4, b5, b6⟩ := G.d2 (w := wc) aa
     go_wp2_with (first | ((with_reducible refine G.f 19 rfl ?_); refine G.gL 31 Try.func19 #[.agg #[.int .i64 ah, .slice aq af.length au], .slice aL ac.length aM] ?_; (with_reducible refine (spec_TrailOk.calls aH ah _ _ af _ _ ac aI _ ?side1 ?side2 ?side3 ?side4 b_.out).mono ?_); (case side1 => exact G.cC (Kd.R_reads' ab.out).2.2); (case side2 => exact (Kd.R_reads' ab.out).2.1); (case side3 => exact G.cC (Kd.Q_reads' al.out).2.2); (case side4 => exact (Kd.Q_reads' al.out).2.1); rintro e cu ⟨rfl, hb⟩; refine ⟨_, rfl, ?_⟩; have n0 := G.m (Kd.Q_below (caeY) hb); have n1 := G.rb ab hb; have n2 := G.bb aa hb; have n3 := G.bs HB hb; clear al ab aa HB; revert n0 n1 n2 n3; intro al ab aa HB; (try clear hb)))
     go_ret
     exact ⟨caeZ, G.cB HB.out⟩
    ·replace a7 := Bool.eq_false_iff.mpr a7; subst a7; have H1 : (if 0 < (ac.length : Int) then ((impl_TrailOf.f aH ah af (rd ac 0)).bind fun aF => (if aF.2 = true then ((laws_loAhead.f aH ac aF.1).bind fun av => (some (!av))) else (some false))) else (none)) = some r := by rw [if_neg (show ¬ (false = true) by decide)] at H; exact H
     clear H; have H := H1; clear H1
     by_cases a8 : 0 < (ac.length : Int)
     ·rw [if_pos a8] at H; have ch : decide (0 < (ac.length : Int)) = true := decide_eq_true a8; have ci : decide (0 < ac.length) = true := decide_eq_true (by omega); clear a8; obtain ⟨⟨aN, bw⟩, bI, H⟩ := G.bi H; replace H : (if bw = true then ((laws_loAhead.f aH ac aN).bind fun av => (some (!av))) else (some false)) = some r := H
      by_cases a9 : bw = true
      ·subst a9; have H1 : ((laws_loAhead.f aH ac aN).bind fun av => (some (!av))) = some r := by rw [if_pos rfl] at H; exact H
       clear H; have H := H1; clear H1; obtain ⟨av, ca, H⟩ := G.bi H; replace H : (some (!av)) = some r := H; obtain rfl := Option.some.inj H; try go_wp2
       have n0 := G.m (Kd.Q_drew al.out); have n1 := G.m (Kd.R_drew ab.out); have n2 := G.m (blk_drew aa.out); have n3 := G.m (below_drew1 HB.out); clear al ab aa HB; revert n0 n1 n2 n3; intro al ab aa HB; have aD : 0 ≤ (0 : Int) := (by omega); have aE : 0 < (ac.length : Int) := of_decide_eq_true (G.asm); obtain ⟨aQ, a3, ap⟩ := Kd.at_int (Kd.Q_reads' al.out).2.2 0 aD aE; cases a3; have bC : (0 < ac.length) = True := eq_true (by omega); (try rw [show ((0 : Int)).toNat = 0 from rfl] at ap); (try rw [Addr.add_zero'] at ap); replace aD := eq_true aD; replace aE := eq_true aE; refine G.st 10 (S := fun w' => w'.cell? ⟨ao, 0, none⟩ = some (.int .i64 ah) ∧ w'.cell? ⟨ao, 1, none⟩ = some (.slice aq af.length au) ∧ w'.cell? aQ = some (.int .i64 (rd ac 0))) [] ⟨G.z aa 0, G.z aa 1, ap⟩ laws_FnTrailFirst.tab7 laws_FnTrailFirst.bits7 (fun hHeld HT_ HW_ => ?_); generalize wc.drew = cv at al ab aa HB ap hHeld ⊢; refine G.pu 1 35 2 ?_; refine G.pu 2 36 6 ?_; refine G.ta3 0 34 7 ?_; refine G.ta3 3 37 15 ?_; refine G.on 4 38 31 (fun K hK => ?_); refine G.gs Try.func24 #[.agg #[.int .i64 ah, .slice aq af.length au], .int .i64 (rd ac 0)] ?_; with_reducible refine (impl_TrailOf.calls aH ah (fun k_ => some k_ = (.slice aq af.length au : Value).ownBlock) _ _ af (rd ac 0) aN true _ ?side1 bI.out).mono ?_
       (case side1 => exact Kd.R_V (Kd.R_tight rfl (Kd.R_types (Kd.R_apart' (ab.out) (Kd.Q_typed al.out) (by decide)) aa.out (by decide)))); rintro e cw ⟨bQ, rfl, ay, hb⟩; have a4 := (hb.cell (World.block_lt_of_cell? _ _ (hHeld.2.2))).trans (hHeld.2.2); refine ⟨_, rfl, ?_⟩; have n0 := G.m (Kd.Q_elder' (caeY) (Kd.R_base ay) hb); have n1 := G.rb ab hb; have n2 := G.m (Kd.R_lower (Kd.R_new' (Kd.R_mono (ok' := fun k_ => True) ay (fun _ hk_ => trivial)) (Kd.Q_lt (caeY))) (below_size (G.cB HB.out))); have n3 := G.bb aa hb; have n4 := G.bs HB hb; clear al ab aa HB; revert n0 n1 n2 n3 n4; intro al ab aK aa HB; (try clear hb cd hk hi ay); refine hK.out _ _ ⟨G.z aa 0, G.z aa 1, a4⟩ (fun hHeld => ?_); clear hK K; refine G.no 38 ?_; refine G.pu 5 33 63 ?_; refine G.pu 6 39 127 ?_; refine G.pu 7 40 255 ?_; refine G.pu 8 6 511 ?_; refine G.pu 9 7 1023 ?_; refine done_ (done_of HT_.out (by kernel_rfl)) ?_; obtain ⟨cn, co, bR⟩ := Kd.R_slice aK.out; subst bR; try go_wp2_with (first | (go_at_call 36; (with_reducible refine (laws_loAhead.calls aH _ _ ac _ _ aN av _ ?side1 ?side2 ?side3 ?side4 ca.out).mono ?_); (case side1 => exact G.cC (Kd.Q_reads' al.out).2.2); (case side2 => exact (Kd.Q_reads' al.out).2.1); (case side3 => exact G.cC (Kd.R_reads' aK.out).2.2); (case side4 => exact (Kd.R_reads' aK.out).2.1); rintro e w' ⟨rfl, ⟨nd, rfl⟩⟩))
       go_ret
       exact ⟨caeZ, G.cB HB.out⟩
      ·replace a9 := Bool.eq_false_iff.mpr a9; subst a9; have H1 : (some false) = some r := by rw [if_neg (show ¬ (false = true) by decide)] at H; exact H
       clear H; have H := H1; clear H1; obtain rfl := Option.some.inj H; try go_wp2
       have n0 := G.m (Kd.Q_drew al.out); have n1 := G.m (Kd.R_drew ab.out); have n2 := G.m (blk_drew aa.out); have n3 := G.m (below_drew1 HB.out); clear al ab aa HB; revert n0 n1 n2 n3; intro al ab aa HB; have aD : 0 ≤ (0 : Int) := (by omega); have aE : 0 < (ac.length : Int) := of_decide_eq_true (G.asm); obtain ⟨aQ, a3, ap⟩ := Kd.at_int (Kd.Q_reads' al.out).2.2 0 aD aE; cases a3; have bC : (0 < ac.length) = True := eq_true (by omega); (try rw [show ((0 : Int)).toNat = 0 from rfl] at ap); (try rw [Addr.add_zero'] at ap); replace aD := eq_true aD; replace aE := eq_true aE; refine G.st 10 (S := fun w' => w'.cell? ⟨ao, 0, none⟩ = some (.int .i64 ah) ∧ w'.cell? ⟨ao, 1, none⟩ = some (.slice aq af.length au) ∧ w'.cell? aQ = some (.int .i64 (rd ac 0))) [] ⟨G.z aa 0, G.z aa 1, ap⟩ laws_FnTrailFirst.tab7 laws_FnTrailFirst.bits7 (fun hHeld HT_ HW_ => ?_); generalize wc.drew = cx at al ab aa HB ap hHeld ⊢; refine G.pu 1 35 2 ?_; refine G.pu 2 36 6 ?_; refine G.ta3 0 34 7 ?_; refine G.ta3 3 37 15 ?_; refine G.on 4 38 31 (fun K hK => ?_); refine G.gs Try.func24 #[.agg #[.int .i64 ah, .slice aq af.length au], .int .i64 (rd ac 0)] ?_; with_reducible refine (impl_TrailOf.calls aH ah (fun k_ => some k_ = (.slice aq af.length au : Value).ownBlock) _ _ af (rd ac 0) aN false _ ?side1 bI.out).mono ?_
       (case side1 => exact Kd.R_V (Kd.R_tight rfl (Kd.R_types (Kd.R_apart' (ab.out) (Kd.Q_typed al.out) (by decide)) aa.out (by decide)))); rintro e cy ⟨bQ, rfl, ay, hb⟩; have a4 := (hb.cell (World.block_lt_of_cell? _ _ (hHeld.2.2))).trans (hHeld.2.2); refine ⟨_, rfl, ?_⟩; have n0 := G.m (Kd.Q_elder' (caeY) (Kd.R_base ay) hb); have n1 := G.rb ab hb; have n2 := G.m (Kd.R_lower (Kd.R_new' (Kd.R_mono (ok' := fun k_ => True) ay (fun _ hk_ => trivial)) (Kd.Q_lt (caeY))) (below_size (G.cB HB.out))); have n3 := G.bb aa hb; have n4 := G.bs HB hb; clear al ab aa HB; revert n0 n1 n2 n3 n4; intro al ab aK aa HB; (try clear hb cd hk hi ay); refine hK.out _ _ ⟨G.z aa 0, G.z aa 1, a4⟩ (fun hHeld => ?_); clear hK K; refine G.no 38 ?_; refine G.pu 5 33 63 ?_; refine G.pu 6 39 127 ?_; refine G.pu 7 40 255 ?_; refine G.pu 8 6 511 ?_; refine G.pu 9 7 1023 ?_; refine done_ (done_of HT_.out (by kernel_rfl)) ?_; try go_wp2
       go_ret
       exact ⟨caeZ, G.cB HB.out⟩
     ·rw [if_neg a8] at H; exact absurd H (by simp)

end Go.Proofs.Ytbkdpnfjcnkoeaa.P
