-- Printed by a program of this session (mp.py, over the kit's print). Not trusted: Lean checks it.
import Derived.Test.YtjkeagcenmmknaaDoorF0
import Derived.Test.YtjkeagcenmmknaaDoorF4
import Derived.Test.YtjkeagcenmmknaaDoorF6
import Derived.Test.YtjkeagcenmmknaaDoorF30
namespace Go.Proofs.YtjkeagcenmmknaaDoor.P
open Go.RowKit Go.Proofs.YtjkeagcenmmknaaDoorW.PrintWords Go.Proofs.YtjkeagcenmmknaaDoorW.PrintLast Go.Proofs.YtjkeagcenmmknaaDoorW.PrintMore
attribute [local go_sem] max2_int min2_int max_two min_two max_three min_three max_four min_four   -- for this text's walks alone
set_option linter.unusedVariables false
set_option linter.unusedSimpArgs false

theorem caeX {p : Prop} (h : p := by (with_reducible repeat (first | apply Kd.R_alloc | apply Kd.R_drewN | apply Kd.R_drew)); exact (Kd.R_mono (Kd.R_far (p := ⟨aq, 1, none⟩) (Kd.R_far (p := ⟨aq, 0, none⟩) (Kd.R_types ai.out aa.out (by decide)) (fun _ hk => hk.2) (.int .i64 af)) (fun _ hk => hk.2) (.slice az ae.length aw)) (fun _ h_ => h_.1))) : p := h
theorem caeV {p : Prop} (h : p := by first | rfl | (simp [errW_none, errW_some] <;> rfl) | (simp [*, errW_none, errW_some] <;> rfl)) : p := h
theorem caeU {p : Prop} (h : p := by first | rfl | (simp; done) | (simp [*]; done)) : p := h
theorem caeW {p : Prop} (h : p := by have := aP.out; have := aQ.out; omega) : p := h
/-! ### laws_loAlone: function 31 -/
mutual
def laws_loAlone.l0 : Nat → Int → Int → Int → List (S51) → Option (Int)
 | 0, _, _, _, _ => none
 | k + 1, x3, x4, au, am => if x4 < au then (laws_loAlone.l1 k x3 x4 true 0 au am) else (some x3)
def laws_loAlone.l1 : Nat → Int → Int → Bool → Int → Int → List (S51) → Option (Int)
 | 0, _, _, _, _, _, _ => none
 | k + 1, x3, x4, x5, x6, au, am => if x6 < (am.length : Int) then (if x5 = true then (if 0 ≤ x6 then (if ((rd_T51 am x6).f0) = x4 then (laws_loAlone.l1 k x3 x4 false (wrap64 (x6 + 1)) au am) else (laws_loAlone.l1 k x3 x4 (((rd_T51 am x6).f1) != x4) (wrap64 (x6 + 1)) au am)) else (none)) else (laws_loAlone.l1 k x3 x4 false (wrap64 (x6 + 1)) au am)) else (if x5 = true then (laws_loAlone.l0 k (wrap64 (x3 + 1)) (wrap64 (x4 + 1)) au am) else (laws_loAlone.l0 k x3 (wrap64 (x4 + 1)) au am))
end
def laws_loAlone.f (k : Nat) (ao : Int) (ag : List (S51)) : Option (Int) := laws_loAlone.l0 k 0 0 ao ag
theorem laws_loAlone.mono_l : ∀ k, (∀ y0 y1 y2 y3, LeO (laws_loAlone.l0 k y0 y1 y2 y3) (laws_loAlone.l0 (k + 1) y0 y1 y2 y3)) ∧ (∀ y0 y1 y2 y3 y4 y5, LeO (laws_loAlone.l1 k y0 y1 y2 y3 y4 y5) (laws_loAlone.l1 (k + 1) y0 y1 y2 y3 y4 y5))
 | 0 => ⟨fun _ _ _ _ r h => by simp [laws_loAlone.l0] at h, fun _ _ _ _ _ _ r h => by simp [laws_loAlone.l1] at h⟩
 | k + 1 => by
  obtain ⟨aB, aW⟩ := laws_loAlone.mono_l k; refine ⟨?_, ?_⟩ <;> intros
  all_goals first | unfold laws_loAlone.l0 | unfold laws_loAlone.l1
  repeat' first | (with_reducible first | exact aB _ _ _ _ | exact aW _ _ _ _ _ _ | exact LeO.refl _ | exact LeO.none _ | refine LeO.ite ?_ ?_ | refine LeO.bind ?_ (fun _ => ?_)) | exact aB _ _ _ _ | exact aW _ _ _ _ _ _ | exact LeO.none _ | refine LeO.ite ?_ ?_ | refine LeO.bind ?_ (fun _ => ?_)
theorem laws_loAlone.mono : ∀ a0 a1 k, LeO (laws_loAlone.f k a0 a1) (laws_loAlone.f (k + 1) a0 a1) := by
 intro a0 a1 k; obtain ⟨aB, aW⟩ := laws_loAlone.mono_l k; unfold laws_loAlone.f
 repeat' first | (with_reducible first | exact aB _ _ _ _ | exact aW _ _ _ _ _ _ | exact LeO.refl _ | exact LeO.none _ | refine LeO.ite ?_ ?_ | refine LeO.bind ?_ (fun _ => ?_)) | exact aB _ _ _ _ | exact aW _ _ _ _ _ _ | exact LeO.none _ | refine LeO.ite ?_ ?_ | refine LeO.bind ?_ (fun _ => ?_)
set_option maxHeartbeats 8000000 in
set_option maxRecDepth 100000 in
theorem laws_loAlone.calls (k : Nat) (ao : Int) (aM : Option Addr) (aN : Nat) (ag : List (S51)) (r : Int) (w : World) (a2 : Kd.C k51 w aM ag.length ag) (a3 : ag.length ≤ aN) (h : laws_loAlone.f k ao ag = some r) :
  Calls Tryd.prog 31 #[.agg #[.int .i64 ao, .slice aM ag.length aN]] w fun e w' => e = .returned (.int .i64 r) ∧ Below w.heap.size w w' := by
 have bI := Tryd.underlying29; have aU := G.m a2; have cg := G.m a3; clear a2 a3; have HB := G.m (Below.refl w.heap.size w); have H : (laws_loAlone.l0 k 0 0 ao ag) = some r := h; clear h; have H' := G.m H; clear H
 go_enter Tryd.func31, Tryd.ntmps31
 go_wp2_with (first | ((with_reducible refine G.h 1 rfl ?_); refine G.be 1 #[.int .i64 ao, .slice aM ag.length aN] 29 ?_; intro aK hg w2 hbox hb; have n0 := G.bs HB hb; have n1 := G.m (hbox); have n2 := G.m ((by rw [hg]; exact (below_size (G.cB HB.out)) : w.heap.size ≤ aK)); have n3 := G.m ((by rw [hg]; exact (below_size (G.cB HB.out)) : w.heap.size ≤ aK)); clear HB; revert n0 n1 n2 n3; intro HB al ch ci; clear hb hbox hg))
 go_loopg [3, 4] k (fun kq v3 v4 w' => ∃ (av : Int) (aj : Int), v3 = .int .i64 av ∧ v4 = .int .i64 aj ∧ Aside0 (laws_loAlone.l0 kq av aj ao ag = some r) ∧ Aside0 (kq ≤ k) ∧ Aside0 (w'.heap[aK]? = some (.cells #[.int .i64 ao, (.slice aM ag.length aN)] 29 (0, 0))) ∧ Aside0 (Below w.heap.size w w'))
 case atStart => exact ⟨(0), (0), (caeU), (caeU), H', ⟨Nat.le_refl _⟩, ⟨G.cb al.out⟩, ⟨G.cB HB.out⟩⟩
 case round =>
  clear H'; try clear p2
  obtain ⟨av, aj, rfl, rfl, HA, aP, al, HB⟩ := hrel; cases gk with
  | zero => exact absurd HA.out (by simp [laws_loAlone.l0])
  | succ k1 =>
   have H := HA.out; clear HA; simp only [laws_loAlone.l0] at H
   by_cases c3 : aj < ao
   ·rw [if_pos c3] at H; have bh : decide (aj < ao) = true := decide_eq_true c3; clear c3; have H' := G.m H; clear H; have ⟨bj, bk, bl, bm⟩ := G.d2 (w := wr) al
    go_wp2
    go_loopg [5, 6] k1 (fun kq v5 v6 w' => ∃ (aO : Bool) (ah : Int), v5 = .bool aO ∧ v6 = .int .i64 ah ∧ Aside0 (laws_loAlone.l1 kq av aj aO ah ao ag = some r) ∧ Aside0 (kq ≤ k1) ∧ Aside0 (w'.heap[aK]? = some (.cells #[.int .i64 ao, (.slice aM ag.length aN)] 29 (0, 0))) ∧ Aside0 (Below w.heap.size w w'))
    case atStart => exact ⟨(true), (0), (caeU), (caeU), H', ⟨Nat.le_refl _⟩, ⟨G.cb al.out⟩, ⟨G.cB HB.out⟩⟩
    case round =>
     clear H'; (try clear bh bj bk bl bm); obtain ⟨aO, ah, rfl, rfl, HA, aQ, al, HB⟩ := hrel; cases gk with
     | zero => exact absurd HA.out (by simp [laws_loAlone.l1])
     | succ k2 =>
      have H := HA.out; clear HA; simp only [laws_loAlone.l1] at H
      by_cases c5 : ah < (ag.length : Int)
      ·rw [if_pos c5] at H; have bJ : decide (ah < (ag.length : Int)) = true := decide_eq_true c5; clear c5
       by_cases c6 : aO = true
       ·subst c6; have H1 : (if 0 ≤ ah then (if ((rd_T51 ag ah).f0) = aj then (laws_loAlone.l1 k2 av aj false (wrap64 (ah + 1)) ao ag) else (laws_loAlone.l1 k2 av aj (((rd_T51 ag ah).f1) != aj) (wrap64 (ah + 1)) ao ag)) else (none)) = some r := by rw [if_pos rfl] at H; exact H
        clear H; have H := H1; clear H1
        by_cases c7 : 0 ≤ ah
        ·rw [if_pos c7] at H; have cm : decide (0 ≤ ah) = true := decide_eq_true c7; clear c7
         by_cases c8 : ((rd_T51 ag ah).f0) = aj
         ·rw [if_pos c8] at H; have bK : (((rd_T51 ag ah).f0) == aj) = true := beq_iff_eq.mpr c8; have bL : (((rd_T51 ag ah).f0) != aj) = false := bne_eq_false_iff_eq.mpr c8; clear c8; have H' := G.m H; clear H; have ⟨b4, b5, b6, b7⟩ := G.d2 (w := wr) al; have aE : 0 ≤ (ah : Int) := of_decide_eq_true (G.asm); have aF : ah < (ag.length : Int) := of_decide_eq_true (G.asm); obtain ⟨a4, aX, ax, ay⟩ := at_T51 aU.out ah aE aF; cases aX; replace ax := G.hx HB ax; replace ay := G.hx HB ay; replace aE := eq_true aE; replace aF := eq_true aF
          go_wp2
          go_roundg k2
          case measure => have := aP.out; have := aQ.out; omega
          case rel => exact ⟨(false), (wrap64 (ah + 1)), (caeU), (caeU), H', ⟨caeW⟩, ⟨G.cb al.out⟩, ⟨G.cB HB.out⟩⟩
         ·rw [if_neg c8] at H; have bK : (((rd_T51 ag ah).f0) == aj) = false := beq_eq_false_iff_ne.mpr c8; have bL : (((rd_T51 ag ah).f0) != aj) = true := bne_iff_ne.mpr c8; have H' := G.m H; clear H; have ⟨bN, bO, bP, bQ⟩ := G.d2 (w := wr) al; have aE : 0 ≤ (ah : Int) := of_decide_eq_true (G.asm); have aF : ah < (ag.length : Int) := of_decide_eq_true (G.asm); obtain ⟨a4, aX, ax, ay⟩ := at_T51 aU.out ah aE aF; cases aX; replace ax := G.hx HB ax; replace ay := G.hx HB ay; replace aE := eq_true aE; replace aF := eq_true aF; have aY : 0 ≤ (ah : Int) := of_decide_eq_true (G.asm); have aZ : ah < (ag.length : Int) := of_decide_eq_true (G.asm); obtain ⟨bw, bM, aR, aS⟩ := at_T51 aU.out ah aY aZ; obtain rfl : a4 = bw := (by injection bM); replace aR := G.hx HB aR; replace aS := G.hx HB aS; replace aY := eq_true aY; replace aZ := eq_true aZ
          go_wp2
          go_roundg k2
          case measure => have := aP.out; have := aQ.out; omega
          case rel => exact ⟨((((rd_T51 ag ah).f1) != aj)), (wrap64 (ah + 1)), (caeU), (caeU), H', ⟨caeW⟩, ⟨G.cb al.out⟩, ⟨G.cB HB.out⟩⟩
        ·rw [if_neg c7] at H; exact absurd H (by simp)
       ·replace c6 := Bool.eq_false_iff.mpr c6; subst c6; have H1 : (laws_loAlone.l1 k2 av aj false (wrap64 (ah + 1)) ao ag) = some r := by rw [if_neg (show ¬ (false = true) by decide)] at H; exact H
        clear H; have H := H1; clear H1; have H' := G.m H; clear H; have ⟨bR, bS, bT, bU⟩ := G.d2 (w := wr) al
        go_wp2
        go_roundg k2
        case measure => have := aP.out; have := aQ.out; omega
        case rel => exact ⟨(false), (wrap64 (ah + 1)), (caeU), (caeU), H', ⟨caeW⟩, ⟨G.cb al.out⟩, ⟨G.cB HB.out⟩⟩
      ·rw [if_neg c5] at H; have bJ : decide (ah < (ag.length : Int)) = false := decide_eq_false c5; clear c5
       by_cases aA : aO = true
       ·subst aA; have H1 : (laws_loAlone.l0 k2 (wrap64 (av + 1)) (wrap64 (aj + 1)) ao ag) = some r := by rw [if_pos rfl] at H; exact H
        clear H; have H := H1; clear H1; have H' := G.m H; clear H; have ⟨a7, a8, a9, a_⟩ := G.d2 (w := wr) al
        go_wp2
        go_roundg k2
        case measure => have := aP.out; have := aQ.out; omega
        case rel => exact ⟨(wrap64 (av + 1)), (wrap64 (aj + 1)), (caeU), (caeU), H', ⟨caeW⟩, ⟨G.cb al.out⟩, ⟨G.cB HB.out⟩⟩
       ·replace aA := Bool.eq_false_iff.mpr aA; subst aA; have H1 : (laws_loAlone.l0 k2 av (wrap64 (aj + 1)) ao ag) = some r := by rw [if_neg (show ¬ (false = true) by decide)] at H; exact H
        clear H; have H := H1; clear H1; have H' := G.m H; clear H; have ⟨bV, bW, bX, bY⟩ := G.d2 (w := wr) al
        go_wp2
        go_roundg k2
        case measure => have := aP.out; have := aQ.out; omega
        case rel => exact ⟨(av), (wrap64 (aj + 1)), (caeU), (caeU), H', ⟨caeW⟩, ⟨G.cb al.out⟩, ⟨G.cB HB.out⟩⟩
   ·rw [if_neg c3] at H; have bh : decide (aj < ao) = false := decide_eq_false c3; clear c3; obtain rfl := Option.some.inj H; have ⟨ba, bc, bd, bf⟩ := G.d2 (w := wr) al
    go_wp2
    go_ret
    exact ⟨caeV, G.cB HB.out⟩

/-! ### laws_FnPairHalf: function 6 -/
def laws_FnPairHalf.j0 : Nat → Int → Bool → Int → List (S51) → Option (Bool)
 | 0, _, _, _, _ => none
 | k + 1, x4, b8, aD, aH => if b8 = true then ((spec_PairSize.f k aD aH).bind fun aI => (some (x4 == aI))) else (if (wrap64 (2 * x4)) ≤ aD then (if ((decide (x4 > 0)) == (decide ((aH.length : Int) > 0))) = true then ((laws_loAlone.f k aD aH).bind fun aJ => (some (decide ((wrap64 (2 * x4)) ≤ (wrap64 (aD - aJ)))))) else (some false)) else (some false))
def laws_FnPairHalf.f (k : Nat) (l0 : List Int) : Option (Bool) := if (l0.length : Int) > 1048576 then (some true) else ((spec_DrawPairSize.f k l0).bind fun ak => ((impl_PairSize.f k ak.1 ak.2).bind fun ac => ((spec_PairSize.f k ak.1 ak.2).bind fun ap => (if ac = ap then (laws_FnPairHalf.j0 k ac (decide (ac < 0)) ak.1 ak.2) else (laws_FnPairHalf.j0 k ac true ak.1 ak.2)))))
theorem laws_FnPairHalf.mono_l : ∀ k, (∀ y0 y1 y2 y3, LeO (laws_FnPairHalf.j0 k y0 y1 y2 y3) (laws_FnPairHalf.j0 (k + 1) y0 y1 y2 y3))
 | 0 => fun _ _ _ _ r h => by simp [laws_FnPairHalf.j0] at h
 | k + 1 => by
  have aB := laws_FnPairHalf.mono_l k
  ·intro y0 y1 y2 y3; unfold laws_FnPairHalf.j0
   repeat' first
   | (with_reducible exact aB _ _ _ _)
   | (with_reducible exact impl_PairSize.mono _ _ _)
   | (with_reducible exact laws_loAlone.mono _ _ _)
   | (with_reducible exact spec_DrawPairSize.mono _ _)
   | (with_reducible exact spec_PairSize.mono _ _ _)
   | (with_reducible exact LeO.refl _)
   | (with_reducible exact LeO.none _)
   | (with_reducible refine LeO.ite ?_ ?_)
   | (with_reducible refine LeO.bind ?_ (fun _ => ?_))
   | exact aB _ _ _ _
   | exact impl_PairSize.mono _ _ _
   | exact laws_loAlone.mono _ _ _
   | exact spec_DrawPairSize.mono _ _
   | exact spec_PairSize.mono _ _ _
   | exact LeO.none _
   | refine LeO.ite ?_ ?_
   | refine LeO.bind ?_ (fun _ => ?_)
theorem laws_FnPairHalf.mono : ∀ a0 k, LeO (laws_FnPairHalf.f k a0) (laws_FnPairHalf.f (k + 1) a0) := by
 intro a0 k; have aB := laws_FnPairHalf.mono_l k; unfold laws_FnPairHalf.f
 repeat' first | (with_reducible first | exact aB _ _ _ _ | exact impl_PairSize.mono _ _ _ | exact laws_loAlone.mono _ _ _ | exact spec_DrawPairSize.mono _ _ | exact spec_PairSize.mono _ _ _ | exact LeO.refl _ | exact LeO.none _ | refine LeO.ite ?_ ?_ | refine LeO.bind ?_ (fun _ => ?_)) | exact aB _ _ _ _ | exact impl_PairSize.mono _ _ _ | exact laws_loAlone.mono _ _ _ | exact spec_DrawPairSize.mono _ _ | exact spec_PairSize.mono _ _ _ | exact LeO.none _ | refine LeO.ite ?_ ?_ | refine LeO.bind ?_ (fun _ => ?_)
def laws_FnPairHalf.T7 : Bool × List (List Nat × List Nat) := (true, [([], []), ([0], [0]), ([], []), ([2], [2]), ([1, 3], [1, 3]), ([4], [4]), ([5], [5]), ([6, 5], [5, 6]), ([5], [5]), ([8, 5], [5, 8]), ([9, 5], [5, 9]), ([10, 5], [5, 10]), ([7, 11, 5], [5, 7, 11]), ([5, 12], [5, 12]), ([13, 5], [13]), ([14], [14]), ([15, 14], [14, 15]), ([14], [14]), ([17, 14], [14, 17]), ([14], [14]), ([19, 14, 14], [14, 19]), ([18, 20, 14], [14, 18, 20]), ([16, 21, 14], [14, 16, 21]), ([14, 22], [14, 22]), ([23, 20, 0, 1, 2, 3, 4, 5, 6, 7, 8, 9, 10, 11, 12, 13, 14, 15, 16, 17, 18, 19, 20, 21, 22, 23], [23])])
def laws_FnPairHalf.B7 : List Nat := [0, 1, 0, 4, 15, 31, 63, 127, 63, 319, 831, 1855, 4095, 8191, 16383, 32767, 65535, 32767, 163839, 32767, 557055, 1998847, 4194303, 8388607, 16777215]
theorem laws_FnPairHalf.tab7 : rtab .any (opsOf Tryd.f6 7) = laws_FnPairHalf.T7 := by kernel_rfl
theorem laws_FnPairHalf.bits7 : waitsOk laws_FnPairHalf.T7.2 laws_FnPairHalf.B7 = true := by kernel_rfl
set_option maxHeartbeats 8000000 in
set_option maxRecDepth 100000 in
theorem laws_FnPairHalf.calls (k : Nat) (A0 : Option Addr) (c0 : Nat) (l0 : List Int) (r : Bool) (w : World) (bD : Kd.C (Kd.int .u8) w A0 l0.length l0) (bE : l0.length ≤ c0) (h : laws_FnPairHalf.f k l0 = some r) (hT : TabAt 1 Lib.deBruijn64tab w) :
  Calls Tryd.prog 6 #[.slice A0 l0.length c0] w fun e w' => e = .returned (.bool r) ∧ Below w.heap.size w w' := by
 have HTb := G.m hT; clear hT; have bI := Tryd.underlying29; have b9 := G.m bD; have b_ := G.m bE; clear bD bE; have HB := G.m (Below.refl w.heap.size w); have H : (if (l0.length : Int) > 1048576 then (some true) else ((spec_DrawPairSize.f k l0).bind fun ak => ((impl_PairSize.f k ak.1 ak.2).bind fun ac => ((spec_PairSize.f k ak.1 ak.2).bind fun ap => (if ac = ap then (laws_FnPairHalf.j0 k ac (decide (ac < 0)) ak.1 ak.2) else (laws_FnPairHalf.j0 k ac true ak.1 ak.2)))))) = some r := h; clear h
 by_cases c2 : (l0.length : Int) > 1048576
 ·rw [if_pos c2] at H; have bn : decide (1048576 < (l0.length : Int)) = true := decide_eq_true c2; have bo : decide (1048576 < l0.length) = true := decide_eq_true (by omega); clear c2; obtain rfl := Option.some.inj H
  go_enter Tryd.func6, Tryd.ntmps6
  go_wp2
  go_ret
  exact ⟨caeV, G.cB HB.out⟩
 ·rw [if_neg c2] at H; have bn : decide (1048576 < (l0.length : Int)) = false := decide_eq_false c2; have bo : decide (1048576 < l0.length) = false := decide_eq_false (by omega); clear c2; obtain ⟨⟨af, ae⟩, A3, H⟩ := G.bi H; replace H : ((impl_PairSize.f k af ae).bind fun ac => ((spec_PairSize.f k af ae).bind fun ap => (if ac = ap then (laws_FnPairHalf.j0 k ac (decide (ac < 0)) af ae) else (laws_FnPairHalf.j0 k ac true af ae)))) = some r := H; obtain ⟨ac, A4, H⟩ := G.bi H; replace H : ((spec_PairSize.f k af ae).bind fun ap => (if ac = ap then (laws_FnPairHalf.j0 k ac (decide (ac < 0)) af ae) else (laws_FnPairHalf.j0 k ac true af ae))) = some r := H; have bp := G.m H; clear H
  go_enter Tryd.func6, Tryd.ntmps6
  go_upto_region 5 with (first | ((with_reducible refine G.f 30 rfl ?_); refine G.gL 9 Tryd.func30 #[.slice A0 l0.length c0] ?_; (with_reducible refine (spec_DrawPairSize.calls k _ _ l0 af ae _ ?side1 ?side2 A3.out).mono ?_); (case side1 => exact G.cC b9.out); (case side2 => exact b_.out); rintro e w6 ⟨cn, rfl, bF, hb⟩; refine ⟨_, rfl, ?_⟩; have n0 := G.m (Kd.R_lower bF (below_size (G.cB HB.out))); have n1 := G.bs HB hb; clear HB; revert n0 n1; intro ai HB; (try clear hb bF)) | ((with_reducible refine G.h 3 rfl ?_); (try (refine gate_guard (by rfl) ?_; dsimp only)); refine G.be 3 #[.int .i64 0, .slice none 0 0] 29 ?_; intro aq hg w7 hbox hb; have n0 := G.rb ai hb; have n1 := G.bs HB hb; have n2 := G.m (hbox); have n3 := G.m ((by rw [hg]; exact (below_size (G.cB HB.out)) : w.heap.size ≤ aq)); have n4 := G.m ((by rw [hg]; exact (below_size (G.cB HB.out)) : w.heap.size ≤ aq)); clear ai HB; revert n0 n1 n2 n3 n4; intro ai HB aa cj ck; clear hb hbox hg; have ⟨bq, br, bu, bv⟩ := G.d2 (w := w7) aa; obtain ⟨az, aw, ca⟩ := Kd.R_slice ai.out; subst ca) | ((with_reducible refine G.f 17 rfl ?_); refine G.gL 11 Tryd.func17 #[.agg #[.int .i64 af, .slice az ae.length aw]] ?_; (with_reducible refine (impl_PairSize.calls k af _ _ ae ac _ ?side1 ?side2 A4.out ?sideT).mono ?_); (case sideT => exact lay HTb.out (G.cB HB.out)); (case side1 => refine (Kd.R_reads' (e := 51) (base := w.heap.size) (ok := fun k_ => True) (n := ae.length) (c := aw) ?_).2.2; exact (caeX)); (case side2 => exact (Kd.R_reads' ai.out).2.1); rintro e bG ⟨rfl, hb⟩; refine ⟨_, rfl, ?_⟩; have n0 := G.m (Kd.R_below (caeX) hb); have n1 := G.m (blk_below (g := aq) (o := .cells #[.int .i64 af, .slice az ae.length aw] 29 (0, 0)) (by (with_reducible repeat (first | refine blk_drewN ?_ _ | refine blk_drew ?_ | refine blk_alloc ?_ _)); refine blk_put (cs := #[.int .i64 af, .slice none 0 0]) ?_ 1 _ rfl; (with_reducible repeat (first | refine blk_drewN ?_ _ | refine blk_drew ?_ | refine blk_alloc ?_ _)); refine blk_put (cs := #[.int .i64 0, .slice none 0 0]) ?_ 0 _ rfl; (with_reducible repeat (first | refine blk_drewN ?_ _ | refine blk_drew ?_ | refine blk_alloc ?_ _)); exact aa.out) hb); have n2 := G.bs HB hb; clear ai aa HB; revert n0 n1 n2; intro ai aa HB; (try clear hb)))
  (try simp only [Act.put, List.setIfInBounds_toArray, List.set_cons_zero, List.set_cons_succ])
  go_cut [19] (fun cd wc => ∃ (kq : Nat) (aL : Bool), cd = .bool aL ∧ Aside0 (laws_FnPairHalf.j0 kq ac aL af ae = some r) ∧ Aside0 (kq ≤ k) ∧ Aside0 (Kd.R k51 51 wc w.heap.size (fun _ => True) (.slice az ae.length aw) ae) ∧ Aside0 (wc.heap[aq]? = some (.cells #[.int .i64 af, (.slice az ae.length aw)] 29 (0, 0))) ∧ Aside0 (Below w.heap.size w wc))
  case first =>
   have H := bp.out; clear bp; obtain ⟨ap, bH, H⟩ := G.bi H; replace H : (if ac = ap then (laws_FnPairHalf.j0 k ac (decide (ac < 0)) af ae) else (laws_FnPairHalf.j0 k ac true af ae)) = some r := H
   by_cases aA : ac = ap
   ·rw [if_pos aA] at H; have aG : (ac == ap) = true := beq_iff_eq.mpr aA; have bx : (ac != ap) = false := bne_eq_false_iff_eq.mpr aA; clear aA; (first | rw [aG] | (simp only [i64_w, i32_w]; rw [aG]) | skip); have H' := G.m H; clear H; have ⟨a7, a8, a9, a_⟩ := G.d2 (w := bG) aa
    go_wp2_with (first | ((with_reducible refine G.f 15 rfl ?_); refine G.gL 14 Tryd.func15 #[.agg #[.int .i64 af, .slice az ae.length aw]] ?_; (with_reducible refine (spec_PairSize.calls k af _ _ ae ap _ ?side1 ?side2 bH.out).mono ?_); (case side1 => exact G.cC (Kd.R_reads' ai.out).2.2); (case side2 => exact (Kd.R_reads' ai.out).2.1); rintro e co ⟨rfl, hb⟩; refine ⟨_, rfl, ?_⟩; have n0 := G.rb ai hb; have n1 := G.bb aa hb; have n2 := G.bs HB hb; clear ai aa HB; revert n0 n1 n2; intro ai aa HB; (try clear hb)))
    go_meet
    case rel => exact ⟨_, (decide (ac < 0)), (caeU), H', ⟨by first | omega | exact Nat.le_refl _⟩, ⟨G.cR ai.out⟩, ⟨G.cb aa.out⟩, ⟨G.cB HB.out⟩⟩
   ·rw [if_neg aA] at H; have aG : (ac == ap) = false := beq_eq_false_iff_ne.mpr aA; have bx : (ac != ap) = true := bne_iff_ne.mpr aA; (first | rw [aG] | (simp only [i64_w, i32_w]; rw [aG]) | skip); have H' := G.m H; clear H; have ⟨ba, bc, bd, bf⟩ := G.d2 (w := bG) aa
    go_wp2_with (first | ((with_reducible refine G.f 15 rfl ?_); refine G.gL 14 Tryd.func15 #[.agg #[.int .i64 af, .slice az ae.length aw]] ?_; (with_reducible refine (spec_PairSize.calls k af _ _ ae ap _ ?side1 ?side2 bH.out).mono ?_); (case side1 => exact G.cC (Kd.R_reads' ai.out).2.2); (case side2 => exact (Kd.R_reads' ai.out).2.1); rintro e cp ⟨rfl, hb⟩; refine ⟨_, rfl, ?_⟩; have n0 := G.rb ai hb; have n1 := G.bb aa hb; have n2 := G.bs HB hb; clear ai aa HB; revert n0 n1 n2; intro ai aa HB; (try clear hb)))
    go_meet
    case rel => exact ⟨_, (true), (caeU), H', ⟨by first | omega | exact Nat.le_refl _⟩, ⟨G.cR ai.out⟩, ⟨G.cb aa.out⟩, ⟨G.cB HB.out⟩⟩
  case rest =>
   clear bp; (try clear bn bo bq br bu bv); obtain ⟨kq, aL, rfl, HA, cq, ab, aa, HB⟩ := hcut; cases kq with
   | zero => exact absurd HA.out (by simp [laws_FnPairHalf.j0])
   | succ a5 =>
    have H := HA.out; clear HA; simp only [laws_FnPairHalf.j0] at H
    by_cases a6 : aL = true
    ·subst a6; have H1 : ((spec_PairSize.f a5 af ae).bind fun aI => (some (ac == aI))) = some r := by rw [if_pos rfl] at H; exact H
     clear H; have H := H1; clear H1; obtain ⟨aI, ce, H⟩ := G.bi H; replace H : (some (ac == aI)) = some r := H; obtain rfl := Option.some.inj H; have ⟨bZ, b1, b2, b3⟩ := G.d2 (w := wc) aa
     go_wp2_with (first | ((with_reducible refine G.f 15 rfl ?_); refine G.gL 22 Tryd.func15 #[.agg #[.int .i64 af, .slice az ae.length aw]] ?_; (with_reducible refine (spec_PairSize.calls a5 af _ _ ae aI _ ?side1 ?side2 ce.out).mono ?_); (case side1 => exact G.cC (Kd.R_reads' ab.out).2.2); (case side2 => exact (Kd.R_reads' ab.out).2.1); rintro e cr ⟨rfl, hb⟩; refine ⟨_, rfl, ?_⟩; have n0 := G.rb ab hb; have n1 := G.bb aa hb; have n2 := G.bs HB hb; clear ab aa HB; revert n0 n1 n2; intro ab aa HB; (try clear hb)))
     go_ret
     exact ⟨caeV, G.cB HB.out⟩
    ·replace a6 := Bool.eq_false_iff.mpr a6; subst a6; have H1 : (if (wrap64 (2 * ac)) ≤ af then (if ((decide (ac > 0)) == (decide ((ae.length : Int) > 0))) = true then ((laws_loAlone.f a5 af ae).bind fun aJ => (some (decide ((wrap64 (2 * ac)) ≤ (wrap64 (af - aJ)))))) else (some false)) else (some false)) = some r := by rw [if_neg (show ¬ (false = true) by decide)] at H; exact H
     clear H; have H := H1; clear H1
     by_cases aT : (wrap64 (2 * ac)) ≤ af
     ·rw [if_pos aT] at H; have bz : decide ((wrap64 (2 * ac)) ≤ af) = true := decide_eq_true aT; clear aT
      by_cases aC : ((decide (ac > 0)) == (decide ((ae.length : Int) > 0))) = true
      ·rw [if_pos aC] at H; have aV : ((decide (ac > 0)) == (decide ((ae.length : Int) > 0))) = true := aC; have bA : (decide (0 < ac) == decide (0 < ae.length)) = true := by have h_ : decide (0 < ae.length) = decide ((ae.length : Int) > 0) := decide_eq_decide.2 (by omega); rw [h_]; exact aV
       (try (have bB : decide ((decide (ac > 0)) = (decide ((ae.length : Int) > 0))) = true := by simpa using aC)); (try (have bC : ((decide (ac > 0)) == (decide ((ae.length : Int) > 0))) = true := by simpa using aC)); clear aC; obtain ⟨aJ, cf, H⟩ := G.bi H; replace H : (some (decide ((wrap64 (2 * ac)) ≤ (wrap64 (af - aJ))))) = some r := H; obtain rfl := Option.some.inj H; try go_wp2
       have n0 := G.m (Kd.R_drew ab.out); have n1 := G.m (blk_drew aa.out); have n2 := G.m (below_drew1 HB.out); clear ab aa HB; revert n0 n1 n2; intro ab aa HB; refine G.st 25 (S := fun w' => w'.cell? ⟨aq, 0, none⟩ = some (.int .i64 af) ∧ w'.cell? ⟨aq, 1, none⟩ = some (.slice az ae.length aw)) [] ⟨G.z aa 0, G.z aa 1⟩ laws_FnPairHalf.tab7 laws_FnPairHalf.bits7 (fun hHeld HT_ HW_ => ?_); generalize wc.drew = ct at ab aa HB hHeld ⊢; refine G.pu 0 24 1 ?_; refine G.pu 1 25 3 ?_; refine G.pu 2 26 7 ?_; refine G.ta2 3 27 15 ?_; refine G.pu 4 28 31 ?_; refine G.pu 5 29 63 ?_; refine G.pu 6 30 127 ?_; refine G.pu 7 31 255 ?_; refine G.pu 8 32 511 ?_; refine G.ta2 9 33 1023 ?_; refine G.pu 10 34 2047 ?_; refine G.pu 11 35 4095 ?_; refine G.pu 12 36 8191 ?_; refine G.pu 13 37 16383 ?_; refine G.pu 14 38 32767 ?_; refine G.pu 15 39 65535 ?_; refine G.pu 16 40 131071 ?_; refine G.pu 17 41 262143 ?_; refine G.ta2 18 42 524287 ?_; refine G.ta2 19 43 1048575 ?_; refine G.on 20 44 2097151 (fun K hK => ?_); refine G.gs Tryd.func31 #[.agg #[.int .i64 af, .slice az ae.length aw]] ?_; with_reducible refine (laws_loAlone.calls a5 af _ _ ae aJ _ ?side1 ?side2 cf.out).mono ?_
       (case side1 => exact G.cC (Kd.R_reads' ab.out).2.2); (case side2 => exact (Kd.R_reads' ab.out).2.1); rintro e cu ⟨rfl, hb⟩; refine ⟨_, rfl, ?_⟩; have n0 := G.rb ab hb; have n1 := G.bb aa hb; have n2 := G.bs HB hb; clear ab aa HB; revert n0 n1 n2; intro ab aa HB; (try clear hb cv hk hi); refine hK.out _ _ ⟨G.z aa 0, G.z aa 1⟩ (fun hHeld => ?_); clear hK K; refine G.no 44 ?_; refine G.pu 21 45 4194303 ?_; refine G.pu 22 46 8388607 ?_; refine G.pu 23 47 16777215 ?_; refine G.pu 24 2 33554431 ?_; refine done_ (done_of HT_.out (by kernel_rfl)) ?_; try go_wp2
       go_ret
       exact ⟨caeV, G.cB HB.out⟩
      ·rw [if_neg aC] at H; have aV : ((decide (ac > 0)) == (decide ((ae.length : Int) > 0))) = false := by simpa using aC
       have bA : (decide (0 < ac) == decide (0 < ae.length)) = false := by have h_ : decide (0 < ae.length) = decide ((ae.length : Int) > 0) := decide_eq_decide.2 (by omega); rw [h_]; exact aV
       (try (have bB : decide ((decide (ac > 0)) = (decide ((ae.length : Int) > 0))) = false := by simpa using aC)); (try (have bC : ((decide (ac > 0)) == (decide ((ae.length : Int) > 0))) = false := by simpa using aC)); (try (have cl : ¬ ((decide (ac > 0)) = (decide ((ae.length : Int) > 0))) := by simpa using aC)); clear aC; obtain rfl := Option.some.inj H; try go_wp2
       have n0 := G.m (Kd.R_drew ab.out); have n1 := G.m (blk_drew aa.out); have n2 := G.m (below_drew1 HB.out); clear ab aa HB; revert n0 n1 n2; intro ab aa HB; refine G.st 25 (S := fun w' => w'.cell? ⟨aq, 0, none⟩ = some (.int .i64 af) ∧ w'.cell? ⟨aq, 1, none⟩ = some (.slice az ae.length aw)) [] ⟨G.z aa 0, G.z aa 1⟩ laws_FnPairHalf.tab7 laws_FnPairHalf.bits7 (fun hHeld HT_ HW_ => ?_); generalize wc.drew = cw at ab aa HB hHeld ⊢; refine G.pu 0 24 1 ?_; refine G.pu 1 25 3 ?_; refine G.pu 2 26 7 ?_; refine G.ta2 3 27 15 ?_; refine G.pu 4 28 31 ?_; refine G.pu 5 29 63 ?_; refine G.pu 6 30 127 ?_; refine G.pu 7 31 255 ?_; refine G.pu 8 32 511 ?_; refine G.ta2 9 33 1023 ?_; refine G.pu 10 34 2047 ?_; refine G.pu 11 35 4095 ?_; refine G.pu 12 36 8191 ?_; refine G.pu 13 37 16383 ?_; refine G.pu 14 38 32767 ?_; refine G.pf 15 39 65535 ?_; refine G.pf 16 40 131071 ?_; refine G.pf 17 41 262143 ?_; refine G.pf 18 42 524287 ?_; refine G.pf 19 43 1048575 ?_; refine G.pf 20 44 2097151 ?_; refine G.pf 21 45 4194303 ?_; refine G.pf 22 46 8388607 ?_; refine G.pu 23 47 16777215 ?_; refine G.pu 24 2 33554431 ?_; refine done_ (done_of HT_.out (by kernel_rfl)) ?_; try go_wp2
       go_ret
       exact ⟨caeV, G.cB HB.out⟩
     ·rw [if_neg aT] at H; have bz : decide ((wrap64 (2 * ac)) ≤ af) = false := decide_eq_false aT; clear aT; obtain rfl := Option.some.inj H; try go_wp2
      have n0 := G.m (Kd.R_drew ab.out); have n1 := G.m (blk_drew aa.out); have n2 := G.m (below_drew1 HB.out); clear ab aa HB; revert n0 n1 n2; intro ab aa HB; refine G.st 25 (S := fun w' => w'.cell? ⟨aq, 0, none⟩ = some (.int .i64 af) ∧ w'.cell? ⟨aq, 1, none⟩ = some (.slice az ae.length aw)) [] ⟨G.z aa 0, G.z aa 1⟩ laws_FnPairHalf.tab7 laws_FnPairHalf.bits7 (fun hHeld HT_ HW_ => ?_); generalize wc.drew = cx at ab aa HB hHeld ⊢; refine G.pu 0 24 1 ?_; refine G.pu 1 25 3 ?_; refine G.pu 2 26 7 ?_; refine G.ta2 3 27 15 ?_; refine G.pu 4 28 31 ?_; refine G.pu 5 29 63 ?_; refine G.pf 6 30 127 ?_; refine G.pf 7 31 255 ?_; refine G.pf 8 32 511 ?_; refine G.pf 9 33 1023 ?_; refine G.pf 10 34 2047 ?_; refine G.pf 11 35 4095 ?_; refine G.pf 12 36 8191 ?_; refine G.pu 13 37 16383 ?_; refine G.pu 14 38 32767 ?_; refine G.pf 15 39 65535 ?_; refine G.pf 16 40 131071 ?_; refine G.pf 17 41 262143 ?_; refine G.pf 18 42 524287 ?_; refine G.pf 19 43 1048575 ?_; refine G.pf 20 44 2097151 ?_; refine G.pf 21 45 4194303 ?_; refine G.pf 22 46 8388607 ?_; refine G.pu 23 47 16777215 ?_; refine G.pu 24 2 33554431 ?_; refine done_ (done_of HT_.out (by kernel_rfl)) ?_; try go_wp2
      go_ret
      exact ⟨caeV, G.cB HB.out⟩

end Go.Proofs.YtjkeagcenmmknaaDoor.P
