-- Printed by a program of this session (mp.py, over the kit's print). Not trusted: Lean checks it.
import Derived.Test.YtjkeagcenmmknaaDoorF0
import Derived.Test.YtjkeagcenmmknaaDoorF4
import Derived.Test.YtjkeagcenmmknaaDoorF6
import Derived.Test.YtjkeagcenmmknaaDoorF24
import Derived.Test.YtjkeagcenmmknaaDoorF30
namespace Go.Proofs.YtjkeagcenmmknaaDoor.P
open Go.RowKit Go.Proofs.YtjkeagcenmmknaaDoorW.PrintWords Go.Proofs.YtjkeagcenmmknaaDoorW.PrintLast Go.Proofs.YtjkeagcenmmknaaDoorW.PrintMore
attribute [local go_sem] max2_int min2_int max_two min_two max_three min_three max_four min_four   -- for this text's walks alone
set_option linter.unusedVariables false
set_option linter.unusedSimpArgs false

theorem cae0 {p : Prop} (h : p := by (with_reducible repeat (first | apply Kd.R_alloc | apply Kd.R_drewN | apply Kd.R_drew)); exact (Kd.R_mono (Kd.R_far (p := ⟨ap, 1, none⟩) (Kd.R_far (p := ⟨ap, 0, none⟩) (Kd.R_types ag.out aa.out (by decide)) (fun _ hk => hk.2) (.int .i64 ae)) (fun _ hk => hk.2) (.slice ao af.length am)) (fun _ h_ => h_.1))) : p := h
theorem caeZ {p : Prop} (h : p := by first | rfl | (simp [errW_none, errW_some] <;> rfl) | (simp [*, errW_none, errW_some] <;> rfl)) : p := h
theorem caeY {p : Prop} (h : p := by first | rfl | (simp; done) | (simp [*]; done)) : p := h
theorem cae1 {p : Prop} (h : p := by kernel_rfl) : p := h
/-! ### laws_FnPairKnot: function 7 -/
mutual
def laws_FnPairKnot.j0 : Nat → List Int → List Int → Bool → Option (Bool)
 | 0, _, _, _ => none
 | k + 1, x0, x1, bL => if bL = true then (some true) else ((spec_DrawPairSize.f k x0).bind fun ah => ((impl_PairSize.f k ah.1 ah.2).bind fun ac => ((spec_PairSize.f k ah.1 ah.2).bind fun ak => (if ac = ak then (if ac < 0 then (laws_FnPairKnot.j1 k x1 ac true ah.1 ah.2) else (laws_FnPairKnot.j1 k x1 ac (ah.1 == 0) ah.1 ah.2)) else (laws_FnPairKnot.j1 k x1 ac true ah.1 ah.2)))))
def laws_FnPairKnot.j1 : Nat → List Int → Int → Bool → Int → List (S51) → Option (Bool)
 | 0, _, _, _, _, _ => none
 | k + 1, x1, x6, bM, aq, aG => if bM = true then ((spec_PairSize.f k aq aG).bind fun aA => (some (x6 == aA))) else (if aq = 0 then (none) else ((impl_NetWithout.f k aq aG ((x1.length : Int) % aq)).bind fun ax => ((impl_PairSize.f k ax.1 ax.2).bind fun ai => (if ai = x6 then (some true) else (some (ai == (wrap64 (x6 - 1))))))))
end
def laws_FnPairKnot.f (k : Nat) (l0 : List Int) (l1 : List Int) : Option (Bool) := if (l0.length : Int) > 1048576 then (laws_FnPairKnot.j0 k l0 l1 true) else (laws_FnPairKnot.j0 k l0 l1 (decide ((l1.length : Int) > 1048576)))
theorem laws_FnPairKnot.mono_l : ∀ k, (∀ y0 y1 y2, LeO (laws_FnPairKnot.j0 k y0 y1 y2) (laws_FnPairKnot.j0 (k + 1) y0 y1 y2)) ∧ (∀ y0 y1 y2 y3 y4, LeO (laws_FnPairKnot.j1 k y0 y1 y2 y3 y4) (laws_FnPairKnot.j1 (k + 1) y0 y1 y2 y3 y4))
 | 0 => ⟨fun _ _ _ r h => by simp [laws_FnPairKnot.j0] at h, fun _ _ _ _ _ r h => by simp [laws_FnPairKnot.j1] at h⟩
 | k + 1 => by
  obtain ⟨aI, aJ⟩ := laws_FnPairKnot.mono_l k; refine ⟨?_, ?_⟩ <;> intros
  all_goals first | unfold laws_FnPairKnot.j0 | unfold laws_FnPairKnot.j1
  repeat' first | (with_reducible first | exact aI _ _ _ | exact aJ _ _ _ _ _ | exact impl_NetWithout.mono _ _ _ _ | exact impl_PairSize.mono _ _ _ | exact spec_DrawPairSize.mono _ _ | exact spec_PairSize.mono _ _ _ | exact LeO.refl _ | exact LeO.none _ | refine LeO.ite ?_ ?_ | refine LeO.bind ?_ (fun _ => ?_)) | exact aI _ _ _ | exact aJ _ _ _ _ _ | exact impl_NetWithout.mono _ _ _ _ | exact impl_PairSize.mono _ _ _ | exact spec_DrawPairSize.mono _ _ | exact spec_PairSize.mono _ _ _ | exact LeO.none _ | refine LeO.ite ?_ ?_ | refine LeO.bind ?_ (fun _ => ?_)
theorem laws_FnPairKnot.mono : ∀ a0 a1 k, LeO (laws_FnPairKnot.f k a0 a1) (laws_FnPairKnot.f (k + 1) a0 a1) := by
 intro a0 a1 k; obtain ⟨aI, aJ⟩ := laws_FnPairKnot.mono_l k; unfold laws_FnPairKnot.f
 repeat' first | (with_reducible first | exact aI _ _ _ | exact aJ _ _ _ _ _ | exact impl_NetWithout.mono _ _ _ _ | exact impl_PairSize.mono _ _ _ | exact spec_DrawPairSize.mono _ _ | exact spec_PairSize.mono _ _ _ | exact LeO.refl _ | exact LeO.none _ | refine LeO.ite ?_ ?_ | refine LeO.bind ?_ (fun _ => ?_)) | exact aI _ _ _ | exact aJ _ _ _ _ _ | exact impl_NetWithout.mono _ _ _ _ | exact impl_PairSize.mono _ _ _ | exact spec_DrawPairSize.mono _ _ | exact spec_PairSize.mono _ _ _ | exact LeO.none _ | refine LeO.ite ?_ ?_ | refine LeO.bind ?_ (fun _ => ?_)
def laws_FnPairKnot.T7 : Bool × List (List Nat × List Nat) := (true, [([], []), ([], []), ([1], [1]), ([], []), ([3], [3]), ([2, 4], [2, 4]), ([0, 5], [0, 5]), ([6, 6], [6]), ([7, 7, 0, 1, 2, 3, 4, 5, 6, 7], [7])])
def laws_FnPairKnot.B7 : List Nat := [0, 0, 2, 0, 8, 30, 63, 127, 255]
theorem laws_FnPairKnot.tab7 : rtab .any (opsOf Tryd.f7 7) = laws_FnPairKnot.T7 := by kernel_rfl
theorem laws_FnPairKnot.bits7 : waitsOk laws_FnPairKnot.T7.2 laws_FnPairKnot.B7 = true := by kernel_rfl
set_option maxHeartbeats 8000000 in
set_option maxRecDepth 100000 in
theorem laws_FnPairKnot.calls (k : Nat) (A0 : Option Addr) (c0 : Nat) (l0 : List Int) (A1 : Option Addr) (c1 : Nat) (l1 : List Int) (r : Bool) (w : World) (a8 : Kd.C (Kd.int .u8) w A0 l0.length l0) (a9 : l0.length ≤ c0) (hr1 : Kd.C (Kd.int .u8) w A1 l1.length l1) (a_ : l1.length ≤ c1) (h : laws_FnPairKnot.f k l0 l1 = some r) (hT : TabAt 1 Lib.deBruijn64tab w) :
  Calls Tryd.prog 7 #[.slice A0 l0.length c0, .slice A1 l1.length c1] w fun e w' => e = .returned (.bool r) ∧ Below w.heap.size w w' := by
 have HTb := G.m hT; clear hT; have bZ := Tryd.underlying29; have bN := G.m a8; have bO := G.m a9; clear a8 a9; have b2 := G.m hr1; have b3 := G.m a_; clear hr1 a_; have HB := G.m (Below.refl w.heap.size w); have H : (if (l0.length : Int) > 1048576 then (laws_FnPairKnot.j0 k l0 l1 true) else (laws_FnPairKnot.j0 k l0 l1 (decide ((l1.length : Int) > 1048576)))) = some r := h; clear h; have aS := G.m H; clear H
 go_enter Tryd.func7, Tryd.ntmps7
 go_upto_region 1 with (fail)
 go_cut [15] (fun bP wc => ∃ (kq : Nat) (aB : Bool), bP = .bool aB ∧ Aside0 (laws_FnPairKnot.j0 kq l0 l1 aB = some r) ∧ Aside0 (kq ≤ k) ∧ Aside0 (Below w.heap.size w wc))
 case first =>
  have H := aS.out; clear aS
  by_cases c4 : (l0.length : Int) > 1048576
  ·rw [if_pos c4] at H; have aD : decide (1048576 < (l0.length : Int)) = true := decide_eq_true c4; have bd : decide (1048576 < l0.length) = true := decide_eq_true (by omega); clear c4; (first | rw [aD] | (simp only [i64_w, i32_w]; rw [aD]) | skip); have H' := G.m H; clear H
   go_wp2
   go_meet
   case rel => exact ⟨_, (true), (caeY), H', ⟨by first | omega | exact Nat.le_refl _⟩, ⟨G.cB HB.out⟩⟩
  ·rw [if_neg c4] at H; have aD : decide (1048576 < (l0.length : Int)) = false := decide_eq_false c4; have bd : decide (1048576 < l0.length) = false := decide_eq_false (by omega); clear c4; (first | rw [aD] | (simp only [i64_w, i32_w]; rw [aD]) | skip); have H' := G.m H; clear H
   go_wp2
   go_meet
   case rel => exact ⟨_, (decide ((l1.length : Int) > 1048576)), (caeY), H', ⟨by first | omega | exact Nat.le_refl _⟩, ⟨G.cB HB.out⟩⟩
 case rest =>
  clear aS; obtain ⟨kq, aB, rfl, HA, aT, HB⟩ := hcut; cases kq with
  | zero => exact absurd HA.out (by simp [laws_FnPairKnot.j0])
  | succ aj =>
   have H := HA.out; clear HA; simp only [laws_FnPairKnot.j0] at H
   by_cases c5 : aB = true
   ·subst c5; have H1 : (some true) = some r := by rw [if_pos rfl] at H; exact H
    clear H; have H := H1; clear H1; obtain rfl := Option.some.inj H
    go_wp2
    go_ret
    exact ⟨caeZ, G.cB HB.out⟩
   ·replace c5 := Bool.eq_false_iff.mpr c5; subst c5; have H1 : ((spec_DrawPairSize.f aj l0).bind fun ah => ((impl_PairSize.f aj ah.1 ah.2).bind fun ac => ((spec_PairSize.f aj ah.1 ah.2).bind fun ak => (if ac = ak then (if ac < 0 then (laws_FnPairKnot.j1 aj l1 ac true ah.1 ah.2) else (laws_FnPairKnot.j1 aj l1 ac (ah.1 == 0) ah.1 ah.2)) else (laws_FnPairKnot.j1 aj l1 ac true ah.1 ah.2))))) = some r := by rw [if_neg (show ¬ (false = true) by decide)] at H; exact H
    clear H; have H := H1; clear H1; obtain ⟨⟨ae, af⟩, A6, H⟩ := G.bi H; replace H : ((impl_PairSize.f aj ae af).bind fun ac => ((spec_PairSize.f aj ae af).bind fun ak => (if ac = ak then (if ac < 0 then (laws_FnPairKnot.j1 aj l1 ac true ae af) else (laws_FnPairKnot.j1 aj l1 ac (ae == 0) ae af)) else (laws_FnPairKnot.j1 aj l1 ac true ae af)))) = some r := H; obtain ⟨ac, A7, H⟩ := G.bi H; replace H : ((spec_PairSize.f aj ae af).bind fun ak => (if ac = ak then (if ac < 0 then (laws_FnPairKnot.j1 aj l1 ac true ae af) else (laws_FnPairKnot.j1 aj l1 ac (ae == 0) ae af)) else (laws_FnPairKnot.j1 aj l1 ac true ae af))) = some r := H; have aU := G.m H; clear H
    go_upto_region 5 with (first | ((with_reducible refine G.f 30 rfl ?_); refine G.gL 17 Tryd.func30 #[.slice A0 l0.length c0] ?_; (with_reducible refine (spec_DrawPairSize.calls aj _ _ l0 ae af _ ?side1 ?side2 A6.out).mono ?_); (case side1 => exact G.cC (Kd.C_below bN.out HB.out)); (case side2 => exact bO.out); rintro e w9 ⟨b1, rfl, au, hb⟩; refine ⟨_, rfl, ?_⟩; have n0 := G.m (Kd.R_lower au (below_size (G.cB HB.out))); have n1 := G.bs HB hb; clear HB; revert n0 n1; intro ag HB; (try clear hb au)) | ((with_reducible refine G.h 5 rfl ?_); (try (refine gate_guard (by rfl) ?_; dsimp only)); refine G.be 5 #[.int .i64 0, .slice none 0 0] 29 ?_; intro ap hg bQ hbox hb; have n0 := G.rb ag hb; have n1 := G.bs HB hb; have n2 := G.m (hbox); have n3 := G.m ((by rw [hg]; exact (below_size (G.cB HB.out)) : w.heap.size ≤ ap)); have n4 := G.m ((by rw [hg]; exact (below_size (G.cB HB.out)) : w.heap.size ≤ ap)); clear ag HB; revert n0 n1 n2 n3 n4; intro ag HB aa bV bW; clear hb hbox hg; have ⟨aO, aP, aQ, aR⟩ := G.d2 (w := bQ) aa; obtain ⟨ao, am, bf⟩ := Kd.R_slice ag.out; subst bf) | ((with_reducible refine G.f 17 rfl ?_); refine G.gL 19 Tryd.func17 #[.agg #[.int .i64 ae, .slice ao af.length am]] ?_; (with_reducible refine (impl_PairSize.calls aj ae _ _ af ac _ ?side1 ?side2 A7.out ?sideT).mono ?_); (case sideT => exact lay HTb.out (G.cB HB.out)); (case side1 => refine (Kd.R_reads' (e := 51) (base := w.heap.size) (ok := fun k_ => True) (n := af.length) (c := am) ?_).2.2; exact (cae0)); (case side2 => exact (Kd.R_reads' ag.out).2.1); rintro e aV ⟨rfl, hb⟩; refine ⟨_, rfl, ?_⟩; have n0 := G.m (Kd.R_below (cae0) hb); have n1 := G.m (blk_below (g := ap) (o := .cells #[.int .i64 ae, .slice ao af.length am] 29 (0, 0)) (by (with_reducible repeat (first | refine blk_drewN ?_ _ | refine blk_drew ?_ | refine blk_alloc ?_ _)); refine blk_put (cs := #[.int .i64 ae, .slice none 0 0]) ?_ 1 _ rfl; (with_reducible repeat (first | refine blk_drewN ?_ _ | refine blk_drew ?_ | refine blk_alloc ?_ _)); refine blk_put (cs := #[.int .i64 0, .slice none 0 0]) ?_ 0 _ rfl; (with_reducible repeat (first | refine blk_drewN ?_ _ | refine blk_drew ?_ | refine blk_alloc ?_ _)); exact aa.out) hb); have n2 := G.bs HB hb; clear ag aa HB; revert n0 n1 n2; intro ag aa HB; (try clear hb)))
    (try simp only [Act.put, List.setIfInBounds_toArray, List.set_cons_zero, List.set_cons_succ])
    go_cut [32] (fun bR wc => ∃ (kq : Nat) (aC : Bool), bR = .bool aC ∧ Aside0 (laws_FnPairKnot.j1 kq l1 ac aC ae af = some r) ∧ Aside0 (kq ≤ aj) ∧ Aside0 (Kd.R k51 51 wc w.heap.size (fun _ => True) (.slice ao af.length am) af) ∧ Aside0 (wc.heap[ap]? = some (.cells #[.int .i64 ae, (.slice ao af.length am)] 29 (0, 0))) ∧ Aside0 (Below w.heap.size w wc))
    case first =>
     have H := aU.out; clear aU; obtain ⟨ak, aW, H⟩ := G.bi H; replace H : (if ac = ak then (if ac < 0 then (laws_FnPairKnot.j1 aj l1 ac true ae af) else (laws_FnPairKnot.j1 aj l1 ac (ae == 0) ae af)) else (laws_FnPairKnot.j1 aj l1 ac true ae af)) = some r := H
     by_cases aE : ac = ak
     ·rw [if_pos aE] at H; have ay : (ac == ak) = true := beq_iff_eq.mpr aE; have a4 : (ac != ak) = false := bne_eq_false_iff_eq.mpr aE; clear aE; (first | rw [ay] | (simp only [i64_w, i32_w]; rw [ay]) | skip)
      by_cases aH : ac < 0
      ·rw [if_pos aH] at H; have a5 : decide (ac < 0) = true := decide_eq_true aH; clear aH; have H' := G.m H; clear H; have ⟨bo, bp, bq, br⟩ := G.d2 (w := aV) aa
       go_wp2_with (first | ((with_reducible refine G.f 15 rfl ?_); refine G.gL 22 Tryd.func15 #[.agg #[.int .i64 ae, .slice ao af.length am]] ?_; (with_reducible refine (spec_PairSize.calls aj ae _ _ af ak _ ?side1 ?side2 aW.out).mono ?_); (case side1 => exact G.cC (Kd.R_reads' ag.out).2.2); (case side2 => exact (Kd.R_reads' ag.out).2.1); rintro e b4 ⟨rfl, hb⟩; refine ⟨_, rfl, ?_⟩; have n0 := G.rb ag hb; have n1 := G.bb aa hb; have n2 := G.bs HB hb; clear ag aa HB; revert n0 n1 n2; intro ag aa HB; (try clear hb)))
       go_meet
       case rel => exact ⟨_, (true), (caeY), H', ⟨by have := aT.out; first | omega | exact Nat.le_refl _⟩, ⟨G.cR ag.out⟩, ⟨G.cb aa.out⟩, ⟨G.cB HB.out⟩⟩
      ·rw [if_neg aH] at H; have a5 : decide (ac < 0) = false := decide_eq_false aH; clear aH; have H' := G.m H; clear H; have ⟨bu, bv, bw, bx⟩ := G.d2 (w := aV) aa
       go_wp2_with (first | ((with_reducible refine G.f 15 rfl ?_); refine G.gL 22 Tryd.func15 #[.agg #[.int .i64 ae, .slice ao af.length am]] ?_; (with_reducible refine (spec_PairSize.calls aj ae _ _ af ak _ ?side1 ?side2 aW.out).mono ?_); (case side1 => exact G.cC (Kd.R_reads' ag.out).2.2); (case side2 => exact (Kd.R_reads' ag.out).2.1); rintro e bS ⟨rfl, hb⟩; refine ⟨_, rfl, ?_⟩; have n0 := G.rb ag hb; have n1 := G.bb aa hb; have n2 := G.bs HB hb; clear ag aa HB; revert n0 n1 n2; intro ag aa HB; (try clear hb); have ⟨bz, bA, bB, bC⟩ := G.d2 (w := bS) aa))
       go_meet
       case rel => exact ⟨_, ((ae == 0)), (caeY), H', ⟨by have := aT.out; first | omega | exact Nat.le_refl _⟩, ⟨G.cR ag.out⟩, ⟨G.cb aa.out⟩, ⟨G.cB HB.out⟩⟩
     ·rw [if_neg aE] at H; have ay : (ac == ak) = false := beq_eq_false_iff_ne.mpr aE; have a4 : (ac != ak) = true := bne_iff_ne.mpr aE; (first | rw [ay] | (simp only [i64_w, i32_w]; rw [ay]) | skip); have H' := G.m H; clear H; have ⟨bD, bE, bF, bG⟩ := G.d2 (w := aV) aa
      go_wp2_with (first | ((with_reducible refine G.f 15 rfl ?_); refine G.gL 22 Tryd.func15 #[.agg #[.int .i64 ae, .slice ao af.length am]] ?_; (with_reducible refine (spec_PairSize.calls aj ae _ _ af ak _ ?side1 ?side2 aW.out).mono ?_); (case side1 => exact G.cC (Kd.R_reads' ag.out).2.2); (case side2 => exact (Kd.R_reads' ag.out).2.1); rintro e b5 ⟨rfl, hb⟩; refine ⟨_, rfl, ?_⟩; have n0 := G.rb ag hb; have n1 := G.bb aa hb; have n2 := G.bs HB hb; clear ag aa HB; revert n0 n1 n2; intro ag aa HB; (try clear hb)))
      go_meet
      case rel => exact ⟨_, (true), (caeY), H', ⟨by have := aT.out; first | omega | exact Nat.le_refl _⟩, ⟨G.cR ag.out⟩, ⟨G.cb aa.out⟩, ⟨G.cB HB.out⟩⟩
    case rest =>
     clear aU; (try clear c5 aO aP aQ aR); obtain ⟨kq, aC, rfl, HA, b6, ab, aa, HB⟩ := hcut; cases kq with
     | zero => exact absurd HA.out (by simp [laws_FnPairKnot.j1])
     | succ az =>
      have H := HA.out; clear HA; simp only [laws_FnPairKnot.j1] at H
      by_cases aM : aC = true
      ·subst aM; have H1 : ((spec_PairSize.f az ae af).bind fun aA => (some (ac == aA))) = some r := by rw [if_pos rfl] at H; exact H
       clear H; have H := H1; clear H1; obtain ⟨aA, bT, H⟩ := G.bi H; replace H : (some (ac == aA)) = some r := H; obtain rfl := Option.some.inj H; have ⟨bH, bI, bJ, bK⟩ := G.d2 (w := wc) aa
       go_wp2_with (first | ((with_reducible refine G.f 15 rfl ?_); refine G.gL 35 Tryd.func15 #[.agg #[.int .i64 ae, .slice ao af.length am]] ?_; (with_reducible refine (spec_PairSize.calls az ae _ _ af aA _ ?side1 ?side2 bT.out).mono ?_); (case side1 => exact G.cC (Kd.R_reads' ab.out).2.2); (case side2 => exact (Kd.R_reads' ab.out).2.1); rintro e b7 ⟨rfl, hb⟩; refine ⟨_, rfl, ?_⟩; have n0 := G.rb ab hb; have n1 := G.bb aa hb; have n2 := G.bs HB hb; clear ab aa HB; revert n0 n1 n2; intro ab aa HB; (try clear hb)))
       go_ret
       exact ⟨caeZ, G.cB HB.out⟩
      ·replace aM := Bool.eq_false_iff.mpr aM; subst aM; have H1 : (if ae = 0 then (none) else ((impl_NetWithout.f az ae af ((l1.length : Int) % ae)).bind fun ax => ((impl_PairSize.f az ax.1 ax.2).bind fun ai => (if ai = ac then (some true) else (some (ai == (wrap64 (ac - 1)))))))) = some r := by rw [if_neg (show ¬ (false = true) by decide)] at H; exact H
       clear H; have H := H1; clear H1
       by_cases aN : ae = 0
       ·rw [if_pos aN] at H; exact absurd H (by simp)
       ·rw [if_neg aN] at H; have bX : (ae == 0) = false := beq_eq_false_iff_ne.mpr aN; have bY : (ae != 0) = true := bne_iff_ne.mpr aN; have bh := Int.tmod_eq_emod_of_nonneg (b := ae) (Int.natCast_nonneg l1.length); obtain ⟨⟨av, aw⟩, ba, H⟩ := G.bi H; replace H : ((impl_PairSize.f az av aw).bind fun ai => (if ai = ac then (some true) else (some (ai == (wrap64 (ac - 1)))))) = some r := H; obtain ⟨ai, bc, H⟩ := G.bi H; replace H : (if ai = ac then (some true) else (some (ai == (wrap64 (ac - 1))))) = some r := H
        by_cases aF : ai = ac
        ·rw [if_pos aF] at H; have a6 : (ai == ac) = true := beq_iff_eq.mpr aF; have a7 : (ai != ac) = false := bne_eq_false_iff_eq.mpr aF; clear aF; obtain rfl := Option.some.inj H; try go_wp2
         have n0 := G.m (Kd.R_drew ab.out); have n1 := G.m (blk_drew aa.out); have n2 := G.m (below_drew1 HB.out); clear ab aa HB; revert n0 n1 n2; intro ab aa HB; refine G.st 9 (S := fun w' => w'.cell? ⟨ap, 0, none⟩ = some (.int .i64 ae) ∧ w'.cell? ⟨ap, 1, none⟩ = some (.slice ao af.length am)) [] ⟨G.z aa 0, G.z aa 1⟩ laws_FnPairKnot.tab7 laws_FnPairKnot.bits7 (fun hHeld HT_ HW_ => ?_); generalize wc.drew = b8 at ab aa HB hHeld ⊢; refine G.pu 1 38 2 ?_; refine G.pu 2 39 6 ?_; refine G.pu 3 40 14 ?_; refine G.ta2 0 37 15 ?_; refine G.ta2 4 41 31 ?_; refine G.pu 5 42 63 ?_; refine G.on 6 43 127 (fun K hK => ?_); refine G.gs Tryd.func32 #[.agg #[.int .i64 ae, .slice ao af.length am], .int .i64 ((l1.length : Int) % ae)] ?_; with_reducible refine (impl_NetWithout.calls az ae _ _ af ((l1.length : Int) % ae) av aw _ ?side1 ?side2 ba.out).mono ?_
         (case side1 => exact G.cC (Kd.R_reads' ab.out).2.2); (case side2 => exact (Kd.R_reads' ab.out).2.1); rintro e b9 ⟨bj, rfl, au, hb⟩; refine ⟨_, rfl, ?_⟩; have n0 := G.re ab au hb; have n1 := G.m (Kd.R_lower (Kd.R_new' au (Kd.R_lt (G.cR ab.out))) (below_size (G.cB HB.out))); have n2 := G.bb aa hb; have n3 := G.bs HB hb; clear ab aa HB; revert n0 n1 n2 n3; intro ab al aa HB; (try clear hb bU hk hi au); obtain ⟨bk, bl, aX⟩ := Kd.R_slice al.out; (first | subst aX | (injection aX with aK aY aL; have aZ := aK.symm; have a2 := aL.symm; clear aK aY aL; subst aZ; subst a2)); refine hK.out _ _ ⟨G.z aa 0, G.z aa 1⟩ (fun hHeld => ?_); clear hK K; refine G.no 43 ?_; refine G.on 7 44 255 (fun K hK => ?_); refine G.gs Tryd.func17 #[.agg #[.int .i64 av, .slice bk aw.length bl]] ?_; with_reducible refine (impl_PairSize.calls az av _ _ aw ai _ ?side1 ?side2 bc.out ?sideT).mono ?_
         (case sideT => exact lay HTb.out (G.cB HB.out)); (case side1 => exact G.cC (Kd.R_reads' al.out).2.2); (case side2 => exact (Kd.R_reads' al.out).2.1); rintro e b_ ⟨rfl, hb⟩; refine ⟨_, rfl, ?_⟩; have n0 := G.rb ab hb; have n1 := G.rb al hb; have n2 := G.bb aa hb; have n3 := G.bs HB hb; clear ab al aa HB; revert n0 n1 n2 n3; intro ab al aa HB; (try clear hb); refine hK.out _ _ ⟨G.z aa 0, G.z aa 1⟩ (fun hHeld => ?_); clear hK K; refine G.no 44 ?_; refine G.pu 8 7 511 ?_; refine done_ (done_of HT_.out (cae1)) ?_; try go_wp2
         go_ret
         exact ⟨caeZ, G.cB HB.out⟩
        ·rw [if_neg aF] at H; have a6 : (ai == ac) = false := beq_eq_false_iff_ne.mpr aF; have a7 : (ai != ac) = true := bne_iff_ne.mpr aF; obtain rfl := Option.some.inj H; try go_wp2
         have n0 := G.m (Kd.R_drew ab.out); have n1 := G.m (blk_drew aa.out); have n2 := G.m (below_drew1 HB.out); clear ab aa HB; revert n0 n1 n2; intro ab aa HB; refine G.st 9 (S := fun w' => w'.cell? ⟨ap, 0, none⟩ = some (.int .i64 ae) ∧ w'.cell? ⟨ap, 1, none⟩ = some (.slice ao af.length am)) [] ⟨G.z aa 0, G.z aa 1⟩ laws_FnPairKnot.tab7 laws_FnPairKnot.bits7 (fun hHeld HT_ HW_ => ?_); generalize wc.drew = ca at ab aa HB hHeld ⊢; refine G.pu 1 38 2 ?_; refine G.pu 2 39 6 ?_; refine G.pu 3 40 14 ?_; refine G.ta2 0 37 15 ?_; refine G.ta2 4 41 31 ?_; refine G.pu 5 42 63 ?_; refine G.on 6 43 127 (fun K hK => ?_); refine G.gs Tryd.func32 #[.agg #[.int .i64 ae, .slice ao af.length am], .int .i64 ((l1.length : Int) % ae)] ?_; with_reducible refine (impl_NetWithout.calls az ae _ _ af ((l1.length : Int) % ae) av aw _ ?side1 ?side2 ba.out).mono ?_
         (case side1 => exact G.cC (Kd.R_reads' ab.out).2.2); (case side2 => exact (Kd.R_reads' ab.out).2.1); rintro e cd ⟨bj, rfl, au, hb⟩; refine ⟨_, rfl, ?_⟩; have n0 := G.re ab au hb; have n1 := G.m (Kd.R_lower (Kd.R_new' au (Kd.R_lt (G.cR ab.out))) (below_size (G.cB HB.out))); have n2 := G.bb aa hb; have n3 := G.bs HB hb; clear ab aa HB; revert n0 n1 n2 n3; intro ab al aa HB; (try clear hb bU hk hi au); obtain ⟨bm, bn, a3⟩ := Kd.R_slice al.out; (first | subst a3 | (injection a3 with aK aY aL; have aZ := aK.symm; have a2 := aL.symm; clear aK aY aL; subst aZ; subst a2)); refine hK.out _ _ ⟨G.z aa 0, G.z aa 1⟩ (fun hHeld => ?_); clear hK K; refine G.no 43 ?_; refine G.on 7 44 255 (fun K hK => ?_); refine G.gs Tryd.func17 #[.agg #[.int .i64 av, .slice bm aw.length bn]] ?_; with_reducible refine (impl_PairSize.calls az av _ _ aw ai _ ?side1 ?side2 bc.out ?sideT).mono ?_
         (case sideT => exact lay HTb.out (G.cB HB.out)); (case side1 => exact G.cC (Kd.R_reads' al.out).2.2); (case side2 => exact (Kd.R_reads' al.out).2.1); rintro e ce ⟨rfl, hb⟩; refine ⟨_, rfl, ?_⟩; have n0 := G.rb ab hb; have n1 := G.rb al hb; have n2 := G.bb aa hb; have n3 := G.bs HB hb; clear ab al aa HB; revert n0 n1 n2 n3; intro ab al aa HB; (try clear hb); refine hK.out _ _ ⟨G.z aa 0, G.z aa 1⟩ (fun hHeld => ?_); clear hK K; refine G.no 44 ?_; refine G.pu 8 7 511 ?_; refine done_ (done_of HT_.out (cae1)) ?_; try go_wp2
         go_ret
         exact ⟨caeZ, G.cB HB.out⟩

end Go.Proofs.YtjkeagcenmmknaaDoor.P
