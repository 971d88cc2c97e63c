/- The proof's parts ahead of the row: of no condition of their own. -/
import Derived.Test.YtddadihobjinhaaZFnSideOdd0
import Derived.Sort.Grow
import Derived.Lib.SliceRun
set_option linter.unusedVariables false
set_option linter.unusedSimpArgs false
namespace Go.Proofs.Ytddadihobjinhaa.P
open Go.RowKit Go.Proofs.YtddadihobjinhaaW.PrintWords Go.Proofs.YtddadihobjinhaaW.PrintLast Go.Proofs.YtddadihobjinhaaW.PrintMore
attribute [local go_sem] max2_int min2_int max_two min_two max_three min_three max_four min_four   -- for this text's walks alone
theorem caae {p : Prop} (h : p := by (with_reducible repeat (first | refine blk_drewN ?_ _ | refine blk_drew ?_ | refine blk_alloc ?_ _)); refine blk_put (cs := #[.int .i64 ((rd_T53 aa ab).f0), .int .i64 0]) ?_ 1 _ rfl; (with_reducible repeat (first | refine blk_drewN ?_ _ | refine blk_drew ?_ | refine blk_alloc ?_ _)); refine blk_put (cs := #[.int .i64 0, .int .i64 0]) ?_ 0 _ rfl; (with_reducible repeat (first | refine blk_drewN ?_ _ | refine blk_drew ?_ | refine blk_alloc ?_ _)); exact af.out) : p := h
theorem caaf {p : Prop} (h : p := by (with_reducible repeat (first | refine blk_drewN ?_ _ | refine blk_drew ?_ | refine blk_alloc ?_ _)); refine blk_far ?_ ak.out _; (with_reducible repeat (first | refine blk_drewN ?_ _ | refine blk_drew ?_ | refine blk_alloc ?_ _)); refine blk_far ?_ ak.out _; (with_reducible repeat (first | refine blk_drewN ?_ _ | refine blk_drew ?_ | refine blk_alloc ?_ _)); exact ac.out) : p := h
theorem caak {p : Prop} (h : p := by (try simp only [List.map_toArray, List.map_cons, List.map_nil]); first | done | (simp only [aJ]; rfl) | rfl | (simp only [List.length_drop, List.length_take]; rfl)) : p := h
theorem caag {p : Prop} (h : p := by rw [hg]; exact Nat.ne_of_lt (blk_lt (g := ah) (o := .cells #[.int .i64 ag, .slice (some aj) aa.length az] 30 (0, 0)) (G.cb ac.out))) : p := h
theorem caah {p : Prop} (h : p := by rw [hg]; exact Nat.ne_of_gt (blk_lt (g := ah) (o := .cells #[.int .i64 ag, .slice (some aj) aa.length az] 30 (0, 0)) (G.cb ac.out))) : p := h
theorem caai {p : Prop} (h : p := by rw [hg]; exact Nat.ne_of_lt (blk_lt (g := aq) (o := .cells #[.int .i64 ag, .int .i64 aI] 53 (0, 0)) (G.cb au.out))) : p := h
theorem caaj {p : Prop} (h : p := by rw [hg]; exact Nat.ne_of_gt (blk_lt (g := aq) (o := .cells #[.int .i64 ag, .int .i64 aI] 53 (0, 0)) (G.cb au.out))) : p := h
theorem caac {p : Prop} (h : p := by first | rfl | (simp [errW_none, errW_some] <;> rfl) | (simp [*, errW_none, errW_some] <;> rfl)) : p := h
theorem caad {p : Prop} (h : p := by first | rfl | (simp; done) | (simp [*]; done)) : p := h
theorem caaa {p : Prop} (h : p := by rw [hg]; exact (below_size (G.cB HB.out))) : p := h
theorem caab {p : Prop} (h : p := by kernel_rfl) : p := h
def spec_l6In.f (a0 : Int) (a1 : Int) (a2 : Int) : Option (Bool) := if a0 ≥ a1 then (some (decide (a0 ≤ a2))) else (some false)
set_option maxHeartbeats 8000000 in
set_option maxRecDepth 100000 in
theorem spec_l6In.calls (a0 : Int) (a1 : Int) (a2 : Int) (r : Bool) (w : World) (h : spec_l6In.f a0 a1 a2 = some r) :
  Calls Try.prog 43 #[.int .i64 a0, .int .i64 a1, .int .i64 a2] w fun e w' => e = .returned (.bool r) ∧ Drawn0 w w' := by
 have H : (if a0 ≥ a1 then (some (decide (a0 ≤ a2))) else (some false)) = some r := h; clear h
 by_cases c4 : a0 ≥ a1
 ·rw [if_pos c4] at H; have bG : decide (a1 ≤ a0) = true := decide_eq_true c4; clear c4; obtain rfl := Option.some.inj H
  go_enter Try.func43, Try.ntmps43
  go_wp2
  go_ret
  exact ⟨caad, by repeat (first | exact Drawn0.refl _ | apply Drawn0.step)⟩
 ·rw [if_neg c4] at H; have bG : decide (a1 ≤ a0) = false := decide_eq_false c4; clear c4; obtain rfl := Option.some.inj H
  go_enter Try.func43, Try.ntmps43
  go_wp2
  go_ret
  exact ⟨caad, by repeat (first | exact Drawn0.refl _ | apply Drawn0.step)⟩
def spec_l1Less.f (ag : Int) (aI : Int) (ax : Int) (aM : Int) : Option (Bool) := if ag < ax then (some true) else (if ag = ax then (some (decide (aI < aM))) else (some false))
set_option maxHeartbeats 8000000 in
set_option maxRecDepth 100000 in
theorem spec_l1Less.calls (ag : Int) (aI : Int) (ax : Int) (aM : Int) (r : Bool) (w : World) (h : spec_l1Less.f ag aI ax aM = some r) :
  Calls Try.prog 57 #[.agg #[.int .i64 ag, .int .i64 aI], .agg #[.int .i64 ax, .int .i64 aM]] w fun e w' => e = .returned (.bool r) ∧ Below w.heap.size w w' := by
 have bH := Try.underlying53; have HB := G.m (Below.refl w.heap.size w); have H : (if ag < ax then (some true) else (if ag = ax then (some (decide (aI < aM))) else (some false))) = some r := h; clear h
 by_cases c3 : ag < ax
 ·rw [if_pos c3] at H; have bI : decide (ag < ax) = true := decide_eq_true c3; clear c3; obtain rfl := Option.some.inj H
  go_enter Try.func57, Try.ntmps57
  go_wp2_with (first | ((with_reducible refine G.h 2 rfl ?_); refine G.be 2 #[.int .i64 ag, .int .i64 aI] 53 ?_; intro aq hg w4 hbox hb; have n0 := G.bs HB hb; have n1 := G.m (hbox); have n2 := G.m (caaa : w.heap.size ≤ aq); have n3 := G.m (caaa : w.heap.size ≤ aq); clear HB; revert n0 n1 n2 n3; intro HB au bd bf; clear hb hbox hg) | ((with_reducible refine G.h 3 rfl ?_); refine G.be 3 #[.int .i64 ax, .int .i64 aM] 53 ?_; intro ay hg w5 hbox hb; have n0 := G.bb au hb; have n1 := G.bs HB hb; have n2 := G.m (hbox); have n3 := G.m (caaa : w.heap.size ≤ ay); have n4 := G.m (caaa : w.heap.size ≤ ay); have n5 := G.m (caai : aq ≠ ay); have n6 := G.m (caaj : ay ≠ aq); clear au HB; revert n0 n1 n2 n3 n4 n5 n6; intro au HB aQ bh bj aF aG; clear hb hbox hg; have dC := aF.out; have dD := aG.out; have ⟨bv, bw, bx, bz⟩ := G.d2 (w := w5) au; have ⟨cO, cP, cQ, cS⟩ := G.d2 (w := w5) aQ))
  go_ret
  exact ⟨caac, G.cB HB.out⟩
 ·rw [if_neg c3] at H; have bI : decide (ag < ax) = false := decide_eq_false c3; clear c3
  by_cases c9 : ag = ax
  ·rw [if_pos c9] at H; have ba : (ag == ax) = true := beq_iff_eq.mpr c9; have bJ : (ag != ax) = false := bne_eq_false_iff_eq.mpr c9; clear c9; obtain rfl := Option.some.inj H
   go_enter Try.func57, Try.ntmps57
   go_wp2_with (first | ((with_reducible refine G.h 2 rfl ?_); refine G.be 2 #[.int .i64 ag, .int .i64 aI] 53 ?_; intro aq hg dF hbox hb; have n0 := G.bs HB hb; have n1 := G.m (hbox); have n2 := G.m (caaa : w.heap.size ≤ aq); have n3 := G.m (caaa : w.heap.size ≤ aq); clear HB; revert n0 n1 n2 n3; intro HB au bd bf; clear hb hbox hg) | ((with_reducible refine G.h 3 rfl ?_); refine G.be 3 #[.int .i64 ax, .int .i64 aM] 53 ?_; intro ay hg bD hbox hb; have n0 := G.bb au hb; have n1 := G.bs HB hb; have n2 := G.m (hbox); have n3 := G.m (caaa : w.heap.size ≤ ay); have n4 := G.m (caaa : w.heap.size ≤ ay); have n5 := G.m (caai : aq ≠ ay); have n6 := G.m (caaj : ay ≠ aq); clear au HB; revert n0 n1 n2 n3 n4 n5 n6; intro au HB aQ bh bj aF aG; clear hb hbox hg; have df := aF.out; have dg := aG.out; have ⟨bK, bL, bM, bN⟩ := G.d2 (w := bD) au; have ⟨bO, bP, bQ, bR⟩ := G.d2 (w := bD) aQ))
   go_ret
   exact ⟨caac, G.cB HB.out⟩
  ·rw [if_neg c9] at H; have ba : (ag == ax) = false := beq_eq_false_iff_ne.mpr c9; have bJ : (ag != ax) = true := bne_iff_ne.mpr c9; obtain rfl := Option.some.inj H
   go_enter Try.func57, Try.ntmps57
   go_wp2_with (first | ((with_reducible refine G.h 2 rfl ?_); refine G.be 2 #[.int .i64 ag, .int .i64 aI] 53 ?_; intro aq hg dG hbox hb; have n0 := G.bs HB hb; have n1 := G.m (hbox); have n2 := G.m (caaa : w.heap.size ≤ aq); have n3 := G.m (caaa : w.heap.size ≤ aq); clear HB; revert n0 n1 n2 n3; intro HB au bd bf; clear hb hbox hg) | ((with_reducible refine G.h 3 rfl ?_); refine G.be 3 #[.int .i64 ax, .int .i64 aM] 53 ?_; intro ay hg bE hbox hb; have n0 := G.bb au hb; have n1 := G.bs HB hb; have n2 := G.m (hbox); have n3 := G.m (caaa : w.heap.size ≤ ay); have n4 := G.m (caaa : w.heap.size ≤ ay); have n5 := G.m (caai : aq ≠ ay); have n6 := G.m (caaj : ay ≠ aq); clear au HB; revert n0 n1 n2 n3 n4 n5 n6; intro au HB aQ bh bj aF aG; clear hb hbox hg; have dh := aF.out; have di := aG.out; have ⟨bS, bT, bU, bV⟩ := G.d2 (w := bE) au; have ⟨bW, bX, bY, bZ⟩ := G.d2 (w := bE) aQ))
   go_ret
   exact ⟨caac, G.cB HB.out⟩
mutual
def spec_NetOk.j0 : Nat → Bool → Int → List (S53) → Option (Bool)
 | 0, _, _, _ => none
 | k + 1, cT, aH, ao => if cT = true then (some false) else (spec_NetOk.l0 k 0 aH ao)
def spec_NetOk.l0 : Nat → Int → Int → List (S53) → Option (Bool)
 | 0, _, _, _ => none
 | k + 1, x3, aH, ao => if x3 < (ao.length : Int) then (if 0 ≤ x3 then ((spec_l6In.f ((rd_T53 ao x3).f0) 0 (wrap64 (aH - 1))).bind fun aY => (if aY = true then ((spec_l6In.f ((rd_T53 ao x3).f1) (wrap64 (((rd_T53 ao x3).f0) + 1)) (wrap64 (aH - 1))).bind fun aN => (if aN = true then (if x3 > 0 then (if 0 ≤ (wrap64 (x3 - 1)) then (if (wrap64 (x3 - 1)) < (ao.length : Int) then ((spec_l1Less.f ((rd_T53 ao (wrap64 (x3 - 1))).f0) ((rd_T53 ao (wrap64 (x3 - 1))).f1) ((rd_T53 ao x3).f0) ((rd_T53 ao x3).f1)).bind fun aE => (if aE = true then (spec_NetOk.l0 k (wrap64 (x3 + 1)) aH ao) else (some false))) else (none)) else (none)) else (spec_NetOk.l0 k (wrap64 (x3 + 1)) aH ao)) else (some false))) else (some false))) else (none)) else (some true)
end
def spec_NetOk.f (k : Nat) (ag : Int) (aa : List (S53)) : Option (Bool) := (spec_l6In.f ag 0 8).bind fun aR => (if aR = true then (spec_NetOk.j0 k (decide ((aa.length : Int) > 64)) ag aa) else (spec_NetOk.j0 k true ag aa))
def spec_NetOk.T7 : Bool × List (List Nat × List Nat) := (true, [([], []), ([0], [0]), ([], []), ([2], [2]), ([3], [3]), ([1, 4], [1, 4]), ([5], [5]), ([6, 5], [6]), ([7], [7]), ([8, 7], [7, 8]), ([7], [7]), ([10, 7], [7, 10]), ([11, 7], [7, 11]), ([7], [7]), ([13, 7], [7, 13]), ([14, 7], [7, 14]), ([9, 12, 15, 7, 7], [7, 9, 12, 15]), ([16, 7], [7, 16]), ([7, 17], [7, 17]), ([18, 16], [18]), ([19], [19]), ([20, 19], [19, 20]), ([21, 19, 19], [19, 21]), ([22], [22]), ([23, 22], [22, 23]), ([22], [22]), ([25, 22], [22, 25]), ([24, 26, 22], [22, 24, 26]), ([27, 22], [22, 27]), ([22], [22]), ([28, 29, 22, 22], [22, 28, 29]), ([30, 22], [22, 30]), ([22, 31, 19], [19, 22, 31]), ([19, 32], [19, 32])])
def spec_NetOk.B7 : List Nat := [0, 1, 0, 4, 12, 31, 63, 127, 255, 511, 255, 1279, 3327, 255, 8447, 24831, 65535, 131071, 262143, 524287, 1048575, 2097151, 4194303, 8388607, 16777215, 8388607, 41943039, 134217727, 268435455, 8388607, 1073741823, 2147483647, 4294967295, 8589934591]
theorem spec_NetOk.tab7 : rtab .any (opsOf Try.f32 7) = spec_NetOk.T7 := by kernel_rfl
theorem spec_NetOk.bits7 : waitsOk spec_NetOk.T7.2 spec_NetOk.B7 = true := by kernel_rfl
set_option maxHeartbeats 8000000 in
set_option maxRecDepth 100000 in
theorem spec_NetOk.calls (k : Nat) (ag : Int) (aV : Option Addr) (az : Nat) (aa : List (S53)) (r : Bool) (w : World) (bk : Kd.C k53 w aV aa.length aa) (bl : aa.length ≤ az) (h : spec_NetOk.f k ag aa = some r) :
  Calls Try.prog 32 #[.agg #[.int .i64 ag, .slice aV aa.length az]] w fun e w' => e = .returned (.bool r) ∧ Below w.heap.size w w' := by
 have dE := Try.underlying30; have bH := Try.underlying53; have aK := G.m bk; have dj := G.m bl; clear bk bl; have HB := G.m (Below.refl w.heap.size w); have H : ((spec_l6In.f ag 0 8).bind fun aR => (if aR = true then (spec_NetOk.j0 k (decide ((aa.length : Int) > 64)) ag aa) else (spec_NetOk.j0 k true ag aa))) = some r := h; clear h; have bA := G.m H; clear H
 go_enter Try.func32, Try.ntmps32
 go_upto_region 1 with (first | ((with_reducible refine G.h 1 rfl ?_); (try (refine gate_guard (by rfl) ?_; dsimp only)); refine G.be 1 #[.int .i64 ag, .slice aV aa.length az] 30 ?_; intro ah hg w3 hbox hb; have n0 := G.bs HB hb; have n1 := G.m (hbox); have n2 := G.m (caaa : w.heap.size ≤ ah); have n3 := G.m (caaa : w.heap.size ≤ ah); clear HB; revert n0 n1 n2 n3; intro HB ac dk dl; clear hb hbox hg))
 (try simp only [Act.put, List.setIfInBounds_toArray, List.set_cons_zero, List.set_cons_succ])
 go_cut [14] (fun cU wc => ∃ (kq : Nat) (aS : Bool), cU = .bool aS ∧ Aside0 (spec_NetOk.j0 kq aS ag aa = some r) ∧ Aside0 (kq ≤ k) ∧ Aside0 (wc.heap[ah]? = some (.cells #[.int .i64 ag, (.slice aV aa.length az)] 30 (0, 0))) ∧ Aside0 (Below w.heap.size w wc))
 case first =>
  have H := bA.out; clear bA; obtain ⟨aR, A4, H⟩ := G.bi H; replace H : (if aR = true then (spec_NetOk.j0 k (decide ((aa.length : Int) > 64)) ag aa) else (spec_NetOk.j0 k true ag aa)) = some r := H
  by_cases c5 : aR = true
  ·subst c5; have H1 : (spec_NetOk.j0 k (decide ((aa.length : Int) > 64)) ag aa) = some r := by rw [if_pos rfl] at H; exact H
   clear H; have H := H1; clear H1; have H' := G.m H; clear H; have ⟨cW, cX, cY, cZ⟩ := G.d2 (w := w3) ac
   go_wp2_with (first | ((with_reducible refine G.f 43 rfl ?_); refine G.gL 7 Try.func43 #[.int .i64 ag, .int .i64 0, .int .i64 8] ?_; (with_reducible refine (spec_l6In.calls ag 0 8 true _ A4.out).mono ?_); rintro e w' ⟨rfl, ⟨nd, rfl⟩⟩; refine ⟨_, rfl, ?_⟩))
   go_meet
   case rel => exact ⟨_, (decide ((aa.length : Int) > 64)), (caad), H', ⟨by first | omega | exact Nat.le_refl _⟩, ⟨G.cb ac.out⟩, ⟨G.cB HB.out⟩⟩
  ·replace c5 := Bool.eq_false_iff.mpr c5; subst c5; have H1 : (spec_NetOk.j0 k true ag aa) = some r := by rw [if_neg (show ¬ (false = true) by decide)] at H; exact H
   clear H; have H := H1; clear H1; have H' := G.m H; clear H; have ⟨bv, bw, bx, bz⟩ := G.d2 (w := w3) ac
   go_wp2_with (first | ((with_reducible refine G.f 43 rfl ?_); refine G.gL 7 Try.func43 #[.int .i64 ag, .int .i64 0, .int .i64 8] ?_; (with_reducible refine (spec_l6In.calls ag 0 8 false _ A4.out).mono ?_); rintro e w' ⟨rfl, ⟨nd, rfl⟩⟩; refine ⟨_, rfl, ?_⟩))
   go_meet
   case rel => exact ⟨_, (true), (caad), H', ⟨by first | omega | exact Nat.le_refl _⟩, ⟨G.cb ac.out⟩, ⟨G.cB HB.out⟩⟩
 case rest =>
  clear bA; obtain ⟨kq, aS, rfl, HA, bm, ac, HB⟩ := hcut; cases kq with
  | zero => exact absurd HA.out (by simp [spec_NetOk.j0])
  | succ bB =>
   have H := HA.out; clear HA; simp only [spec_NetOk.j0] at H
   by_cases c8 : aS = true
   ·subst c8; have H1 : (some false) = some r := by rw [if_pos rfl] at H; exact H
    clear H; have H := H1; clear H1; obtain rfl := Option.some.inj H
    go_wp2
    go_ret
    exact ⟨caac, G.cB HB.out⟩
   ·replace c8 := Bool.eq_false_iff.mpr c8; subst c8; have H1 : (spec_NetOk.l0 bB 0 ag aa) = some r := by rw [if_neg (show ¬ (false = true) by decide)] at H; exact H
    clear H; have H := H1; clear H1; have H' := G.m H; clear H
    go_wp2
    go_loopg [3] bB (fun kq v3 w' => ∃ (ab : Int), v3 = .int .i64 ab ∧ Aside0 (spec_NetOk.l0 kq ab ag aa = some r) ∧ Aside0 (kq ≤ bB) ∧ Aside0 (w'.heap[ah]? = some (.cells #[.int .i64 ag, (.slice aV aa.length az)] 30 (0, 0))) ∧ Aside0 (Below w.heap.size w w'))
    case atStart => exact ⟨(0), (caad), H', ⟨Nat.le_refl _⟩, ⟨G.cb ac.out⟩, ⟨G.cB HB.out⟩⟩
    case round =>
     clear H'; (try clear c8); obtain ⟨ab, rfl, HA, bn, ac, HB⟩ := hrel; cases gk with
     | zero => exact absurd HA.out (by simp [spec_NetOk.l0])
     | succ k2 =>
      have H := HA.out; clear HA; simp only [spec_NetOk.l0] at H
      by_cases c9 : ab < (aa.length : Int)
      ·rw [if_pos c9] at H; have ba : decide (ab < (aa.length : Int)) = true := decide_eq_true c9; clear c9
       by_cases c10 : 0 ≤ ab
       ·rw [if_pos c10] at H; have dn : decide (0 ≤ ab) = true := decide_eq_true c10; clear c10; obtain ⟨aY, aW, H⟩ := G.bi H; replace H : (if aY = true then ((spec_l6In.f ((rd_T53 aa ab).f1) (wrap64 (((rd_T53 aa ab).f0) + 1)) (wrap64 (ag - 1))).bind fun aN => (if aN = true then (if ab > 0 then (if 0 ≤ (wrap64 (ab - 1)) then (if (wrap64 (ab - 1)) < (aa.length : Int) then ((spec_l1Less.f ((rd_T53 aa (wrap64 (ab - 1))).f0) ((rd_T53 aa (wrap64 (ab - 1))).f1) ((rd_T53 aa ab).f0) ((rd_T53 aa ab).f1)).bind fun aE => (if aE = true then (spec_NetOk.l0 k2 (wrap64 (ab + 1)) ag aa) else (some false))) else (none)) else (none)) else (spec_NetOk.l0 k2 (wrap64 (ab + 1)) ag aa)) else (some false))) else (some false)) = some r := H
        by_cases bo : aY = true
        ·subst bo; have H1 : ((spec_l6In.f ((rd_T53 aa ab).f1) (wrap64 (((rd_T53 aa ab).f0) + 1)) (wrap64 (ag - 1))).bind fun aN => (if aN = true then (if ab > 0 then (if 0 ≤ (wrap64 (ab - 1)) then (if (wrap64 (ab - 1)) < (aa.length : Int) then ((spec_l1Less.f ((rd_T53 aa (wrap64 (ab - 1))).f0) ((rd_T53 aa (wrap64 (ab - 1))).f1) ((rd_T53 aa ab).f0) ((rd_T53 aa ab).f1)).bind fun aE => (if aE = true then (spec_NetOk.l0 k2 (wrap64 (ab + 1)) ag aa) else (some false))) else (none)) else (none)) else (spec_NetOk.l0 k2 (wrap64 (ab + 1)) ag aa)) else (some false))) = some r := by rw [if_pos rfl] at H; exact H
         clear H; have H := H1; clear H1; obtain ⟨aN, a5, H⟩ := G.bi H; replace H : (if aN = true then (if ab > 0 then (if 0 ≤ (wrap64 (ab - 1)) then (if (wrap64 (ab - 1)) < (aa.length : Int) then ((spec_l1Less.f ((rd_T53 aa (wrap64 (ab - 1))).f0) ((rd_T53 aa (wrap64 (ab - 1))).f1) ((rd_T53 aa ab).f0) ((rd_T53 aa ab).f1)).bind fun aE => (if aE = true then (spec_NetOk.l0 k2 (wrap64 (ab + 1)) ag aa) else (some false))) else (none)) else (none)) else (spec_NetOk.l0 k2 (wrap64 (ab + 1)) ag aa)) else (some false)) = some r := H
         by_cases bp : aN = true
         ·subst bp; have H1 : (if ab > 0 then (if 0 ≤ (wrap64 (ab - 1)) then (if (wrap64 (ab - 1)) < (aa.length : Int) then ((spec_l1Less.f ((rd_T53 aa (wrap64 (ab - 1))).f0) ((rd_T53 aa (wrap64 (ab - 1))).f1) ((rd_T53 aa ab).f0) ((rd_T53 aa ab).f1)).bind fun aE => (if aE = true then (spec_NetOk.l0 k2 (wrap64 (ab + 1)) ag aa) else (some false))) else (none)) else (none)) else (spec_NetOk.l0 k2 (wrap64 (ab + 1)) ag aa)) = some r := by rw [if_pos rfl] at H; exact H
          clear H; have H := H1; clear H1
          by_cases aX : ab > 0
          ·rw [if_pos aX] at H; have bC : decide (0 < ab) = true := decide_eq_true aX; clear aX; obtain ⟨ai, aJ⟩ : ∃ j_ : Int, (wrap64 (ab - 1)) = j_ := ⟨_, rfl⟩; replace H : (if 0 ≤ (ai) then (if (ai) < (aa.length : Int) then ((spec_l1Less.f ((rd_T53 aa (ai)).f0) ((rd_T53 aa (ai)).f1) ((rd_T53 aa ab).f0) ((rd_T53 aa ab).f1)).bind fun aE => (if aE = true then (spec_NetOk.l0 k2 (wrap64 (ab + 1)) ag aa) else (some false))) else (none)) else (none)) = some r := by first | (rw [aJ] at H; exact H) | (simp only [aJ] at H ⊢; exact H)
           (try rw [aJ] at aW); (try rw [aJ] at a5); have c_ : (IntKind.i64.wrap (ab - 1)) = ai := (i64_w _).trans aJ
           by_cases bq : 0 ≤ (ai)
           ·rw [if_pos bq] at H; have dp : decide (0 ≤ (ai)) = true := decide_eq_true bq; clear bq
            by_cases br : (ai) < (aa.length : Int)
            ·rw [if_pos br] at H; have dq : decide ((ai) < (aa.length : Int)) = true := decide_eq_true br; clear br; obtain ⟨aE, bF, H⟩ := G.bi H; replace H : (if aE = true then (spec_NetOk.l0 k2 (wrap64 (ab + 1)) ag aa) else (some false)) = some r := H
             by_cases bu : aE = true
             ·subst bu; have H1 : (spec_NetOk.l0 k2 (wrap64 (ab + 1)) ag aa) = some r := by rw [if_pos rfl] at H; exact H
              clear H; have H := H1; clear H1; have H' := G.m H; clear H; have ⟨b1, b2, b3, b4⟩ := G.d2 (w := wr) ac; have av : 0 ≤ (ab : Int) := of_decide_eq_true (G.asm); have aw : ab < (aa.length : Int) := of_decide_eq_true (G.asm); obtain ⟨aj, aL, al, am⟩ := at_T53 aK.out ab av aw; cases aL; replace al := G.hx HB al; replace am := G.hx HB am; replace av := eq_true av; replace aw := eq_true aw; try go_wp2_with (first | ((with_reducible refine G.h 4 rfl ?_); (try (refine gate_guard (by rfl) ?_; dsimp only)); refine G.be 4 #[.int .i64 0, .int .i64 0] 53 ?_; intro ae hg a6 hbox hb; have n0 := G.bb ac hb; have n1 := G.bs HB hb; have n2 := G.m (hbox); have n3 := G.m (caaa : w.heap.size ≤ ae); have n4 := G.m (caaa : w.heap.size ≤ ae); have n5 := G.m (caag : ah ≠ ae); have n6 := G.m (caah : ae ≠ ah); clear ac HB; revert n0 n1 n2 n3 n4 n5 n6; intro ac HB af aT aU ak ap; clear hb hbox hg; have dr := ap.out; have dt := ak.out; have ⟨b5, b6, b7, b8⟩ := G.d2 (w := a6) af))
              have n0 : Aside0 (((a6.setCell ⟨ae, 0, none⟩ (.int .i64 ((rd_T53 aa ab).f0))).setCell ⟨ae, 1, none⟩ (.int .i64 ((rd_T53 aa ab).f1))).heap[ah]? = some (.cells #[.int .i64 ag, .slice (some aj) aa.length az] 30 (0, 0))) := ⟨caaf⟩; have n1 : Aside0 (((a6.setCell ⟨ae, 0, none⟩ (.int .i64 ((rd_T53 aa ab).f0))).setCell ⟨ae, 1, none⟩ (.int .i64 ((rd_T53 aa ab).f1))).heap[ae]? = some (.cells #[.int .i64 ((rd_T53 aa ab).f0), .int .i64 ((rd_T53 aa ab).f1)] 53 (0, 0))) := ⟨caae⟩; have n2 : Aside0 (Below w.heap.size w ((a6.setCell ⟨ae, 0, none⟩ (.int .i64 ((rd_T53 aa ab).f0))).setCell ⟨ae, 1, none⟩ (.int .i64 ((rd_T53 aa ab).f1)))) := ⟨G.cB HB.out⟩; (try clear ac af HB); generalize ((a6.setCell ⟨ae, 0, none⟩ (.int .i64 ((rd_T53 aa ab).f0))).setCell ⟨ae, 1, none⟩ (.int .i64 ((rd_T53 aa ab).f1))) = da at n0 n1 n2 ⊢; revert n0 n1 n2; intro ac af HB; have n0 := G.m (blk_drew ac.out); have n1 := G.m (blk_drew af.out); have n2 := G.m (below_drew1 HB.out); clear ac af HB; revert n0 n1 n2; intro ac af HB; have aO : 0 ≤ ((ai) : Int) := of_decide_eq_true (G.asm); have aP : (ai) < (aa.length : Int) := of_decide_eq_true (G.asm); obtain ⟨aZ, bc, aA, aB⟩ := at_T53 aK.out (ai) aO aP; have aC := aB; have aD := aA; obtain rfl : aj = aZ := (by injection bc); replace aA := G.hx HB aA; replace aB := G.hx HB aB; replace aO := eq_true aO; replace aP := eq_true aP; refine G.st 34 (S := fun w' => w'.cell? ⟨ae, 0, none⟩ = some (.int .i64 ((rd_T53 aa ab).f0)) ∧ w'.cell? ⟨ae, 1, none⟩ = some (.int .i64 ((rd_T53 aa ab).f1)) ∧ w'.cell? ⟨ah, 0, none⟩ = some (.int .i64 ag) ∧ w'.cell? ⟨ah, 1, none⟩ = some (.slice (some aj) aa.length az) ∧ w'.cell? (aj.add (((ai)).toNat * 2)) = some (.int .i64 ((rd_T53 aa (ai)).f0)) ∧ w'.cell? ⟨(aj.add (((ai)).toNat * 2)).block, (aj.add (((ai)).toNat * 2)).off + 1, none⟩ = some (.int .i64 ((rd_T53 aa (ai)).f1))) [] ⟨G.z af 0, G.z af 1, G.z ac 0, G.z ac 1, (G.hx HB aD), (G.hx HB aC)⟩ spec_NetOk.tab7 spec_NetOk.bits7 (fun hHeld HT_ HW_ => ?_); generalize da.drew = dH at ac af HB aA aB hHeld ⊢; refine G.pu 0 27 1 ?_; refine G.pu 2 29 5 ?_; refine G.ta6 1 28 7 ?_; refine G.ta6 3 30 15 ?_; refine G.pu 4 31 31 ?_; refine G.on 5 32 63 (fun K hK => ?_); refine G.gs Try.func43 #[.int .i64 ((rd_T53 aa ab).f0), .int .i64 0, .int .i64 (wrap64 (ag - 1))] ?_; with_reducible refine (spec_l6In.calls ((rd_T53 aa ab).f0) 0 (wrap64 (ag - 1)) true _ aW.out).mono ?_
              rintro e w' ⟨rfl, ⟨nd, rfl⟩⟩; refine ⟨_, rfl, ?_⟩; refine hK.out _ _ ⟨G.z af 0, G.z af 1, G.z ac 0, G.z ac 1, (G.hx HB aD), (G.hx HB aC)⟩ (fun hHeld => ?_); clear hK K; refine G.no 32 ?_; refine G.pu 6 33 127 ?_; refine G.pu 7 34 255 ?_; refine G.pu 8 35 511 ?_; refine G.pu 10 37 1535 ?_; refine G.pu 13 40 9727 ?_; refine G.ta6 9 36 10239 ?_; refine G.ta6 11 38 12287 ?_; refine G.pu 12 39 16383 ?_; refine G.ta6 14 41 32767 ?_; refine G.pu 15 42 65535 ?_; refine G.on 16 43 131071 (fun K hK => ?_); refine G.gs Try.func43 #[.int .i64 ((rd_T53 aa ab).f1), .int .i64 (wrap64 (((rd_T53 aa ab).f0) + 1)), .int .i64 (wrap64 (ag - 1))] ?_; with_reducible refine (spec_l6In.calls ((rd_T53 aa ab).f1) (wrap64 (((rd_T53 aa ab).f0) + 1)) (wrap64 (ag - 1)) true _ a5.out).mono ?_
              rintro e w' ⟨rfl, ⟨nd, rfl⟩⟩; refine ⟨_, rfl, ?_⟩; refine hK.out _ _ ⟨G.z af 0, G.z af 1, G.z ac 0, G.z ac 1, (G.hx HB aD), (G.hx HB aC)⟩ (fun hHeld => ?_); clear hK K; refine G.no 43 ?_; refine G.pu 17 44 262143 ?_; refine G.pu 18 45 524287 ?_; refine G.pu 19 46 1048575 ?_; refine G.pu 20 47 2097151 ?_; refine G.pu 21 48 4194303 ?_; refine G.pu 22 49 8388607 ?_; refine G.pu 23 50 16777215 ?_; refine G.pu 25 52 50331647 ?_; refine G.pu 26 53 117440511 ?_; refine G.ta6 24 51 134217727 ?_; refine G.pu 27 54 268435455 ?_; refine G.ta6 28 55 536870911 ?_; refine G.ta6 29 56 1073741823 ?_; refine G.on 30 57 2147483647 (fun K hK => ?_); refine goes_ Try.func57 (caab) rfl #[.agg #[.int .i64 ((rd_T53 aa (ai)).f0), .int .i64 ((rd_T53 aa (ai)).f1)], .agg #[.int .i64 ((rd_T53 aa ab).f0), .int .i64 ((rd_T53 aa ab).f1)]] (by rfl) rfl rfl (caak) ?_; with_reducible refine (spec_l1Less.calls ((rd_T53 aa (ai)).f0) ((rd_T53 aa (ai)).f1) ((rd_T53 aa ab).f0) ((rd_T53 aa ab).f1) true _ bF.out).mono ?_
              rintro e dI ⟨rfl, hb⟩; refine ⟨_, rfl, ?_⟩; have n0 := G.bb ac hb; have n1 := G.bb af hb; have n2 := G.bs HB hb; clear ac af HB; revert n0 n1 n2; intro ac af HB; (try clear hb); refine hK.out _ _ ⟨G.z af 0, G.z af 1, G.z ac 0, G.z ac 1, (G.hx HB aD), (G.hx HB aC)⟩ (fun hHeld => ?_); clear hK K; refine G.no 57 ?_; refine G.pu 31 58 4294967295 ?_; refine G.pu 32 59 8589934591 ?_; refine G.pu 33 60 17179869183 ?_; refine done_ (done_of HT_.out (caab)) ?_; try go_wp2
              go_roundg k2
              case measure => have := bm.out; have := bn.out; omega
              case rel => exact ⟨(wrap64 (ab + 1)), (caad), H', ⟨by have := bm.out; have := bn.out; omega⟩, ⟨G.cb ac.out⟩, ⟨G.cB HB.out⟩⟩
             ·replace bu := Bool.eq_false_iff.mpr bu; subst bu; have H1 : (some false) = some r := by rw [if_neg (show ¬ (false = true) by decide)] at H; exact H
              clear H; have H := H1; clear H1; obtain rfl := Option.some.inj H; have ⟨b9, b_, ca, cd⟩ := G.d2 (w := wr) ac; have av : 0 ≤ (ab : Int) := of_decide_eq_true (G.asm); have aw : ab < (aa.length : Int) := of_decide_eq_true (G.asm); obtain ⟨aj, aL, al, am⟩ := at_T53 aK.out ab av aw; cases aL; replace al := G.hx HB al; replace am := G.hx HB am; replace av := eq_true av; replace aw := eq_true aw; try go_wp2_with (first | ((with_reducible refine G.h 4 rfl ?_); (try (refine gate_guard (by rfl) ?_; dsimp only)); refine G.be 4 #[.int .i64 0, .int .i64 0] 53 ?_; intro ae hg a7 hbox hb; have n0 := G.bb ac hb; have n1 := G.bs HB hb; have n2 := G.m (hbox); have n3 := G.m (caaa : w.heap.size ≤ ae); have n4 := G.m (caaa : w.heap.size ≤ ae); have n5 := G.m (caag : ah ≠ ae); have n6 := G.m (caah : ae ≠ ah); clear ac HB; revert n0 n1 n2 n3 n4 n5 n6; intro ac HB af aT aU ak ap; clear hb hbox hg; have du := ap.out; have dv := ak.out; have ⟨ce, cf, cg, ch⟩ := G.d2 (w := a7) af))
              have n0 : Aside0 (((a7.setCell ⟨ae, 0, none⟩ (.int .i64 ((rd_T53 aa ab).f0))).setCell ⟨ae, 1, none⟩ (.int .i64 ((rd_T53 aa ab).f1))).heap[ah]? = some (.cells #[.int .i64 ag, .slice (some aj) aa.length az] 30 (0, 0))) := ⟨caaf⟩; have n1 : Aside0 (((a7.setCell ⟨ae, 0, none⟩ (.int .i64 ((rd_T53 aa ab).f0))).setCell ⟨ae, 1, none⟩ (.int .i64 ((rd_T53 aa ab).f1))).heap[ae]? = some (.cells #[.int .i64 ((rd_T53 aa ab).f0), .int .i64 ((rd_T53 aa ab).f1)] 53 (0, 0))) := ⟨caae⟩; have n2 : Aside0 (Below w.heap.size w ((a7.setCell ⟨ae, 0, none⟩ (.int .i64 ((rd_T53 aa ab).f0))).setCell ⟨ae, 1, none⟩ (.int .i64 ((rd_T53 aa ab).f1)))) := ⟨G.cB HB.out⟩; (try clear ac af HB); generalize ((a7.setCell ⟨ae, 0, none⟩ (.int .i64 ((rd_T53 aa ab).f0))).setCell ⟨ae, 1, none⟩ (.int .i64 ((rd_T53 aa ab).f1))) = db at n0 n1 n2 ⊢; revert n0 n1 n2; intro ac af HB; have n0 := G.m (blk_drew ac.out); have n1 := G.m (blk_drew af.out); have n2 := G.m (below_drew1 HB.out); clear ac af HB; revert n0 n1 n2; intro ac af HB; have aO : 0 ≤ ((ai) : Int) := of_decide_eq_true (G.asm); have aP : (ai) < (aa.length : Int) := of_decide_eq_true (G.asm); obtain ⟨aZ, bc, aA, aB⟩ := at_T53 aK.out (ai) aO aP; have aC := aB; have aD := aA; obtain rfl : aj = aZ := (by injection bc); replace aA := G.hx HB aA; replace aB := G.hx HB aB; replace aO := eq_true aO; replace aP := eq_true aP; refine G.st 34 (S := fun w' => w'.cell? ⟨ae, 0, none⟩ = some (.int .i64 ((rd_T53 aa ab).f0)) ∧ w'.cell? ⟨ae, 1, none⟩ = some (.int .i64 ((rd_T53 aa ab).f1)) ∧ w'.cell? ⟨ah, 0, none⟩ = some (.int .i64 ag) ∧ w'.cell? ⟨ah, 1, none⟩ = some (.slice (some aj) aa.length az) ∧ w'.cell? (aj.add (((ai)).toNat * 2)) = some (.int .i64 ((rd_T53 aa (ai)).f0)) ∧ w'.cell? ⟨(aj.add (((ai)).toNat * 2)).block, (aj.add (((ai)).toNat * 2)).off + 1, none⟩ = some (.int .i64 ((rd_T53 aa (ai)).f1))) [] ⟨G.z af 0, G.z af 1, G.z ac 0, G.z ac 1, (G.hx HB aD), (G.hx HB aC)⟩ spec_NetOk.tab7 spec_NetOk.bits7 (fun hHeld HT_ HW_ => ?_); generalize db.drew = dJ at ac af HB aA aB hHeld ⊢; refine G.pu 0 27 1 ?_; refine G.pu 2 29 5 ?_; refine G.ta6 1 28 7 ?_; refine G.ta6 3 30 15 ?_; refine G.pu 4 31 31 ?_; refine G.on 5 32 63 (fun K hK => ?_); refine G.gs Try.func43 #[.int .i64 ((rd_T53 aa ab).f0), .int .i64 0, .int .i64 (wrap64 (ag - 1))] ?_; with_reducible refine (spec_l6In.calls ((rd_T53 aa ab).f0) 0 (wrap64 (ag - 1)) true _ aW.out).mono ?_
              rintro e w' ⟨rfl, ⟨nd, rfl⟩⟩; refine ⟨_, rfl, ?_⟩; refine hK.out _ _ ⟨G.z af 0, G.z af 1, G.z ac 0, G.z ac 1, (G.hx HB aD), (G.hx HB aC)⟩ (fun hHeld => ?_); clear hK K; refine G.no 32 ?_; refine G.pu 6 33 127 ?_; refine G.pu 7 34 255 ?_; refine G.pu 8 35 511 ?_; refine G.pu 10 37 1535 ?_; refine G.pu 13 40 9727 ?_; refine G.ta6 9 36 10239 ?_; refine G.ta6 11 38 12287 ?_; refine G.pu 12 39 16383 ?_; refine G.ta6 14 41 32767 ?_; refine G.pu 15 42 65535 ?_; refine G.on 16 43 131071 (fun K hK => ?_); refine G.gs Try.func43 #[.int .i64 ((rd_T53 aa ab).f1), .int .i64 (wrap64 (((rd_T53 aa ab).f0) + 1)), .int .i64 (wrap64 (ag - 1))] ?_; with_reducible refine (spec_l6In.calls ((rd_T53 aa ab).f1) (wrap64 (((rd_T53 aa ab).f0) + 1)) (wrap64 (ag - 1)) true _ a5.out).mono ?_
              rintro e w' ⟨rfl, ⟨nd, rfl⟩⟩; refine ⟨_, rfl, ?_⟩; refine hK.out _ _ ⟨G.z af 0, G.z af 1, G.z ac 0, G.z ac 1, (G.hx HB aD), (G.hx HB aC)⟩ (fun hHeld => ?_); clear hK K; refine G.no 43 ?_; refine G.pu 17 44 262143 ?_; refine G.pu 18 45 524287 ?_; refine G.pu 19 46 1048575 ?_; refine G.pu 20 47 2097151 ?_; refine G.pu 21 48 4194303 ?_; refine G.pu 22 49 8388607 ?_; refine G.pu 23 50 16777215 ?_; refine G.pu 25 52 50331647 ?_; refine G.pu 26 53 117440511 ?_; refine G.ta6 24 51 134217727 ?_; refine G.pu 27 54 268435455 ?_; refine G.ta6 28 55 536870911 ?_; refine G.ta6 29 56 1073741823 ?_; refine G.on 30 57 2147483647 (fun K hK => ?_); refine goes_ Try.func57 (caab) rfl #[.agg #[.int .i64 ((rd_T53 aa (ai)).f0), .int .i64 ((rd_T53 aa (ai)).f1)], .agg #[.int .i64 ((rd_T53 aa ab).f0), .int .i64 ((rd_T53 aa ab).f1)]] (by rfl) rfl rfl (caak) ?_; with_reducible refine (spec_l1Less.calls ((rd_T53 aa (ai)).f0) ((rd_T53 aa (ai)).f1) ((rd_T53 aa ab).f0) ((rd_T53 aa ab).f1) false _ bF.out).mono ?_
              rintro e dK ⟨rfl, hb⟩; refine ⟨_, rfl, ?_⟩; have n0 := G.bb ac hb; have n1 := G.bb af hb; have n2 := G.bs HB hb; clear ac af HB; revert n0 n1 n2; intro ac af HB; (try clear hb); refine hK.out _ _ ⟨G.z af 0, G.z af 1, G.z ac 0, G.z ac 1, (G.hx HB aD), (G.hx HB aC)⟩ (fun hHeld => ?_); clear hK K; refine G.no 57 ?_; refine G.pu 31 58 4294967295 ?_; refine G.pu 32 59 8589934591 ?_; refine G.pu 33 60 17179869183 ?_; refine done_ (done_of HT_.out (caab)) ?_; try go_wp2
              go_ret
              exact ⟨by first | rfl | (simp [errW_none, errW_some] <;> rfl) | (simp only [← aJ]; first | rfl | (simp [errW_none, errW_some] <;> rfl)) | (simp [*, errW_none, errW_some] <;> rfl), G.cB HB.out⟩
            ·rw [if_neg br] at H; exact absurd H (by simp)
           ·rw [if_neg bq] at H; exact absurd H (by simp)
          ·rw [if_neg aX] at H; have bC : decide (0 < ab) = false := decide_eq_false aX; clear aX; have H' := G.m H; clear H; have ⟨ci, cj, ck, cl⟩ := G.d2 (w := wr) ac; have av : 0 ≤ (ab : Int) := of_decide_eq_true (G.asm); have aw : ab < (aa.length : Int) := of_decide_eq_true (G.asm); obtain ⟨aj, aL, al, am⟩ := at_T53 aK.out ab av aw; cases aL; replace al := G.hx HB al; replace am := G.hx HB am; replace av := eq_true av; replace aw := eq_true aw; try go_wp2_with (first | ((with_reducible refine G.h 4 rfl ?_); (try (refine gate_guard (by rfl) ?_; dsimp only)); refine G.be 4 #[.int .i64 0, .int .i64 0] 53 ?_; intro ae hg a8 hbox hb; have n0 := G.bb ac hb; have n1 := G.bs HB hb; have n2 := G.m (hbox); have n3 := G.m (caaa : w.heap.size ≤ ae); have n4 := G.m (caaa : w.heap.size ≤ ae); have n5 := G.m (caag : ah ≠ ae); have n6 := G.m (caah : ae ≠ ah); clear ac HB; revert n0 n1 n2 n3 n4 n5 n6; intro ac HB af aT aU ak ap; clear hb hbox hg; have dw := ap.out; have dx := ak.out; have ⟨cm, cn, co, cp⟩ := G.d2 (w := a8) af))
           have n0 : Aside0 (((a8.setCell ⟨ae, 0, none⟩ (.int .i64 ((rd_T53 aa ab).f0))).setCell ⟨ae, 1, none⟩ (.int .i64 ((rd_T53 aa ab).f1))).heap[ah]? = some (.cells #[.int .i64 ag, .slice (some aj) aa.length az] 30 (0, 0))) := ⟨caaf⟩; have n1 : Aside0 (((a8.setCell ⟨ae, 0, none⟩ (.int .i64 ((rd_T53 aa ab).f0))).setCell ⟨ae, 1, none⟩ (.int .i64 ((rd_T53 aa ab).f1))).heap[ae]? = some (.cells #[.int .i64 ((rd_T53 aa ab).f0), .int .i64 ((rd_T53 aa ab).f1)] 53 (0, 0))) := ⟨caae⟩; have n2 : Aside0 (Below w.heap.size w ((a8.setCell ⟨ae, 0, none⟩ (.int .i64 ((rd_T53 aa ab).f0))).setCell ⟨ae, 1, none⟩ (.int .i64 ((rd_T53 aa ab).f1)))) := ⟨G.cB HB.out⟩; (try clear ac af HB); generalize ((a8.setCell ⟨ae, 0, none⟩ (.int .i64 ((rd_T53 aa ab).f0))).setCell ⟨ae, 1, none⟩ (.int .i64 ((rd_T53 aa ab).f1))) = dc at n0 n1 n2 ⊢; revert n0 n1 n2; intro ac af HB; have n0 := G.m (blk_drew ac.out); have n1 := G.m (blk_drew af.out); have n2 := G.m (below_drew1 HB.out); clear ac af HB; revert n0 n1 n2; intro ac af HB; refine G.st 34 (S := fun w' => w'.cell? ⟨ae, 0, none⟩ = some (.int .i64 ((rd_T53 aa ab).f0)) ∧ w'.cell? ⟨ae, 1, none⟩ = some (.int .i64 ((rd_T53 aa ab).f1)) ∧ w'.cell? ⟨ah, 0, none⟩ = some (.int .i64 ag) ∧ w'.cell? ⟨ah, 1, none⟩ = some (.slice (some aj) aa.length az)) [] ⟨G.z af 0, G.z af 1, G.z ac 0, G.z ac 1⟩ spec_NetOk.tab7 spec_NetOk.bits7 (fun hHeld HT_ HW_ => ?_); generalize dc.drew = dL at ac af HB hHeld ⊢; refine G.pu 0 27 1 ?_; refine G.pu 2 29 5 ?_; refine G.ta4 1 28 7 ?_; refine G.ta4 3 30 15 ?_; refine G.pu 4 31 31 ?_; refine G.on 5 32 63 (fun K hK => ?_); refine G.gs Try.func43 #[.int .i64 ((rd_T53 aa ab).f0), .int .i64 0, .int .i64 (wrap64 (ag - 1))] ?_; with_reducible refine (spec_l6In.calls ((rd_T53 aa ab).f0) 0 (wrap64 (ag - 1)) true _ aW.out).mono ?_
           rintro e w' ⟨rfl, ⟨nd, rfl⟩⟩; refine ⟨_, rfl, ?_⟩; refine hK.out _ _ ⟨G.z af 0, G.z af 1, G.z ac 0, G.z ac 1⟩ (fun hHeld => ?_); clear hK K; refine G.no 32 ?_; refine G.pu 6 33 127 ?_; refine G.pu 7 34 255 ?_; refine G.pu 8 35 511 ?_; refine G.pu 10 37 1535 ?_; refine G.pu 13 40 9727 ?_; refine G.ta4 9 36 10239 ?_; refine G.ta4 11 38 12287 ?_; refine G.pu 12 39 16383 ?_; refine G.ta4 14 41 32767 ?_; refine G.pu 15 42 65535 ?_; refine G.on 16 43 131071 (fun K hK => ?_); refine G.gs Try.func43 #[.int .i64 ((rd_T53 aa ab).f1), .int .i64 (wrap64 (((rd_T53 aa ab).f0) + 1)), .int .i64 (wrap64 (ag - 1))] ?_; with_reducible refine (spec_l6In.calls ((rd_T53 aa ab).f1) (wrap64 (((rd_T53 aa ab).f0) + 1)) (wrap64 (ag - 1)) true _ a5.out).mono ?_
           rintro e w' ⟨rfl, ⟨nd, rfl⟩⟩; refine ⟨_, rfl, ?_⟩; refine hK.out _ _ ⟨G.z af 0, G.z af 1, G.z ac 0, G.z ac 1⟩ (fun hHeld => ?_); clear hK K; refine G.no 43 ?_; refine G.pu 17 44 262143 ?_; refine G.pu 18 45 524287 ?_; refine G.pu 19 46 1048575 ?_; refine G.pu 20 47 2097151 ?_; refine G.pu 21 48 4194303 ?_; refine G.pu 22 49 8388607 ?_; refine G.pf 23 50 16777215 ?_; refine G.pf 24 51 33554431 ?_; refine G.pf 25 52 67108863 ?_; refine G.pf 26 53 134217727 ?_; refine G.pf 27 54 268435455 ?_; refine G.pf 28 55 536870911 ?_; refine G.pf 29 56 1073741823 ?_; refine G.pf 30 57 2147483647 ?_; refine G.pf 31 58 4294967295 ?_; refine G.pu 32 59 8589934591 ?_; refine G.pu 33 60 17179869183 ?_; refine done_ (done_of HT_.out (caab)) ?_; try go_wp2
           go_roundg k2
           case measure => have := bm.out; have := bn.out; omega
           case rel => exact ⟨(wrap64 (ab + 1)), (caad), H', ⟨by have := bm.out; have := bn.out; omega⟩, ⟨G.cb ac.out⟩, ⟨G.cB HB.out⟩⟩
         ·replace bp := Bool.eq_false_iff.mpr bp; subst bp; have H1 : (some false) = some r := by rw [if_neg (show ¬ (false = true) by decide)] at H; exact H
          clear H; have H := H1; clear H1; obtain rfl := Option.some.inj H; have ⟨cq, cr, ct, cu⟩ := G.d2 (w := wr) ac; have av : 0 ≤ (ab : Int) := of_decide_eq_true (G.asm); have aw : ab < (aa.length : Int) := of_decide_eq_true (G.asm); obtain ⟨aj, aL, al, am⟩ := at_T53 aK.out ab av aw; cases aL; replace al := G.hx HB al; replace am := G.hx HB am; replace av := eq_true av; replace aw := eq_true aw; try go_wp2_with (first | ((with_reducible refine G.h 4 rfl ?_); (try (refine gate_guard (by rfl) ?_; dsimp only)); refine G.be 4 #[.int .i64 0, .int .i64 0] 53 ?_; intro ae hg a9 hbox hb; have n0 := G.bb ac hb; have n1 := G.bs HB hb; have n2 := G.m (hbox); have n3 := G.m (caaa : w.heap.size ≤ ae); have n4 := G.m (caaa : w.heap.size ≤ ae); have n5 := G.m (caag : ah ≠ ae); have n6 := G.m (caah : ae ≠ ah); clear ac HB; revert n0 n1 n2 n3 n4 n5 n6; intro ac HB af aT aU ak ap; clear hb hbox hg; have dy := ap.out; have dz := ak.out; have ⟨cv, cw, cx, cy⟩ := G.d2 (w := a9) af))
          have n0 : Aside0 (((a9.setCell ⟨ae, 0, none⟩ (.int .i64 ((rd_T53 aa ab).f0))).setCell ⟨ae, 1, none⟩ (.int .i64 ((rd_T53 aa ab).f1))).heap[ah]? = some (.cells #[.int .i64 ag, .slice (some aj) aa.length az] 30 (0, 0))) := ⟨caaf⟩; have n1 : Aside0 (((a9.setCell ⟨ae, 0, none⟩ (.int .i64 ((rd_T53 aa ab).f0))).setCell ⟨ae, 1, none⟩ (.int .i64 ((rd_T53 aa ab).f1))).heap[ae]? = some (.cells #[.int .i64 ((rd_T53 aa ab).f0), .int .i64 ((rd_T53 aa ab).f1)] 53 (0, 0))) := ⟨caae⟩; have n2 : Aside0 (Below w.heap.size w ((a9.setCell ⟨ae, 0, none⟩ (.int .i64 ((rd_T53 aa ab).f0))).setCell ⟨ae, 1, none⟩ (.int .i64 ((rd_T53 aa ab).f1)))) := ⟨G.cB HB.out⟩; (try clear ac af HB); generalize ((a9.setCell ⟨ae, 0, none⟩ (.int .i64 ((rd_T53 aa ab).f0))).setCell ⟨ae, 1, none⟩ (.int .i64 ((rd_T53 aa ab).f1))) = dd at n0 n1 n2 ⊢; revert n0 n1 n2; intro ac af HB; have n0 := G.m (blk_drew ac.out); have n1 := G.m (blk_drew af.out); have n2 := G.m (below_drew1 HB.out); clear ac af HB; revert n0 n1 n2; intro ac af HB; refine G.st 34 (S := fun w' => w'.cell? ⟨ae, 0, none⟩ = some (.int .i64 ((rd_T53 aa ab).f0)) ∧ w'.cell? ⟨ae, 1, none⟩ = some (.int .i64 ((rd_T53 aa ab).f1)) ∧ w'.cell? ⟨ah, 0, none⟩ = some (.int .i64 ag) ∧ w'.cell? ⟨ah, 1, none⟩ = some (.slice (some aj) aa.length az)) [] ⟨G.z af 0, G.z af 1, G.z ac 0, G.z ac 1⟩ spec_NetOk.tab7 spec_NetOk.bits7 (fun hHeld HT_ HW_ => ?_); generalize dd.drew = dM at ac af HB hHeld ⊢; refine G.pu 0 27 1 ?_; refine G.pu 2 29 5 ?_; refine G.ta4 1 28 7 ?_; refine G.ta4 3 30 15 ?_; refine G.pu 4 31 31 ?_; refine G.on 5 32 63 (fun K hK => ?_); refine G.gs Try.func43 #[.int .i64 ((rd_T53 aa ab).f0), .int .i64 0, .int .i64 (wrap64 (ag - 1))] ?_; with_reducible refine (spec_l6In.calls ((rd_T53 aa ab).f0) 0 (wrap64 (ag - 1)) true _ aW.out).mono ?_
          rintro e w' ⟨rfl, ⟨nd, rfl⟩⟩; refine ⟨_, rfl, ?_⟩; refine hK.out _ _ ⟨G.z af 0, G.z af 1, G.z ac 0, G.z ac 1⟩ (fun hHeld => ?_); clear hK K; refine G.no 32 ?_; refine G.pu 6 33 127 ?_; refine G.pu 7 34 255 ?_; refine G.pu 8 35 511 ?_; refine G.pu 10 37 1535 ?_; refine G.pu 13 40 9727 ?_; refine G.ta4 9 36 10239 ?_; refine G.ta4 11 38 12287 ?_; refine G.pu 12 39 16383 ?_; refine G.ta4 14 41 32767 ?_; refine G.pu 15 42 65535 ?_; refine G.on 16 43 131071 (fun K hK => ?_); refine G.gs Try.func43 #[.int .i64 ((rd_T53 aa ab).f1), .int .i64 (wrap64 (((rd_T53 aa ab).f0) + 1)), .int .i64 (wrap64 (ag - 1))] ?_; with_reducible refine (spec_l6In.calls ((rd_T53 aa ab).f1) (wrap64 (((rd_T53 aa ab).f0) + 1)) (wrap64 (ag - 1)) false _ a5.out).mono ?_
          rintro e w' ⟨rfl, ⟨nd, rfl⟩⟩; refine ⟨_, rfl, ?_⟩; refine hK.out _ _ ⟨G.z af 0, G.z af 1, G.z ac 0, G.z ac 1⟩ (fun hHeld => ?_); clear hK K; refine G.no 43 ?_; refine G.pu 17 44 262143 ?_; refine G.pu 18 45 524287 ?_; refine G.pu 19 46 1048575 ?_; refine G.pf 20 47 2097151 ?_; refine G.pf 21 48 4194303 ?_; refine G.pf 22 49 8388607 ?_; refine G.pf 23 50 16777215 ?_; refine G.pf 24 51 33554431 ?_; refine G.pf 25 52 67108863 ?_; refine G.pf 26 53 134217727 ?_; refine G.pf 27 54 268435455 ?_; refine G.pf 28 55 536870911 ?_; refine G.pf 29 56 1073741823 ?_; refine G.pf 30 57 2147483647 ?_; refine G.pf 31 58 4294967295 ?_; refine G.pf 32 59 8589934591 ?_; refine G.pu 33 60 17179869183 ?_; refine done_ (done_of HT_.out (caab)) ?_; try go_wp2
          go_ret
          exact ⟨caac, G.cB HB.out⟩
        ·replace bo := Bool.eq_false_iff.mpr bo; subst bo; have H1 : (some false) = some r := by rw [if_neg (show ¬ (false = true) by decide)] at H; exact H
         clear H; have H := H1; clear H1; obtain rfl := Option.some.inj H; have ⟨cz, cA, cD, cE⟩ := G.d2 (w := wr) ac; have av : 0 ≤ (ab : Int) := of_decide_eq_true (G.asm); have aw : ab < (aa.length : Int) := of_decide_eq_true (G.asm); obtain ⟨aj, aL, al, am⟩ := at_T53 aK.out ab av aw; cases aL; replace al := G.hx HB al; replace am := G.hx HB am; replace av := eq_true av; replace aw := eq_true aw; try go_wp2_with (first | ((with_reducible refine G.h 4 rfl ?_); (try (refine gate_guard (by rfl) ?_; dsimp only)); refine G.be 4 #[.int .i64 0, .int .i64 0] 53 ?_; intro ae hg a_ hbox hb; have n0 := G.bb ac hb; have n1 := G.bs HB hb; have n2 := G.m (hbox); have n3 := G.m (caaa : w.heap.size ≤ ae); have n4 := G.m (caaa : w.heap.size ≤ ae); have n5 := G.m (caag : ah ≠ ae); have n6 := G.m (caah : ae ≠ ah); clear ac HB; revert n0 n1 n2 n3 n4 n5 n6; intro ac HB af aT aU ak ap; clear hb hbox hg; have dA := ap.out; have dB := ak.out; have ⟨cF, cG, cH, cI⟩ := G.d2 (w := a_) af))
         have n0 : Aside0 (((a_.setCell ⟨ae, 0, none⟩ (.int .i64 ((rd_T53 aa ab).f0))).setCell ⟨ae, 1, none⟩ (.int .i64 ((rd_T53 aa ab).f1))).heap[ah]? = some (.cells #[.int .i64 ag, .slice (some aj) aa.length az] 30 (0, 0))) := ⟨caaf⟩; have n1 : Aside0 (((a_.setCell ⟨ae, 0, none⟩ (.int .i64 ((rd_T53 aa ab).f0))).setCell ⟨ae, 1, none⟩ (.int .i64 ((rd_T53 aa ab).f1))).heap[ae]? = some (.cells #[.int .i64 ((rd_T53 aa ab).f0), .int .i64 ((rd_T53 aa ab).f1)] 53 (0, 0))) := ⟨caae⟩; have n2 : Aside0 (Below w.heap.size w ((a_.setCell ⟨ae, 0, none⟩ (.int .i64 ((rd_T53 aa ab).f0))).setCell ⟨ae, 1, none⟩ (.int .i64 ((rd_T53 aa ab).f1)))) := ⟨G.cB HB.out⟩; (try clear ac af HB); generalize ((a_.setCell ⟨ae, 0, none⟩ (.int .i64 ((rd_T53 aa ab).f0))).setCell ⟨ae, 1, none⟩ (.int .i64 ((rd_T53 aa ab).f1))) = de at n0 n1 n2 ⊢; revert n0 n1 n2; intro ac af HB; have n0 := G.m (blk_drew ac.out); have n1 := G.m (blk_drew af.out); have n2 := G.m (below_drew1 HB.out); clear ac af HB; revert n0 n1 n2; intro ac af HB; refine G.st 34 (S := fun w' => w'.cell? ⟨ae, 0, none⟩ = some (.int .i64 ((rd_T53 aa ab).f0)) ∧ w'.cell? ⟨ae, 1, none⟩ = some (.int .i64 ((rd_T53 aa ab).f1)) ∧ w'.cell? ⟨ah, 0, none⟩ = some (.int .i64 ag) ∧ w'.cell? ⟨ah, 1, none⟩ = some (.slice (some aj) aa.length az)) [] ⟨G.z af 0, G.z af 1, G.z ac 0, G.z ac 1⟩ spec_NetOk.tab7 spec_NetOk.bits7 (fun hHeld HT_ HW_ => ?_); generalize de.drew = dN at ac af HB hHeld ⊢; refine G.pu 0 27 1 ?_; refine G.pu 2 29 5 ?_; refine G.ta4 1 28 7 ?_; refine G.ta4 3 30 15 ?_; refine G.pu 4 31 31 ?_; refine G.on 5 32 63 (fun K hK => ?_); refine G.gs Try.func43 #[.int .i64 ((rd_T53 aa ab).f0), .int .i64 0, .int .i64 (wrap64 (ag - 1))] ?_; with_reducible refine (spec_l6In.calls ((rd_T53 aa ab).f0) 0 (wrap64 (ag - 1)) false _ aW.out).mono ?_
         rintro e w' ⟨rfl, ⟨nd, rfl⟩⟩; refine ⟨_, rfl, ?_⟩; refine hK.out _ _ ⟨G.z af 0, G.z af 1, G.z ac 0, G.z ac 1⟩ (fun hHeld => ?_); clear hK K; refine G.no 32 ?_; refine G.pu 6 33 127 ?_; refine G.pu 7 34 255 ?_; refine G.pf 8 35 511 ?_; refine G.pf 9 36 1023 ?_; refine G.pf 10 37 2047 ?_; refine G.pf 11 38 4095 ?_; refine G.pf 12 39 8191 ?_; refine G.pf 13 40 16383 ?_; refine G.pf 14 41 32767 ?_; refine G.pf 15 42 65535 ?_; refine G.pf 16 43 131071 ?_; refine G.pf 17 44 262143 ?_; refine G.pu 18 45 524287 ?_; refine G.pu 19 46 1048575 ?_; refine G.pf 20 47 2097151 ?_; refine G.pf 21 48 4194303 ?_; refine G.pf 22 49 8388607 ?_; refine G.pf 23 50 16777215 ?_; refine G.pf 24 51 33554431 ?_; refine G.pf 25 52 67108863 ?_; refine G.pf 26 53 134217727 ?_; refine G.pf 27 54 268435455 ?_; refine G.pf 28 55 536870911 ?_; refine G.pf 29 56 1073741823 ?_; refine G.pf 30 57 2147483647 ?_; refine G.pf 31 58 4294967295 ?_; refine G.pf 32 59 8589934591 ?_; refine G.pu 33 60 17179869183 ?_; refine done_ (done_of HT_.out (caab)) ?_; try go_wp2
         go_ret
         exact ⟨caac, G.cB HB.out⟩
       ·rw [if_neg c10] at H; exact absurd H (by simp)
      ·rw [if_neg c9] at H; have ba : decide (ab < (aa.length : Int)) = false := decide_eq_false c9; clear c9; obtain rfl := Option.some.inj H; have ⟨cJ, cL, cM, cN⟩ := G.d2 (w := wr) ac
       go_wp2
       go_ret
       exact ⟨caac, G.cB HB.out⟩
theorem caax {p : Prop} (h : p := by (try simp only [au]); (try simp only [aw]); (with_reducible repeat (first | refine blk_drewN ?_ _ | refine blk_drew ?_ | refine blk_alloc ?_ _)); exact ac.out) : p := h
theorem caay {p : Prop} (h : p := by (try simp only [au]); (try simp only [aw]); (with_reducible repeat (first | apply Kd.R_alloc | apply Kd.R_drewN | apply Kd.R_drew)); exact ai.out) : p := h
theorem caaw {p : Prop} (h : p := by (with_reducible repeat (first | apply Kd.Q_alloc | apply Kd.Q_drewN | apply Kd.Q_drew)); exact ap.out) : p := h
theorem caav {p : Prop} (h : p := by first | rfl | (simp [errW_none, errW_some] <;> rfl) | (simp [*, errW_none, errW_some] <;> rfl)) : p := h
theorem caat {p : Prop} (h : p := by first | rfl | (simp; done) | (simp [*]; done)) : p := h
theorem caas {p : Prop} (h : p := by rw [hg]; exact (below_size (G.cB HB.out))) : p := h
theorem caau {p : Prop} (h : p := by kernel_rfl) : p := h
attribute [local go_sem high] eqA53
def spec_l1Knot.f (k : Nat) (ab : Int) (aa : List (S53)) (a1 : Int) : Option (Bool) := (spec_NetOk.f k ab aa).bind fun bz => (if bz = true then ((spec_l6In.f a1 0 (wrap64 (ab - 1))).bind fun aX => (some aX)) else (some false))
set_option maxHeartbeats 8000000 in
set_option maxRecDepth 100000 in
theorem spec_l1Knot.calls (k : Nat) (ab : Int) (al : Option Addr) (ak : Nat) (aa : List (S53)) (a1 : Int) (r : Bool) (w : World) (aG : Kd.C k53 w al aa.length aa) (aH : aa.length ≤ ak) (h : spec_l1Knot.f k ab aa a1 = some r) :
  Calls Try.prog 71 #[.agg #[.int .i64 ab, .slice al aa.length ak], .int .i64 a1] w fun e w' => e = .returned (.bool r) ∧ Below w.heap.size w w' := by
 have cd := Try.underlying30; have aE := G.m aG; have aJ := G.m aH; clear aG aH; have HB := G.m (Below.refl w.heap.size w); have H : ((spec_NetOk.f k ab aa).bind fun bz => (if bz = true then ((spec_l6In.f a1 0 (wrap64 (ab - 1))).bind fun aX => (some aX)) else (some false))) = some r := h; clear h; obtain ⟨bz, A3, H⟩ := G.bi H; replace H : (if bz = true then ((spec_l6In.f a1 0 (wrap64 (ab - 1))).bind fun aX => (some aX)) else (some false)) = some r := H
 by_cases c4 : bz = true
 ·subst c4; have H1 : ((spec_l6In.f a1 0 (wrap64 (ab - 1))).bind fun aX => (some aX)) = some r := by rw [if_pos rfl] at H; exact H
  clear H; have H := H1; clear H1; obtain ⟨aX, A5, H⟩ := G.bi H; replace H : (some aX) = some r := H; obtain rfl := Option.some.inj H
  go_enter Try.func71, Try.ntmps71
  go_wp2_with (first | ((with_reducible refine G.h 2 rfl ?_); refine G.be 2 #[.int .i64 ab, .slice al aa.length ak] 30 ?_; intro bl hg w6 hbox hb; have n0 := G.bs HB hb; have n1 := G.m (hbox); have n2 := G.m (caas : w.heap.size ≤ bl); have n3 := G.m (caas : w.heap.size ≤ bl); clear HB; revert n0 n1 n2 n3; intro HB aK dv dw; clear hb hbox hg; have ⟨cY, cZ, c_, da⟩ := G.d2 (w := w6) aK) | ((with_reducible refine G.f 32 rfl ?_); refine G.gL 6 Try.func32 #[.agg #[.int .i64 ab, .slice al aa.length ak]] ?_; (with_reducible refine (spec_NetOk.calls k ab _ _ aa true _ ?side1 ?side2 A3.out).mono ?_); (case side1 => exact G.cC (Kd.C_below aE.out HB.out)); (case side2 => exact aJ.out); rintro e w8 ⟨rfl, hb⟩; refine ⟨_, rfl, ?_⟩; have n0 := G.bb aK hb; have n1 := G.bs HB hb; clear aK HB; revert n0 n1; intro aK HB; (try clear hb); have ⟨db, dc, dd, de⟩ := G.d2 (w := w8) aK) | (go_at_call 43; (with_reducible refine (spec_l6In.calls a1 0 (wrap64 (ab - 1)) aX _ A5.out).mono ?_); rintro e w' ⟨rfl, ⟨nd, rfl⟩⟩))
  go_ret
  exact ⟨caav, G.cB HB.out⟩
 ·replace c4 := Bool.eq_false_iff.mpr c4; subst c4; have H1 : (some false) = some r := by rw [if_neg (show ¬ (false = true) by decide)] at H; exact H
  clear H; have H := H1; clear H1; obtain rfl := Option.some.inj H
  go_enter Try.func71, Try.ntmps71
  go_wp2_with (first | ((with_reducible refine G.h 2 rfl ?_); refine G.be 2 #[.int .i64 ab, .slice al aa.length ak] 30 ?_; intro bl hg cr hbox hb; have n0 := G.bs HB hb; have n1 := G.m (hbox); have n2 := G.m (caas : w.heap.size ≤ bl); have n3 := G.m (caas : w.heap.size ≤ bl); clear HB; revert n0 n1 n2 n3; intro HB aK dv dw; clear hb hbox hg; have ⟨bI, bJ, bK, bL⟩ := G.d2 (w := cr) aK) | ((with_reducible refine G.f 32 rfl ?_); refine G.gL 6 Try.func32 #[.agg #[.int .i64 ab, .slice al aa.length ak]] ?_; (with_reducible refine (spec_NetOk.calls k ab _ _ aa false _ ?side1 ?side2 A3.out).mono ?_); (case side1 => exact G.cC (Kd.C_below aE.out HB.out)); (case side2 => exact aJ.out); rintro e df ⟨rfl, hb⟩; refine ⟨_, rfl, ?_⟩; have n0 := G.bb aK hb; have n1 := G.bs HB hb; clear aK HB; revert n0 n1; intro aK HB; (try clear hb)))
  go_ret
  exact ⟨caav, G.cB HB.out⟩
def spec_l1Tie.f (a0 : Int) (a1 : Int) : Option (Int × Int) := if a0 < a1 then (some (a0, a1)) else (some (a1, a0))
set_option maxHeartbeats 8000000 in
set_option maxRecDepth 100000 in
theorem spec_l1Tie.calls (a0 : Int) (a1 : Int) (r1 : Int) (r2 : Int) (w : World) (h : spec_l1Tie.f a0 a1 = some (r1, r2)) :
  Calls Try.prog 94 #[.int .i64 a0, .int .i64 a1] w fun e w' => e = .returned (.agg #[.int .i64 r1, .int .i64 r2]) ∧ Below w.heap.size w w' := by
 have dY := Try.underlying53; have HB := G.m (Below.refl w.heap.size w); have H : (if a0 < a1 then (some (a0, a1)) else (some (a1, a0))) = some (r1, r2) := h; clear h
 by_cases c3 : a0 < a1
 ·rw [if_pos c3] at H; have dZ : decide (a0 < a1) = true := decide_eq_true c3; clear c3; simp only [Option.some.injEq, Prod.mk.injEq] at H; obtain ⟨rfl, rfl⟩ := H
  go_enter Try.func94, Try.ntmps94
  go_wp2_with (first | ((with_reducible refine G.h 4 rfl ?_); refine G.be 4 #[.int .i64 0, .int .i64 0] 53 ?_; intro a5 hg w4 hbox hb; have n0 := G.bs HB hb; have n1 := G.m (hbox); have n2 := G.m (caas : w.heap.size ≤ a5); have n3 := G.m (caas : w.heap.size ≤ a5); clear HB; revert n0 n1 n2 n3; intro HB bm dx dy; clear hb hbox hg; have ⟨eC, eD, eE, eF⟩ := G.d2 (w := w4) bm))
  refine bodyPost_ret (results_cell_row rfl _ _ a5 53 #[.int .i64 a0, .int .i64 a1] (0, 0) _ rfl (by (with_reducible repeat (first | refine blk_drewN ?_ _ | refine blk_drew ?_ | refine blk_alloc ?_ _)); refine blk_put (cs := #[.int .i64 a0, .int .i64 0]) ?_ 1 _ rfl; (with_reducible repeat (first | refine blk_drewN ?_ _ | refine blk_drew ?_ | refine blk_alloc ?_ _)); refine blk_put (cs := #[.int .i64 0, .int .i64 0]) ?_ 0 _ rfl; (with_reducible repeat (first | refine blk_drewN ?_ _ | refine blk_drew ?_ | refine blk_alloc ?_ _)); exact bm.out) Try.underlying53 rfl (caau)) rfl ?_; exact ⟨caav, G.cB HB.out⟩
 ·rw [if_neg c3] at H; have dZ : decide (a0 < a1) = false := decide_eq_false c3; clear c3; simp only [Option.some.injEq, Prod.mk.injEq] at H; obtain ⟨rfl, rfl⟩ := H
  go_enter Try.func94, Try.ntmps94
  go_wp2_with (first | ((with_reducible refine G.h 4 rfl ?_); refine G.be 4 #[.int .i64 0, .int .i64 0] 53 ?_; intro a5 hg w6 hbox hb; have n0 := G.bs HB hb; have n1 := G.m (hbox); have n2 := G.m (caas : w.heap.size ≤ a5); have n3 := G.m (caas : w.heap.size ≤ a5); clear HB; revert n0 n1 n2 n3; intro HB bm dx dy; clear hb hbox hg; have ⟨cY, cZ, c_, da⟩ := G.d2 (w := w6) bm))
  refine bodyPost_ret (results_cell_row rfl _ _ a5 53 #[.int .i64 a1, .int .i64 a0] (0, 0) _ rfl (by (with_reducible repeat (first | refine blk_drewN ?_ _ | refine blk_drew ?_ | refine blk_alloc ?_ _)); refine blk_put (cs := #[.int .i64 a1, .int .i64 0]) ?_ 1 _ rfl; (with_reducible repeat (first | refine blk_drewN ?_ _ | refine blk_drew ?_ | refine blk_alloc ?_ _)); refine blk_put (cs := #[.int .i64 0, .int .i64 0]) ?_ 0 _ rfl; (with_reducible repeat (first | refine blk_drewN ?_ _ | refine blk_drew ?_ | refine blk_alloc ?_ _)); exact bm.out) Try.underlying53 rfl (caau)) rfl ?_; exact ⟨caav, G.cB HB.out⟩
def spec_l1Has.l0 : Nat → Int → Int → Int → Int → List (S53) → Option (Bool)
 | 0, _, _, _, _, _ => none
 | k + 1, x1, x2, x7, cQ, a8 => if x7 < (a8.length : Int) then (if 0 ≤ x7 then ((spec_l1Tie.f x1 x2).bind fun ct => (if (((rd_T53 a8 x7).f0) == ct.1 && (((rd_T53 a8 x7).f1) == ct.2)) = true then (some true) else (spec_l1Has.l0 k x1 x2 (wrap64 (x7 + 1)) cQ a8))) else (none)) else (some false)
def spec_l1Has.f (k : Nat) (ab : Int) (aa : List (S53)) (a1 : Int) (a2 : Int) : Option (Bool) := spec_l1Has.l0 k a1 a2 0 ab aa
def spec_l1Has.T4 : Bool × List (List Nat × List Nat) := (true, [([], []), ([0], [0]), ([], []), ([1, 2], [1, 2]), ([3], [3]), ([], []), ([], []), ([5, 6], [5, 6]), ([4, 7], [4, 7])])
def spec_l1Has.B4 : List Nat := [0, 1, 0, 7, 15, 0, 0, 96, 255]
theorem spec_l1Has.tab4 : rtab .any (opsOf Try.f85 4) = spec_l1Has.T4 := by kernel_rfl
theorem spec_l1Has.bits4 : waitsOk spec_l1Has.T4.2 spec_l1Has.B4 = true := by kernel_rfl
set_option maxHeartbeats 8000000 in
set_option maxRecDepth 100000 in
theorem spec_l1Has.calls (k : Nat) (ab : Int) (al : Option Addr) (ak : Nat) (aa : List (S53)) (a1 : Int) (a2 : Int) (r : Bool) (w : World) (aG : Kd.C k53 w al aa.length aa) (aH : aa.length ≤ ak) (h : spec_l1Has.f k ab aa a1 a2 = some r) :
  Calls Try.prog 85 #[.agg #[.int .i64 ab, .slice al aa.length ak], .int .i64 a1, .int .i64 a2] w fun e w' => e = .returned (.bool r) ∧ Below w.heap.size w w' := by
 have cd := Try.underlying30; have dY := Try.underlying53; have aE := G.m aG; have aJ := G.m aH; clear aG aH; have HB := G.m (Below.refl w.heap.size w); have H : (spec_l1Has.l0 k a1 a2 0 ab aa) = some r := h; clear h; have H' := G.m H; clear H
 go_enter Try.func85, Try.ntmps85
 go_wp2_with (first | ((with_reducible refine G.h 3 rfl ?_); refine G.be 3 #[.int .i64 ab, .slice al aa.length ak] 30 ?_; intro a6 hg w4 hbox hb; have n0 := G.bs HB hb; have n1 := G.m (hbox); have n2 := G.m (caas : w.heap.size ≤ a6); have n3 := G.m (caas : w.heap.size ≤ a6); clear HB; revert n0 n1 n2 n3; intro HB aj eN eO; clear hb hbox hg))
 go_loopg [7] k (fun kq v7 w' => ∃ (ah : Int), v7 = .int .i64 ah ∧ Aside0 (spec_l1Has.l0 kq a1 a2 ah ab aa = some r) ∧ Aside0 (kq ≤ k) ∧ Aside0 (w'.heap[a6]? = some (.cells #[.int .i64 ab, (.slice al aa.length ak)] 30 (0, 0))) ∧ Aside0 (Below w.heap.size w w'))
 case atStart => exact ⟨(0), (caat), H', ⟨Nat.le_refl _⟩, ⟨G.cb aj.out⟩, ⟨G.cB HB.out⟩⟩
 case round =>
  clear H'; try clear p2
  obtain ⟨ah, rfl, HA, aW, aj, HB⟩ := hrel; cases gk with
  | zero => exact absurd HA.out (by simp [spec_l1Has.l0])
  | succ k1 =>
   have H := HA.out; clear HA; simp only [spec_l1Has.l0] at H
   by_cases c5 : ah < (aa.length : Int)
   ·rw [if_pos c5] at H; have ce : decide (ah < (aa.length : Int)) = true := decide_eq_true c5; clear c5
    by_cases c6 : 0 ≤ ah
    ·rw [if_pos c6] at H; have bU : decide (0 ≤ ah) = true := decide_eq_true c6; clear c6; obtain ⟨⟨aU, aV⟩, A7, H⟩ := G.bi H; replace H : (if (((rd_T53 aa ah).f0) == aU && (((rd_T53 aa ah).f1) == aV)) = true then (some true) else (spec_l1Has.l0 k1 a1 a2 (wrap64 (ah + 1)) ab aa)) = some r := H
     by_cases c8 : (((rd_T53 aa ah).f0) == aU && (((rd_T53 aa ah).f1) == aV)) = true
     ·rw [if_pos c8] at H; have cf : (((rd_T53 aa ah).f0) == aU && (((rd_T53 aa ah).f1) == aV)) = true := c8; (try (have d7 : decide (((rd_T53 aa ah).f0) = aU && (((rd_T53 aa ah).f1) == aV)) = true := by simpa using c8)); (try (have d8 : (((rd_T53 aa ah).f0) == aU && (((rd_T53 aa ah).f1) == aV)) = true := by simpa using c8)); clear c8; obtain rfl := Option.some.inj H; have ⟨db, dc, dd, de⟩ := G.d2 (w := wr) aj; try go_wp2
      have n0 := G.m (blk_drew aj.out); have n1 := G.m (below_drew1 HB.out); clear aj HB; revert n0 n1; intro aj HB; have ba : 0 ≤ (ah : Int) := of_decide_eq_true (G.asm); have bc : ah < (aa.length : Int) := of_decide_eq_true (G.asm); obtain ⟨aN, cg, az, aA⟩ := at_T53 aE.out ah ba bc; have aY := aA; have aZ := az; cases cg; replace az := G.hx HB az; replace aA := G.hx HB aA; replace ba := eq_true ba; replace bc := eq_true bc; refine G.st 9 (S := fun w' => w'.cell? ⟨a6, 0, none⟩ = some (.int .i64 ab) ∧ w'.cell? ⟨a6, 1, none⟩ = some (.slice (some aN) aa.length ak) ∧ w'.cell? (aN.add ((ah).toNat * 2)) = some (.int .i64 ((rd_T53 aa ah).f0)) ∧ w'.cell? ⟨(aN.add ((ah).toNat * 2)).block, (aN.add ((ah).toNat * 2)).off + 1, none⟩ = some (.int .i64 ((rd_T53 aa ah).f1))) [] ⟨G.z aj 0, G.z aj 1, (G.hx HB aZ), (G.hx HB aY)⟩ spec_l1Has.tab4 spec_l1Has.bits4 (fun hHeld HT_ HW_ => ?_); generalize wr.drew = cr at aj HB az aA hHeld ⊢; refine G.pu 0 15 1 ?_; refine G.pu 2 17 5 ?_; refine G.pu 5 20 37 ?_; refine G.pu 6 21 101 ?_; refine G.ta4 1 16 103 ?_; refine G.pu 3 18 111 ?_; refine G.ta4 4 19 127 ?_; refine G.on 7 22 255 (fun K hK => ?_); refine G.gs Try.func94 #[.int .i64 a1, .int .i64 a2] ?_; with_reducible refine (spec_l1Tie.calls a1 a2 aU aV _ A7.out).mono ?_
      rintro e eG ⟨rfl, hb⟩; refine ⟨_, rfl, ?_⟩; have n0 := G.bb aj hb; have n1 := G.bs HB hb; clear aj HB; revert n0 n1; intro aj HB; (try clear hb); refine hK.out _ _ ⟨G.z aj 0, G.z aj 1, (G.hx HB aZ), (G.hx HB aY)⟩ (fun hHeld => ?_); clear hK K; refine G.no 22 ?_; refine G.pu 8 23 511 ?_; refine done_ (done_of HT_.out (caau)) ?_; try go_wp2
      go_ret
      exact ⟨caav, G.cB HB.out⟩
     ·rw [if_neg c8] at H; have cf : (((rd_T53 aa ah).f0) == aU && (((rd_T53 aa ah).f1) == aV)) = false := by simpa using c8
      (try (have d7 : decide (((rd_T53 aa ah).f0) = aU && (((rd_T53 aa ah).f1) == aV)) = false := by simpa using c8)); (try (have d8 : (((rd_T53 aa ah).f0) == aU && (((rd_T53 aa ah).f1) == aV)) = false := by simpa using c8)); (try (have eY : ¬ (((rd_T53 aa ah).f0) = aU && (((rd_T53 aa ah).f1) == aV)) := by simpa using c8)); clear c8; have H' := G.m H; clear H; have ⟨eo, ep, eq, er⟩ := G.d2 (w := wr) aj; try go_wp2
      have n0 := G.m (blk_drew aj.out); have n1 := G.m (below_drew1 HB.out); clear aj HB; revert n0 n1; intro aj HB; have ba : 0 ≤ (ah : Int) := of_decide_eq_true (G.asm); have bc : ah < (aa.length : Int) := of_decide_eq_true (G.asm); obtain ⟨aN, cg, az, aA⟩ := at_T53 aE.out ah ba bc; have aY := aA; have aZ := az; cases cg; replace az := G.hx HB az; replace aA := G.hx HB aA; replace ba := eq_true ba; replace bc := eq_true bc; refine G.st 9 (S := fun w' => w'.cell? ⟨a6, 0, none⟩ = some (.int .i64 ab) ∧ w'.cell? ⟨a6, 1, none⟩ = some (.slice (some aN) aa.length ak) ∧ w'.cell? (aN.add ((ah).toNat * 2)) = some (.int .i64 ((rd_T53 aa ah).f0)) ∧ w'.cell? ⟨(aN.add ((ah).toNat * 2)).block, (aN.add ((ah).toNat * 2)).off + 1, none⟩ = some (.int .i64 ((rd_T53 aa ah).f1))) [] ⟨G.z aj 0, G.z aj 1, (G.hx HB aZ), (G.hx HB aY)⟩ spec_l1Has.tab4 spec_l1Has.bits4 (fun hHeld HT_ HW_ => ?_); generalize wr.drew = fg at aj HB az aA hHeld ⊢; refine G.pu 0 15 1 ?_; refine G.pu 2 17 5 ?_; refine G.pu 5 20 37 ?_; refine G.pu 6 21 101 ?_; refine G.ta4 1 16 103 ?_; refine G.pu 3 18 111 ?_; refine G.ta4 4 19 127 ?_; refine G.on 7 22 255 (fun K hK => ?_); refine G.gs Try.func94 #[.int .i64 a1, .int .i64 a2] ?_; with_reducible refine (spec_l1Tie.calls a1 a2 aU aV _ A7.out).mono ?_
      rintro e cu ⟨rfl, hb⟩; refine ⟨_, rfl, ?_⟩; have n0 := G.bb aj hb; have n1 := G.bs HB hb; clear aj HB; revert n0 n1; intro aj HB; (try clear hb); refine hK.out _ _ ⟨G.z aj 0, G.z aj 1, (G.hx HB aZ), (G.hx HB aY)⟩ (fun hHeld => ?_); clear hK K; refine G.no 22 ?_; refine G.pu 8 23 511 ?_; refine done_ (done_of HT_.out (caau)) ?_; try go_wp2
      go_roundg k1
      case measure => have := aW.out; omega
      case rel => exact ⟨(wrap64 (ah + 1)), (caat), H', ⟨by have := aW.out; omega⟩, ⟨G.cb aj.out⟩, ⟨G.cB HB.out⟩⟩
    ·rw [if_neg c6] at H; exact absurd H (by simp)
   ·rw [if_neg c5] at H; have ce : decide (ah < (aa.length : Int)) = false := decide_eq_false c5; clear c5; obtain rfl := Option.some.inj H; have ⟨cS, cT, cU, cW⟩ := G.d2 (w := wr) aj
    go_wp2
    go_ret
    exact ⟨caav, G.cB HB.out⟩
def spec_l2Next.l0 : Nat → Int → List Int → Int → Int → List (S53) → Option (List Int)
 | 0, _, _, _, _, _ => none
 | k + 1, x1, x5, x6, a9, bA => if x6 < a9 then ((spec_l1Has.f k a9 bA x1 x6).bind fun bV => (if bV = true then (if x5.length < 17592186044416 then (spec_l2Next.l0 k x1 (x5 ++ [x6]) (wrap64 (x6 + 1)) a9 bA) else (none)) else (spec_l2Next.l0 k x1 x5 (wrap64 (x6 + 1)) a9 bA))) else (some x5)
def spec_l2Next.f (k : Nat) (ab : Int) (aa : List (S53)) (a1 : Int) : Option (List Int) := spec_l2Next.l0 k a1 (([] : List Int)) 0 ab aa
set_option maxHeartbeats 8000000 in
set_option maxRecDepth 100000 in
theorem spec_l2Next.calls (k : Nat) (ab : Int) (al : Option Addr) (ak : Nat) (aa : List (S53)) (a1 : Int) (r : List Int) (w : World) (aG : Kd.C k53 w al aa.length aa) (aH : aa.length ≤ ak) (h : spec_l2Next.f k ab aa a1 = some r) :
  Calls Try.prog 73 #[.agg #[.int .i64 ab, .slice al aa.length ak], .int .i64 a1] w fun e w' => ∃ b7 : Value, e = .returned (b7) ∧ Kd.R (Kd.int .i64) 3 w' w.heap.size (fun _ => True) b7 r ∧ Below w.heap.size w w' := by
 have cd := Try.underlying30; have aE := G.m aG; have aJ := G.m aH; clear aG aH; have HB := G.m (Below.refl w.heap.size w); have H : (spec_l2Next.l0 k a1 (([] : List Int)) 0 ab aa) = some r := h; clear h; obtain ⟨dg, bn⟩ : ∃ y_ : List Int, y_ = (([] : List Int)) := ⟨_, rfl⟩; replace H : (spec_l2Next.l0 k a1 dg 0 ab aa) = some r := by first | (rw [bn]; with_reducible exact H) | (have am := (Option.bind_some _ _).symm.trans H; rw [bn]; with_reducible exact am) | (have am := (Option.bind_some _ _).symm.trans H; with_reducible exact am) | with_reducible exact H | (rw [bn]; exact H) | exact H
 have cv := G.m bn; clear bn; have H' := G.m H; clear H
 go_enter Try.func73, Try.ntmps73
 go_wp2_with (first | ((with_reducible refine G.h 2 rfl ?_); refine G.be 2 #[.int .i64 ab, .slice al aa.length ak] 30 ?_; intro bW hg w3 hbox hb; have n0 := G.bs HB hb; have n1 := G.m (hbox); have n2 := G.m (caas : w.heap.size ≤ bW); have n3 := G.m (caas : w.heap.size ≤ bW); clear HB; revert n0 n1 n2 n3; intro HB ao eP eQ; clear hb hbox hg) | ((with_reducible refine G.h 7 rfl ?_); refine Kd.R_lit (Kd.int .i64) _ 3 ?hg (N := 7) ?hd (xs := ([] : List Int)) (inner := []) (ok := fun _ => True) (okp := fun _ => True) ?hr ?hp (fun _ hk => hk) trivial (Below.refl _ _) (Nat.le_refl _) (by simp) ?_; (case hd => rfl); (case hg => rfl); (case hr => first | (go_simp; done) | (go_simp; rfl)); (case hp => exact (Reps.none _ _)); intro eZ w4 b8 hb hg_ hnew_; clear hg_ hnew_; (first | rw [← cv.out] at b8 | (simp only [Int.reduceToNat] at b8; rw [← cv.out] at b8)); have n0 := G.m (Kd.R_lower b8 (below_size (G.cB HB.out))); have n1 := G.bb ao hb; have n2 := G.bs HB hb; clear ao HB; revert n0 n1 n2; intro dz ao HB; clear hb b8))
 go_loopg [5, 6] k (fun kq v5 v6 w' => ∃ (aq : List Int) (af : Int), v6 = .int .i64 af ∧ Aside0 (spec_l2Next.l0 kq a1 aq af ab aa = some r) ∧ Aside0 (kq ≤ k) ∧ Aside0 (Kd.R (Kd.int .i64) 3 w' w.heap.size (fun _ => True) v5 aq) ∧ Aside0 (w'.heap[bW]? = some (.cells #[.int .i64 ab, (.slice al aa.length ak)] 30 (0, 0))) ∧ Aside0 (Below w.heap.size w w'))
 case atStart => exact ⟨(dg), (0), (caat), H', ⟨Nat.le_refl _⟩, ⟨G.cR dz.out⟩, ⟨G.cb ao.out⟩, ⟨G.cB HB.out⟩⟩
 case round =>
  clear H'; try clear p2
  obtain ⟨aq, af, rfl, HA, aW, ai, ao, HB⟩ := hrel; cases gk with
  | zero => exact absurd HA.out (by simp [spec_l2Next.l0])
  | succ k1 =>
   have H := HA.out; clear HA; simp only [spec_l2Next.l0] at H
   by_cases c6 : af < ab
   ·rw [if_pos c6] at H; have bU : decide (af < ab) = true := decide_eq_true c6; clear c6; obtain ⟨bV, A7, H⟩ := G.bi H; replace H : (if bV = true then (if aq.length < 17592186044416 then (spec_l2Next.l0 k1 a1 (aq ++ [af]) (wrap64 (af + 1)) ab aa) else (none)) else (spec_l2Next.l0 k1 a1 aq (wrap64 (af + 1)) ab aa)) = some r := H
    by_cases c8 : bV = true
    ·subst c8; have H1 : (if aq.length < 17592186044416 then (spec_l2Next.l0 k1 a1 (aq ++ [af]) (wrap64 (af + 1)) ab aa) else (none)) = some r := by rw [if_pos rfl] at H; exact H
     clear H; have H := H1; clear H1
     by_cases c9 : aq.length < 17592186044416
     ·rw [if_pos c9] at H; have d9 := G.m c9; clear c9; obtain ⟨dh, bo⟩ : ∃ y_ : List Int, y_ = (aq ++ [af]) := ⟨_, rfl⟩; replace H : (spec_l2Next.l0 k1 a1 dh (wrap64 (af + 1)) ab aa) = some r := by first | (rw [bo]; with_reducible exact H) | (have am := (Option.bind_some _ _).symm.trans H; rw [bo]; with_reducible exact am) | (have am := (Option.bind_some _ _).symm.trans H; with_reducible exact am) | with_reducible exact H | (rw [bo]; exact H) | exact H
      have dA := G.m bo; clear bo; have H' := G.m H; clear H; have ⟨es, et, eu, ev⟩ := G.d2 (w := wr) ao
      go_wp2_with (first | ((with_reducible refine G.f 85 rfl ?_); refine G.gL 17 Try.func85 #[.agg #[.int .i64 ab, .slice al aa.length ak], .int .i64 a1, .int .i64 af] ?_; (with_reducible refine (spec_l1Has.calls k1 ab _ _ aa a1 af true _ ?side1 ?side2 A7.out).mono ?_); (case side1 => exact G.cC (Kd.C_below aE.out HB.out)); (case side2 => exact aJ.out); rintro e eG ⟨rfl, hb⟩; refine ⟨_, rfl, ?_⟩; have n0 := G.rb ai hb; have n1 := G.bb ao hb; have n2 := G.bs HB hb; clear ai ao HB; revert n0 n1 n2; intro ai ao HB; (try clear hb)) | ((with_reducible refine gate_builtin (b := .append) (xs := #[.tmp 18, .tmp 20]) rfl ?_); at_builtin; refine Kd.R_append (Kd.int .i64) (w0 := w) w.heap.size rfl (.tmp 18) (.tmp 20) 25 3 (.int .i64 0) 8 rfl Try.underlying25 info3 rfl (by decide) (by omega) u5 aq af [.int .i64 af] (fun _ => True) (fun _ => False) rfl rfl ?aP (fun _ hk => hk.elim) ?aF ?aO ?aB ?aS ?aL ?_; (case aP => exact rfl); (case aB => exact (G.cB HB.out)); (case aF => exact (fun _ _ => trivial)); (case aO => exact (G.cR ai.out)); (case aS => exact (below_size (G.cB HB.out))); (case aL => have := d9.out; omega); intro e2 df ho hb hg hat; rw [← dA.out] at ho; have n0 := G.bg ao hg (Kd.R_ne ai.out ao.out (by decide)); have n1 := G.m (hb); have n2 := G.m (ho); clear ao HB ai; revert n0 n1 n2; intro ao HB dB; clear ho hb hg hat))
      go_roundg k1
      case measure => have := aW.out; omega
      case rel => exact ⟨(dh), (wrap64 (af + 1)), (caat), H', ⟨by have := aW.out; omega⟩, ⟨G.cR dB.out⟩, ⟨G.cb ao.out⟩, ⟨G.cB HB.out⟩⟩
     ·rw [if_neg c9] at H; exact absurd H (by simp)
    ·replace c8 := Bool.eq_false_iff.mpr c8; subst c8; have H1 : (spec_l2Next.l0 k1 a1 aq (wrap64 (af + 1)) ab aa) = some r := by rw [if_neg (show ¬ (false = true) by decide)] at H; exact H
     clear H; have H := H1; clear H1; have H' := G.m H; clear H; have ⟨bM, bN, bO, bP⟩ := G.d2 (w := wr) ao
     go_wp2_with (first | ((with_reducible refine G.f 85 rfl ?_); refine G.gL 17 Try.func85 #[.agg #[.int .i64 ab, .slice al aa.length ak], .int .i64 a1, .int .i64 af] ?_; (with_reducible refine (spec_l1Has.calls k1 ab _ _ aa a1 af false _ ?side1 ?side2 A7.out).mono ?_); (case side1 => exact G.cC (Kd.C_below aE.out HB.out)); (case side2 => exact aJ.out); rintro e cu ⟨rfl, hb⟩; refine ⟨_, rfl, ?_⟩; have n0 := G.rb ai hb; have n1 := G.bb ao hb; have n2 := G.bs HB hb; clear ai ao HB; revert n0 n1 n2; intro ai ao HB; (try clear hb)))
     go_roundg k1
     case measure => have := aW.out; omega
     case rel => exact ⟨(aq), (wrap64 (af + 1)), (caat), H', ⟨by have := aW.out; omega⟩, ⟨G.cR ai.out⟩, ⟨G.cb ao.out⟩, ⟨G.cB HB.out⟩⟩
   ·rw [if_neg c6] at H; have bU : decide (af < ab) = false := decide_eq_false c6; clear c6; obtain rfl := Option.some.inj H; have ⟨cS, cT, cU, cW⟩ := G.d2 (w := wr) ao
    go_wp2
    go_ret
    exact ⟨_, by first | rfl | (simp [errW_none, errW_some] <;> rfl) | (simp [*, errW_none, errW_some] <;> rfl), G.cR ai.out, G.cB HB.out⟩
mutual
def spec_WayReach.l0 : Nat → List Bool → List Int → Int → List (S53) → Option (List Bool)
 | 0, _, _, _, _ => none
 | k + 1, x5, x6, aR, aT => if (x6.length : Int) > 0 then (if 0 < (x6.length : Int) then ((spec_l2Next.f k aR aT (rd x6 0)).bind fun ag => (if 1 ≤ (x6.length : Int) then (spec_WayReach.l1 k x5 (x6.drop (1 : Int).toNat) ag 0 aR aT) else (none))) else (none)) else (some x5)
def spec_WayReach.l1 : Nat → List Bool → List Int → List Int → Int → Int → List (S53) → Option (List Bool)
 | 0, _, _, _, _, _, _ => none
 | k + 1, x5, x6, x7, x8, aR, aT => if x8 < (x7.length : Int) then (if 0 ≤ x8 then (if 0 ≤ (rd x7 x8) then (if (rd x7 x8) < (x5.length : Int) then (if (rdOf false x5 (rd x7 x8) = true) then (spec_WayReach.l1 k x5 x6 x7 (wrap64 (x8 + 1)) aR aT) else (if x6.length < 17592186044416 then (spec_WayReach.l1 k (x5.set ((rd x7 x8) : Int).toNat true) (x6 ++ [rd x7 x8]) x7 (wrap64 (x8 + 1)) aR aT) else (none))) else (none)) else (none)) else (none)) else (spec_WayReach.l0 k x5 x6 aR aT)
end
def spec_WayReach.f (k : Nat) (ab : Int) (aa : List (S53)) (a1 : Int) : Option (List Bool) := (spec_l1Knot.f k ab aa a1).bind fun bB => (if bB = true then (if 0 ≤ ab then (if (ab : Int).toNat ≤ 281474976710656 then ((some (List.replicate (ab : Int).toNat false : List Bool)).bind fun av => (if 0 ≤ a1 then (if a1 < (av.length : Int) then (spec_WayReach.l0 k (av.set (a1 : Int).toNat true) (([a1] : List Int)) ab aa) else (none)) else (none))) else (none)) else (none)) else (some (([] : List Bool))))
set_option maxHeartbeats 8000000 in
set_option maxRecDepth 100000 in
theorem spec_WayReach.calls (k : Nat) (ab : Int) (al : Option Addr) (ak : Nat) (aa : List (S53)) (a1 : Int) (r : List Bool) (w : World) (aG : Kd.C k53 w al aa.length aa) (aH : aa.length ≤ ak) (h : spec_WayReach.f k ab aa a1 = some r) :
  Calls Try.prog 56 #[.agg #[.int .i64 ab, .slice al aa.length ak], .int .i64 a1] w fun e w' => ∃ b7 : Value, e = .returned (b7) ∧ Kd.R Kd.bool 4 w' w.heap.size (fun _ => True) b7 r ∧ Below w.heap.size w w' := by
 have cd := Try.underlying30; have aE := G.m aG; have aJ := G.m aH; clear aG aH; have HB := G.m (Below.refl w.heap.size w); have H : ((spec_l1Knot.f k ab aa a1).bind fun bB => (if bB = true then (if 0 ≤ ab then (if (ab : Int).toNat ≤ 281474976710656 then ((some (List.replicate (ab : Int).toNat false : List Bool)).bind fun av => (if 0 ≤ a1 then (if a1 < (av.length : Int) then (spec_WayReach.l0 k (av.set (a1 : Int).toNat true) (([a1] : List Int)) ab aa) else (none)) else (none))) else (none)) else (none)) else (some (([] : List Bool))))) = some r := h; clear h; obtain ⟨bB, A3, H⟩ := G.bi H; replace H : (if bB = true then (if 0 ≤ ab then (if (ab : Int).toNat ≤ 281474976710656 then ((some (List.replicate (ab : Int).toNat false : List Bool)).bind fun av => (if 0 ≤ a1 then (if a1 < (av.length : Int) then (spec_WayReach.l0 k (av.set (a1 : Int).toNat true) (([a1] : List Int)) ab aa) else (none)) else (none))) else (none)) else (none)) else (some (([] : List Bool)))) = some r := H
 by_cases c4 : bB = true
 ·subst c4; have H1 : (if 0 ≤ ab then (if (ab : Int).toNat ≤ 281474976710656 then ((some (List.replicate (ab : Int).toNat false : List Bool)).bind fun av => (if 0 ≤ a1 then (if a1 < (av.length : Int) then (spec_WayReach.l0 k (av.set (a1 : Int).toNat true) (([a1] : List Int)) ab aa) else (none)) else (none))) else (none)) else (none)) = some r := by rw [if_pos rfl] at H; exact H
  clear H; have H := H1; clear H1
  by_cases c5 : 0 ≤ ab
  ·rw [if_pos c5] at H; have ce := eq_true c5; have d_ : decide (0 ≤ ab) = true := decide_eq_true c5; clear c5
   by_cases c6 : (ab : Int).toNat ≤ 281474976710656
   ·rw [if_pos c6] at H; have bU := eq_true c6; have ea : decide ((ab : Int).toNat ≤ 281474976710656) = true := decide_eq_true c6; clear c6; obtain ⟨av, bp⟩ : ∃ y_ : List Bool, y_ = (List.replicate (ab : Int).toNat false) := ⟨_, rfl⟩; replace H : (if 0 ≤ a1 then (if a1 < (av.length : Int) then (spec_WayReach.l0 k (av.set (a1 : Int).toNat true) (([a1] : List Int)) ab aa) else (none)) else (none)) = some r := by first | (rw [bp]; with_reducible exact H) | (have am := (Option.bind_some _ _).symm.trans H; rw [bp]; with_reducible exact am) | (have am := (Option.bind_some _ _).symm.trans H; with_reducible exact am) | with_reducible exact H | (rw [bp]; exact H) | exact H
    have cw := G.m bp; clear bp
    by_cases c7 : 0 ≤ a1
    ·rw [if_pos c7] at H; have eb : decide (0 ≤ a1) = true := decide_eq_true c7; clear c7
     by_cases c8 : a1 < (av.length : Int)
     ·rw [if_pos c8] at H; have cf : decide (a1 < (av.length : Int)) = true := decide_eq_true c8; clear c8; obtain ⟨bX, bq⟩ : ∃ y_ : List Bool, y_ = (av.set (a1 : Int).toNat true) := ⟨_, rfl⟩; replace H : (spec_WayReach.l0 k bX (([a1] : List Int)) ab aa) = some r := by first | (rw [bq]; with_reducible exact H) | (have am := (Option.bind_some _ _).symm.trans H; rw [bq]; with_reducible exact am) | (have am := (Option.bind_some _ _).symm.trans H; with_reducible exact am) | with_reducible exact H | (rw [bq]; exact H) | exact H
      have dC := G.m bq; clear bq; obtain ⟨di, br⟩ : ∃ y_ : List Int, y_ = (([a1] : List Int)) := ⟨_, rfl⟩; replace H : (spec_WayReach.l0 k bX di ab aa) = some r := by first | (rw [br]; with_reducible exact H) | (have am := (Option.bind_some _ _).symm.trans H; rw [br]; with_reducible exact am) | (have am := (Option.bind_some _ _).symm.trans H; with_reducible exact am) | with_reducible exact H | (rw [br]; exact H) | exact H
      have cx := G.m br; clear br; have H' := G.m H; clear H
      go_enter Try.func56, Try.ntmps56
      go_wp2_with (first | ((with_reducible refine G.h 2 rfl ?_); refine G.be 2 #[.int .i64 ab, .slice al aa.length ak] 30 ?_; intro aQ hg cr hbox hb; have n0 := G.bs HB hb; have n1 := G.m (hbox); have n2 := G.m (caas : w.heap.size ≤ aQ); have n3 := G.m (caas : w.heap.size ≤ aQ); clear HB; revert n0 n1 n2 n3; intro HB ac dD dE; clear hb hbox hg; have ⟨bI, bJ, bK, bL⟩ := G.d2 (w := cr) ac) | ((with_reducible refine G.f 71 rfl ?_); refine G.gL 11 Try.func71 #[.agg #[.int .i64 ab, .slice al aa.length ak], .int .i64 a1] ?_; (with_reducible refine (spec_l1Knot.calls k ab _ _ aa a1 true _ ?side1 ?side2 A3.out).mono ?_); (case side1 => exact G.cC (Kd.C_below aE.out HB.out)); (case side2 => exact aJ.out); rintro e df ⟨rfl, hb⟩; refine ⟨_, rfl, ?_⟩; have n0 := G.bb ac hb; have n1 := G.bs HB hb; clear ac HB; revert n0 n1; intro ac HB; (try clear hb); have ⟨bM, bN, bO, bP⟩ := G.d2 (w := df) ac) | ((with_reducible refine G.h 16 rfl ?_); refine Kd.R_make Kd.bool _ 4 rfl (N := 16) rfl 69 _ _ rfl ab rfl rfl Try.underlying69 (.bool false) 1 info4 rfl (by decide) (by omega) false (ok := fun _ => True) (okp := fun _ => True) rfl (fun _ hk => hk) trivial (of_decide_eq_true (G.asm)) (Nat.le_trans (Nat.mul_le_mul_right _ (of_decide_eq_true (G.asm) : ab.toNat ≤ 281474976710656)) (by omega)) (Below.refl _ _) (Nat.le_refl _) ?_; intro e3 cu bE hb hg_ hnew_; clear hg_ hnew_; (first | rw [← cw.out] at bE | (simp only [Int.reduceToNat] at bE; rw [← cw.out] at bE)); have n0 := G.m (Kd.R_lower bE (below_size (G.cB HB.out))); have n1 := G.bb ac hb; have n2 := G.bs HB hb; clear ac HB; revert n0 n1 n2; intro aI ac HB; clear hb bE; have p9 : 0 ≤ (a1 : Int) := of_decide_eq_true (G.asm); have q9 : (a1 : Int) < ((av.length : Int) : Int) := of_decide_eq_true (G.asm); obtain ⟨a7, bQ, dU, dV, eH, fh, dW⟩ := Kd.R_form aI.out (by omega); (first | cases dU | (injection dU with ea_ en_ ec_; (first | subst ea_ | (injection ea_ with ea_; subst ea_)); subst ec_; clear en_)); have dX := G.m dV; have fi := G.m dW; clear dV eH dW; obtain ⟨dF, eR⟩ := Kd.R_celln false aI.out (a1 : Int) p9 q9; replace p9 := eq_true p9; replace q9 := eq_true q9; obtain ⟨eS, eT⟩ := Kd.R_celln false aI.out (a1 : Int) (of_decide_eq_true (G.asm)) (of_decide_eq_true (G.asm)); have ch := Kd.R_putg aI.out (a1 : Int) true) | ((with_reducible refine gate_store (t := 4) (p := 19) rfl ?_); refine store_event (t := 4) (p := 19) (v := ?vo_w17) (w1 := (cu.setCell ⟨a7, (a1 : Int).toNat, none⟩ (.bool true))) ?hg ?ho ?hn ?hr ?_; (case ho => rfl); (case hg => rfl); (case hn => rfl); (case hr => first | (go_simp; done) | (go_simp; rfl)); intro dj hw; have hg : cu.grownBy dj (some a7) := (by rw [hw]; exact ch.2); have hp_ : Kd.R Kd.bool 4 dj w.heap.size (fun _ => True) (.slice (some ⟨a7, 0, none⟩) av.length bQ) bX := (by rw [hw, dC.out]; exact ch.1); clear ch; have n0 := G.bg ac hg (Kd.R_ne aI.out ac.out (by decide)); have n1 := G.m (hp_); have n2 := G.m ((by rw [hw]; exact below_set (HB.out) dX.out : Below w.heap.size w dj)); clear ac aI HB; revert n0 n1 n2; intro ac aI HB; clear hg hw hp_) | ((with_reducible refine G.h 21 rfl ?_); refine Kd.R_lit (Kd.int .i64) _ 3 ?hg (N := 21) ?hd (xs := ([a1] : List Int)) (inner := [.int .i64 a1]) (ok := fun _ => True) (okp := fun _ => True) ?hr ?hp (fun _ hk => hk) trivial (Below.refl _ _) (Nat.le_refl _) (by simp) ?_; (case hd => rfl); (case hg => rfl); (case hr => first | (go_simp; done) | (go_simp; rfl)); (case hp => exact (Reps.one (show Kd.M (Kd.int .i64) _ _ _ a1 [.int .i64 a1] from rfl) (Reps.none _ _))); intro e4 fj bF hb hg_ hnew_; clear hg_ hnew_; (first | rw [← cx.out] at bF | (simp only [Int.reduceToNat] at bF; rw [← cx.out] at bF)); have n0 := G.rb aI hb; have n1 := G.m (Kd.R_lower bF (below_size (G.cB HB.out))); have n2 := G.bb ac hb; have n3 := G.bs HB hb; clear aI ac HB; revert n0 n1 n2 n3; intro aI dG ac HB; clear hb bF))
      go_loopg [6] k (fun kq v6 w' => ∃ (aq : List Bool) (af : List Int), Aside0 (spec_WayReach.l0 kq aq af ab aa = some r) ∧ Aside0 (kq ≤ k) ∧ Aside0 (Kd.R Kd.bool 4 w' w.heap.size (fun _ => True) (.slice (some ⟨a7, 0, none⟩) av.length bQ) aq) ∧ Aside0 (Kd.Q (Kd.int .i64) 3 w' w.heap.size (fun _ => True) v6 af) ∧ Aside0 (w'.heap[aQ]? = some (.cells #[.int .i64 ab, (.slice al aa.length ak)] 30 (0, 0))) ∧ Aside0 (Below w.heap.size w w'))
      case atStart => exact ⟨(bX), (di), H', ⟨Nat.le_refl _⟩, ⟨G.cR aI.out⟩, ⟨Kd.Q_of_R (G.cR dG.out)⟩, ⟨G.cb ac.out⟩, ⟨G.cB HB.out⟩⟩
      case round =>
       clear H'; (try clear c4 ce d_ bU ea eb cf p9 q9 bI bJ bM bN bK bL bO bP dF); obtain ⟨aq, af, HA, aW, ai, ap, ac, HB⟩ := hrel; have au := (Kd.R_reads' ai.out).1; rw [au] at ai; (try simp only [au]); (try simp only [au] at ac); (try simp only [au] at ap); cases gk with
       | zero => exact absurd HA.out (by simp [spec_WayReach.l0])
       | succ k1 =>
        have H := HA.out; clear HA; simp only [spec_WayReach.l0] at H
        by_cases bR : (af.length : Int) > 0
        ·rw [if_pos bR] at H; have cy : decide (0 < (af.length : Int)) = true := decide_eq_true bR; have cz : decide (0 < af.length) = true := decide_eq_true (by omega); clear bR
         by_cases cA : 0 < (af.length : Int)
         ·rw [if_pos cA] at H; have dH : decide (0 < (af.length : Int)) = true := decide_eq_true cA; have dI : decide (0 < af.length) = true := decide_eq_true (by omega); clear cA; obtain ⟨ag, eI, H⟩ := G.bi H; replace H : (if 1 ≤ (af.length : Int) then (spec_WayReach.l1 k1 aq (af.drop (1 : Int).toNat) ag 0 ab aa) else (none)) = some r := H
          by_cases ca : 1 ≤ (af.length : Int)
          ·rw [if_pos ca] at H; have dJ := eq_true ca; have dK : decide (1 ≤ (af.length : Int)) = true := decide_eq_true ca; clear ca; obtain ⟨bd, bu⟩ : ∃ y_ : List Int, y_ = (af.drop (1 : Int).toNat) := ⟨_, rfl⟩; replace H : (spec_WayReach.l1 k1 aq bd ag 0 ab aa) = some r := by first | (rw [bu]; with_reducible exact H) | (have am := (Option.bind_some _ _).symm.trans H; rw [bu]; with_reducible exact am) | (have am := (Option.bind_some _ _).symm.trans H; with_reducible exact am) | with_reducible exact H | (rw [bu]; exact H) | exact H
           have cD := G.m bu; clear bu; have H' := G.m H; clear H; obtain ⟨e5, bY, ec, _⟩ := Kd.Q_slice ap.out; subst ec; try go_wp2
           have n0 := G.m (Kd.R_drew ai.out); have n1 := G.m (Kd.Q_drew ap.out); have n2 := G.m (blk_drew ac.out); have n3 := G.m (below_drew1 HB.out); clear ai ap ac HB; revert n0 n1 n2 n3; intro ai ap ac HB; have bZ : 0 ≤ (0 : Int) := (by omega); have b1 : 0 < (af.length : Int) := of_decide_eq_true (G.asm); obtain ⟨a_, ed, a4⟩ := Kd.at_int (Kd.Q_reads' ap.out).2.2 0 bZ b1; cases ed; have eU : (0 < af.length) = True := eq_true (by omega); (try rw [show ((0 : Int)).toNat = 0 from rfl] at a4); (try rw [Addr.add_zero'] at a4); replace bZ := eq_true bZ; replace b1 := eq_true b1; refine start_ (n := 6) (S := fun w' => w'.cell? ⟨aQ, 0, none⟩ = some (.int .i64 ab) ∧ w'.cell? ⟨aQ, 1, none⟩ = some (.slice al aa.length ak) ∧ w'.cell? a_ = some (.int .i64 (rd af 0))) (ds := []) (G.fl 6 0) (caau) rfl (caau) ⟨G.z ac 0, G.z ac 1, a4⟩ (fun hHeld => ?_); generalize wr.drew = fk at ai ap ac HB a4 hHeld ⊢; refine G.pu 1 26 2 ?_; refine G.pu 2 27 6 ?_; refine G.ta3 0 25 7 ?_; refine G.ta3 3 28 15 ?_; refine one_ (i := 4) (N := some 29) (G.fl 6 31) rfl rfl (caau) (by decide) (fun K hK => ?_); refine G.gs Try.func73 #[.agg #[.int .i64 ab, .slice al aa.length ak], .int .i64 (rd af 0)] ?_; with_reducible refine (spec_l2Next.calls k1 ab _ _ aa (rd af 0) ag _ ?side1 ?side2 eI.out).mono ?_
           (case side1 => exact G.cC (Kd.C_below aE.out HB.out)); (case side2 => exact aJ.out); rintro e eJ ⟨b2, rfl, dk, hb⟩; have ee := (hb.cell (World.block_lt_of_cell? _ _ (hHeld.2.2))).trans (hHeld.2.2); refine ⟨_, rfl, ?_⟩; have n0 := G.rb ai hb; have n1 := G.m (Kd.Q_elder' (caaw) (Kd.R_base dk) hb); have n2 := G.m (Kd.R_lower (Kd.R_new' dk (Kd.Q_lt (caaw))) (below_size (G.cB HB.out))); have n3 := G.bb ac hb; have n4 := G.bs HB hb; clear ai ap ac HB; revert n0 n1 n2 n3 n4; intro ai ap bC ac HB; (try clear hb fm hk hi dk); refine hK.out _ _ ⟨G.z ac 0, G.z ac 1, ee⟩ (fun hHeld => ?_); clear hK K; refine G.no 29 ?_; refine G.pu 5 7 63 ?_; refine done_ (caau) ?_; have n_ := G.m (Kd.Q_mono (ok' := (fun k_ => some k_ ≠ (b2 : Value).ownBlock)) ap.out (fun k_ hk => hk.2)); clear ap; have ap := n_; clear n_; have cE : (1 : Int) ≤ ((af.length : Int) : Int) := of_decide_eq_true (G.asm); obtain ⟨e6, cF, _, cG, _⟩ := info_parts info3; have dl := cut_from (P := Try.prog) 25 3 .i64 Try.underlying25 cF 1 cG (some a_) af.length bY 1 (by omega) cE; have bG := Kd.Q_drop (k := (1 : Int).toNat) ap.out (by omega); obtain ⟨dn, b3⟩ : ∃ A1, A1 = (if bY = (1 : Int).toNat then (some a_) else ((some a_) : Option Addr).map (·.add ((1 : Int).toNat * 1))) := ⟨_, rfl⟩; obtain ⟨cH, ci⟩ : ∃ c1, c1 = bY - (1 : Int).toNat := ⟨_, rfl⟩; have cj : bd.length = af.length - (1 : Int).toNat := (by rw [cD.out, List.length_drop]); rw [← cD.out] at bG; rw [← cj, ← b3, ← ci] at dl; replace bG : Kd.Q (Kd.int .i64) 3 eJ w.heap.size (fun k_ => some k_ ≠ (b2 : Value).ownBlock) (.slice dn bd.length cH) bd := (by rw [b3, ci, cj]; exact bG); have ef : Aside0 ((Value.slice dn bd.length cH).ownBlock = (.slice (some a_) af.length bY : Value).ownBlock) := ⟨by rw [b3]; split <;> (cases ((some a_) : Option Addr) <;> rfl)⟩; clear cj cF cG ap b3 ci; have dL := G.m bG; clear bG; replace cE := eq_true cE; have n_ := G.m (Kd.R_mono (ok' := fun k_ => (True ∧ some k_ ≠ (.slice dn bd.length cH : Value).ownBlock)) bC.out (fun k_ hk => ⟨trivial, (by rw [ef.out]; exact hk.2)⟩)); clear bC; have bC := n_; clear n_; try go_wp2
           go_loopg [6, 8] k1 (fun kq v6 v8 w' => ∃ (ax : List Bool) (aD : List Int) (ae : Int), v8 = .int .i64 ae ∧ Aside0 (spec_WayReach.l1 kq ax aD ag ae ab aa = some r) ∧ Aside0 (kq ≤ k1) ∧ Aside0 (Kd.R Kd.bool 4 w' w.heap.size (fun _ => True) (.slice (some ⟨a7, 0, none⟩) aq.length bQ) ax) ∧ Aside0 (Kd.Q (Kd.int .i64) 3 w' w.heap.size (fun k_ => some k_ ≠ (b2 : Value).ownBlock) v6 aD) ∧ Aside0 (Kd.R (Kd.int .i64) 3 w' w.heap.size (fun k_ => some k_ ≠ (v6 : Value).ownBlock) b2 ag) ∧ Aside0 (w'.heap[aQ]? = some (.cells #[.int .i64 ab, (.slice al aa.length ak)] 30 (0, 0))) ∧ Aside0 (Below w.heap.size w w'))
           case atStart => exact ⟨(aq), (bd), (0), (caat), H', ⟨Nat.le_refl _⟩, ⟨by (try simp only [au]); (with_reducible repeat (first | apply Kd.R_alloc | apply Kd.R_drewN | apply Kd.R_drew)); exact ai.out⟩, ⟨by (try simp only [au]); (with_reducible repeat (first | apply Kd.Q_alloc | apply Kd.Q_drewN | apply Kd.Q_drew)); exact dL.out⟩, ⟨by (try simp only [au]); (with_reducible repeat (first | apply Kd.R_alloc | apply Kd.R_drewN | apply Kd.R_drew)); exact Kd.R_mono bC.out (fun _ hk => hk.2)⟩, ⟨by (try simp only [au]); (with_reducible repeat (first | refine blk_drewN ?_ _ | refine blk_drew ?_ | refine blk_alloc ?_ _)); exact ac.out⟩, ⟨G.cB HB.out⟩⟩
           case round =>
            clear H'; (try clear c1 cy cz dH dI dJ dK cH cE a4 bZ b1); obtain ⟨ax, aD, ae, rfl, HA, bS, ai, ap, ay, ac, HB⟩ := hrel; have aw := (Kd.R_reads' ai.out).1; rw [aw] at ai; (try simp only [aw]); (try simp only [aw] at ac); (try simp only [aw] at ap); (try simp only [aw] at ay); cases gk with
            | zero => exact absurd HA.out (by simp [spec_WayReach.l1])
            | succ k2 =>
             have H := HA.out; clear HA; simp only [spec_WayReach.l1] at H
             by_cases bT : ae < (ag.length : Int)
             ·rw [if_pos bT] at H; have dM : decide (ae < (ag.length : Int)) = true := decide_eq_true bT; clear bT
              by_cases cI : 0 ≤ ae
              ·rw [if_pos cI] at H; have eV : decide (0 ≤ ae) = true := decide_eq_true cI; clear cI
               by_cases cJ : 0 ≤ (rd ag ae)
               ·rw [if_pos cJ] at H; have eW : decide (0 ≤ (rd ag ae)) = true := decide_eq_true cJ; clear cJ
                by_cases cL : (rd ag ae) < (ax.length : Int)
                ·rw [if_pos cL] at H; have eX : decide ((rd ag ae) < (ax.length : Int)) = true := decide_eq_true cL; clear cL; obtain ⟨dp, b4⟩ : ∃ b_ : Bool, b_ = (rdOf false ax (rd ag ae)) := ⟨_, rfl⟩; replace H : (if (dp = true) then (spec_WayReach.l1 k2 ax aD ag (wrap64 (ae + 1)) ab aa) else (if aD.length < 17592186044416 then (spec_WayReach.l1 k2 (ax.set ((rd ag ae) : Int).toNat true) (aD ++ [rd ag ae]) ag (wrap64 (ae + 1)) ab aa) else (none))) = some r := by rw [← b4] at H; exact H
                 have cM := G.m b4; clear b4
                 by_cases cN : (dp = true)
                 ·subst cN; have H1 : (spec_WayReach.l1 k2 ax aD ag (wrap64 (ae + 1)) ab aa) = some r := by rw [if_pos rfl] at H; exact H
                  clear H; have H := H1; clear H1; have H' := G.m H; clear H; obtain ⟨e7, e8, eg⟩ := Kd.R_slice ay.out; subst eg; have bf : 0 ≤ (ae : Int) := of_decide_eq_true (G.asm); have bh : ae < (ag.length : Int) := of_decide_eq_true (G.asm); obtain ⟨bD, ck, cX⟩ := Kd.at_int (Kd.R_reads' ay.out).2.2 ae bf bh; cases ck; replace bf := eq_true bf; replace bh := eq_true bh; have bj : 0 ≤ ((rd ag ae) : Int) := of_decide_eq_true (G.asm); have bk : (rd ag ae) < (ax.length : Int) := of_decide_eq_true (G.asm); obtain ⟨b5, cl, aC⟩ := Kd.at_bool (Kd.R_reads' ai.out).2.2 (rd ag ae) bj bk; (try rw [← cM.out] at aC); obtain rfl : (⟨a7, 0, none⟩ : Addr) = b5 := (by injection cl); (first | simp only [add_plain] at aC | simp only [add_at] at aC | simp only [Addr.add, Nat.zero_add] at aC | skip); replace bj := eq_true bj; replace bk := eq_true bk
                  go_wp2; (try simp only [← aw])
                  go_roundg k2
                  case measure => have := aW.out; have := bS.out; omega
                  case rel => exact ⟨(ax), (aD), (wrap64 (ae + 1)), (caat), H', ⟨by have := aW.out; have := bS.out; omega⟩, ⟨caay⟩, ⟨by (try simp only [au]); (try simp only [aw]); (with_reducible repeat (first | apply Kd.Q_alloc | apply Kd.Q_drewN | apply Kd.Q_drew)); exact ap.out⟩, ⟨by (try simp only [au]); (try simp only [aw]); (with_reducible repeat (first | apply Kd.R_alloc | apply Kd.R_drewN | apply Kd.R_drew)); exact ay.out⟩, ⟨caax⟩, ⟨G.cB HB.out⟩⟩
                 ·replace cN := Bool.eq_false_iff.mpr cN; subst cN; have H1 : (if aD.length < 17592186044416 then (spec_WayReach.l1 k2 (ax.set ((rd ag ae) : Int).toNat true) (aD ++ [rd ag ae]) ag (wrap64 (ae + 1)) ab aa) else (none)) = some r := by rw [if_neg (show ¬ (false = true) by decide)] at H; exact H
                  clear H; have H := H1; clear H1; obtain ⟨b6, bv⟩ : ∃ y_ : List Bool, y_ = (ax.set ((rd ag ae) : Int).toNat true) := ⟨_, rfl⟩; replace H : (if aD.length < 17592186044416 then (spec_WayReach.l1 k2 b6 (aD ++ [rd ag ae]) ag (wrap64 (ae + 1)) ab aa) else (none)) = some r := by first | (rw [bv]; with_reducible exact H) | (have am := (Option.bind_some _ _).symm.trans H; rw [bv]; with_reducible exact am) | (have am := (Option.bind_some _ _).symm.trans H; with_reducible exact am) | with_reducible exact H | (rw [bv]; exact H) | exact H
                  have dN := G.m bv; clear bv
                  by_cases cO : aD.length < 17592186044416
                  ·rw [if_pos cO] at H; have dO := G.m cO; clear cO; obtain ⟨dq, bw⟩ : ∃ y_ : List Int, y_ = (aD ++ [rd ag ae]) := ⟨_, rfl⟩; replace H : (spec_WayReach.l1 k2 b6 dq ag (wrap64 (ae + 1)) ab aa) = some r := by first | (rw [bw]; with_reducible exact H) | (have am := (Option.bind_some _ _).symm.trans H; rw [bw]; with_reducible exact am) | (have am := (Option.bind_some _ _).symm.trans H; with_reducible exact am) | with_reducible exact H | (rw [bw]; exact H) | exact H
                   have dP := G.m bw; clear bw; have H' := G.m H; clear H; obtain ⟨e9, eh, ei⟩ := Kd.R_slice ay.out; subst ei; have bf : 0 ≤ (ae : Int) := of_decide_eq_true (G.asm); have bh : ae < (ag.length : Int) := of_decide_eq_true (G.asm); obtain ⟨bD, ck, cX⟩ := Kd.at_int (Kd.R_reads' ay.out).2.2 ae bf bh; cases ck; replace bf := eq_true bf; replace bh := eq_true bh; have bj : 0 ≤ ((rd ag ae) : Int) := of_decide_eq_true (G.asm); have bk : (rd ag ae) < (ax.length : Int) := of_decide_eq_true (G.asm); obtain ⟨b5, cl, aC⟩ := Kd.at_bool (Kd.R_reads' ai.out).2.2 (rd ag ae) bj bk; (try rw [← cM.out] at aC); obtain rfl : (⟨a7, 0, none⟩ : Addr) = b5 := (by injection cl); (first | simp only [add_plain] at aC | simp only [add_at] at aC | simp only [Addr.add, Nat.zero_add] at aC | skip); replace bj := eq_true bj; replace bk := eq_true bk; have cm : 0 ≤ (ae : Int) := of_decide_eq_true (G.asm); have cn : ae < (ag.length : Int) := of_decide_eq_true (G.asm); obtain ⟨dQ, ej, ew⟩ := Kd.at_int (Kd.R_reads' ay.out).2.2 ae cm cn; obtain rfl : bD = dQ := (by injection ej); replace cm := eq_true cm; replace cn := eq_true cn; have dr : 0 ≤ ((rd ag ae) : Int) := of_decide_eq_true (G.asm); have dt : ((rd ag ae) : Int) < ((ax.length : Int) : Int) := of_decide_eq_true (G.asm); obtain ⟨eK, eL⟩ := Kd.R_celln false ai.out ((rd ag ae) : Int) dr dt; replace dr := eq_true dr; replace dt := eq_true dt; have co := Kd.R_putg ai.out ((rd ag ae) : Int) true
                   go_wp2_with (first | ((with_reducible refine gate_store (t := 4) (p := 51) rfl ?_); refine store_event (t := 4) (p := 51) (v := ?vo_w39) (w1 := (wr.setCell ⟨a7, ((rd ag ae) : Int).toNat, none⟩ (.bool true))) ?hg ?ho ?hn ?hr ?_; (case ho => rfl); (case hg => rfl); (case hn => rfl); (case hr => first | (go_simp; done) | (go_simp; rfl)); intro du hw; have hg : wr.grownBy du (some a7) := (by rw [hw]; exact co.2); have hp_ : Kd.R Kd.bool 4 du w.heap.size (fun _ => True) (.slice (some ⟨a7, 0, none⟩) ax.length bQ) b6 := (by rw [hw, dN.out]; exact co.1); clear co; have n0 := G.m (hp_); have n1 := G.m (Kd.Q_over' (v := (.slice (some ⟨a7, 0, none⟩) ax.length bQ)) (caaw) (Kd.R_typed ai.out) (by decide) hg); have n2 := G.m (Kd.R_over' (v := (.slice (some ⟨a7, 0, none⟩) ax.length bQ)) (G.cR ay.out) (Kd.R_typed ai.out) (by decide) hg); have n3 := G.bg ac hg (Kd.R_ne ai.out ac.out (by decide)); have n4 := G.m ((by rw [hw]; exact below_set (HB.out) dX.out : Below w.heap.size w du)); clear ai ap ay ac HB; revert n0 n1 n2 n3 n4; intro ai ap ay ac HB; clear hg hw hp_; have cp : 0 ≤ (ae : Int) := of_decide_eq_true (G.asm); have cq : ae < (ag.length : Int) := of_decide_eq_true (G.asm); obtain ⟨dR, ek, ex⟩ := Kd.at_int (Kd.R_reads' ay.out).2.2 ae cp cq; obtain rfl : bD = dR := (by injection ek); replace cp := eq_true cp; replace cq := eq_true cq) | ((with_reducible refine gate_builtin (b := .append) (xs := #[.tmp 52, .tmp 57]) rfl ?_); at_builtin; refine Kd.Q_append (Kd.int .i64) (w0 := w) w.heap.size rfl (.tmp 52) (.tmp 57) 25 3 (.int .i64 0) 8 rfl Try.underlying25 info3 rfl (by decide) (by omega) u6 aD (rd ag ae) [.int .i64 (rd ag ae)] (fun k_ => some k_ ≠ (.slice (some bD) ag.length eh : Value).ownBlock) (fun _ => False) rfl rfl ?aP (fun _ hk => hk.elim) ?aF ?aO ?aB ?aS ?aL ?_; (case aP => exact rfl); (case aB => exact (G.cB HB.out)); (case aF => exact (fun k_ hk => Kd.fresh' (Kd.R_lt (G.cR ay.out)) k_ hk)); (case aO => exact (caaw)); (case aS => exact (below_size (G.cB HB.out))); (case aL => have := dO.out; omega); intro fa fo ho hb hg hat; rw [← dP.out] at ho; have n0 := G.m (Kd.R_over' (G.cR ai.out) (Kd.Q_typed (caaw)) (by decide) hg); have n1 := G.m (Kd.R_after (ok := (fun _ => True)) (by (with_reducible repeat (first | apply Kd.R_alloc | apply Kd.R_drewN | apply Kd.R_drew)); exact Kd.R_mono ay.out (fun _ hk => ⟨trivial, hk⟩)) hg hat); have n2 := G.bg ac hg (Kd.Q_ne ap.out ac.out (by decide)); have n3 := G.m (hb); have n4 := G.m (ho); clear ai ay ac HB ap; revert n0 n1 n2 n3 n4; intro ai ay ac HB dS; clear ho hb hg hat))
                   (try simp only [← aw])
                   go_roundg k2
                   case measure => have := aW.out; have := bS.out; omega
                   case rel => exact ⟨(b6), (dq), (wrap64 (ae + 1)), (caat), H', ⟨by have := aW.out; have := bS.out; omega⟩, ⟨caay⟩, ⟨by (try simp only [au]); (try simp only [aw]); (with_reducible repeat (first | apply Kd.Q_alloc | apply Kd.Q_drewN | apply Kd.Q_drew)); exact dS.out⟩, ⟨by (try simp only [au]); (try simp only [aw]); (with_reducible repeat (first | apply Kd.R_alloc | apply Kd.R_drewN | apply Kd.R_drew)); exact Kd.R_mono ay.out (fun _ hk => hk.2)⟩, ⟨caax⟩, ⟨G.cB HB.out⟩⟩
                  ·rw [if_neg cO] at H; exact absurd H (by simp)
                ·rw [if_neg cL] at H; exact absurd H (by simp)
               ·rw [if_neg cJ] at H; exact absurd H (by simp)
              ·rw [if_neg cI] at H; exact absurd H (by simp)
             ·rw [if_neg bT] at H; have dM : decide (ae < (ag.length : Int)) = false := decide_eq_false bT; clear bT; have H' := G.m H; clear H; obtain ⟨fb, fc, el⟩ := Kd.R_slice ay.out; subst el
              go_wp2; (try simp only [← au, ← aw])
              go_roundg k2
              case measure => have := aW.out; have := bS.out; omega
              case rel => exact ⟨(ax), (aD), H', ⟨by have := aW.out; have := bS.out; omega⟩, ⟨caay⟩, ⟨by (try simp only [au]); (try simp only [aw]); (with_reducible repeat (first | apply Kd.Q_alloc | apply Kd.Q_drewN | apply Kd.Q_drew)); exact Kd.Q_mono ap.out (fun _ hk => trivial)⟩, ⟨caax⟩, ⟨G.cB HB.out⟩⟩
          ·rw [if_neg ca] at H; exact absurd H (by simp)
         ·rw [if_neg cA] at H; exact absurd H (by simp)
        ·rw [if_neg bR] at H; have cy : decide (0 < (af.length : Int)) = false := decide_eq_false bR; have cz : decide (0 < af.length) = false := decide_eq_false (by omega); clear bR; obtain rfl := Option.some.inj H; obtain ⟨fd, fe, em, _⟩ := Kd.Q_slice ap.out; subst em
         go_wp2
         go_ret
         exact ⟨_, by first | rfl | (simp [errW_none, errW_some] <;> rfl) | (simp [*, errW_none, errW_some] <;> rfl), G.cR ai.out, G.cB HB.out⟩
     ·rw [if_neg c8] at H; exact absurd H (by simp)
    ·rw [if_neg c7] at H; exact absurd H (by simp)
   ·rw [if_neg c6] at H; exact absurd H (by simp)
  ·rw [if_neg c5] at H; exact absurd H (by simp)
 ·replace c4 := Bool.eq_false_iff.mpr c4; subst c4; have H1 : (some (([] : List Bool))) = some r := by rw [if_neg (show ¬ (false = true) by decide)] at H; exact H
  clear H; have H := H1; clear H1; obtain ⟨en, bx⟩ : ∃ y_ : List Bool, y_ = (([] : List Bool)) := ⟨_, rfl⟩; replace H : (some en) = some r := by first | (rw [bx]; with_reducible exact H) | (have am := (Option.bind_some _ _).symm.trans H; rw [bx]; with_reducible exact am) | (have am := (Option.bind_some _ _).symm.trans H; with_reducible exact am) | with_reducible exact H | (rw [bx]; exact H) | exact H
  have cP := G.m bx; clear bx; obtain rfl := Option.some.inj H
  go_enter Try.func56, Try.ntmps56
  go_wp2_with (first | ((with_reducible refine G.h 2 rfl ?_); refine G.be 2 #[.int .i64 ab, .slice al aa.length ak] 30 ?_; intro aQ hg eM hbox hb; have n0 := G.bs HB hb; have n1 := G.m (hbox); have n2 := G.m (caas : w.heap.size ≤ aQ); have n3 := G.m (caas : w.heap.size ≤ aQ); clear HB; revert n0 n1 n2 n3; intro HB ac dD dE; clear hb hbox hg; have ⟨ey, ez, eA, eB⟩ := G.d2 (w := eM) ac) | ((with_reducible refine G.f 71 rfl ?_); refine G.gL 11 Try.func71 #[.agg #[.int .i64 ab, .slice al aa.length ak], .int .i64 a1] ?_; (with_reducible refine (spec_l1Knot.calls k ab _ _ aa a1 false _ ?side1 ?side2 A3.out).mono ?_); (case side1 => exact G.cC (Kd.C_below aE.out HB.out)); (case side2 => exact aJ.out); rintro e fp ⟨rfl, hb⟩; refine ⟨_, rfl, ?_⟩; have n0 := G.bb ac hb; have n1 := G.bs HB hb; clear ac HB; revert n0 n1; intro ac HB; (try clear hb)) | ((with_reducible refine G.h 13 rfl ?_); refine Kd.R_lit Kd.bool _ 4 ?hg (N := 13) ?hd (xs := ([] : List Bool)) (inner := []) (ok := fun _ => True) (okp := fun _ => True) ?hr ?hp (fun _ hk => hk) trivial (Below.refl _ _) (Nat.le_refl _) (by simp) ?_; (case hd => rfl); (case hg => rfl); (case hr => first | (go_simp; done) | (go_simp; rfl)); (case hp => exact (Reps.none _ _)); intro ff fq bH hb hg_ hnew_; clear hg_ hnew_; (first | rw [← cP.out] at bH | (simp only [Int.reduceToNat] at bH; rw [← cP.out] at bH)); have n0 := G.m (Kd.R_lower bH (below_size (G.cB HB.out))); have n1 := G.bb ac hb; have n2 := G.bs HB hb; clear ac HB; revert n0 n1 n2; intro dT ac HB; clear hb bH))
  go_ret
  exact ⟨_, by first | rfl | (simp [errW_none, errW_some] <;> rfl) | (simp [*, errW_none, errW_some] <;> rfl), G.cR dT.out, G.cB HB.out⟩
theorem caaC {p : Prop} (h : p := by (with_reducible repeat (first | refine blk_drewN ?_ _ | refine blk_drew ?_ | refine blk_alloc ?_ _)); refine blk_put (cs := #[.int .i64 ((rd_T53 aa ab).f0), .int .i64 0]) ?_ 1 _ rfl; (with_reducible repeat (first | refine blk_drewN ?_ _ | refine blk_drew ?_ | refine blk_alloc ?_ _)); refine blk_put (cs := #[.int .i64 0, .int .i64 0]) ?_ 0 _ rfl; (with_reducible repeat (first | refine blk_drewN ?_ _ | refine blk_drew ?_ | refine blk_alloc ?_ _)); exact aj.out) : p := h
theorem caaD {p : Prop} (h : p := by (with_reducible repeat (first | refine blk_drewN ?_ _ | refine blk_drew ?_ | refine blk_alloc ?_ _)); refine blk_far ?_ aM.out _; (with_reducible repeat (first | refine blk_drewN ?_ _ | refine blk_drew ?_ | refine blk_alloc ?_ _)); refine blk_far ?_ aM.out _; (with_reducible repeat (first | refine blk_drewN ?_ _ | refine blk_drew ?_ | refine blk_alloc ?_ _)); exact af.out) : p := h
theorem caaE {p : Prop} (h : p := by (with_reducible repeat (first | apply Kd.R_alloc | apply Kd.R_drewN | apply Kd.R_drew)); exact Kd.R_mono (Kd.R_far (p := ⟨ai, 1, none⟩) (Kd.R_far (p := ⟨ai, 0, none⟩) (Kd.R_types ac.out aj.out (by decide)) (fun _ hk => hk.2) (.int .i64 ((rd_T53 aa ab).f0))) (fun _ hk => hk.2) (.int .i64 ((rd_T53 aa ab).f1))) (fun _ hk => trivial)) : p := h
theorem caaF {p : Prop} (h : p := by rw [hg]; exact Nat.ne_of_lt (blk_lt (g := au) (o := .cells #[.int .i64 ag, .slice (some bv) aa.length am] 30 (0, 0)) (G.cb af.out))) : p := h
theorem caaG {p : Prop} (h : p := by rw [hg]; exact Nat.ne_of_gt (blk_lt (g := au) (o := .cells #[.int .i64 ag, .slice (some bv) aa.length am] 30 (0, 0)) (G.cb af.out))) : p := h
theorem caaz {p : Prop} (h : p := by first | rfl | (simp; done) | (simp [*]; done)) : p := h
theorem caaA {p : Prop} (h : p := by rw [hg]; exact (below_size (G.cB HB.out))) : p := h
theorem caaB {p : Prop} (h : p := by kernel_rfl) : p := h
def spec_TreeOf.l0 : Nat → List (S53) → Int → Int → List (S53) → Option ((List (S53)))
 | 0, _, _, _, _ => none
 | k + 1, x3, x4, bI, av => if x4 < (av.length : Int) then (if 0 ≤ x4 then ((spec_WayReach.f k bI x3 ((rd_T53 av x4).f0)).bind fun aQ => (if 0 ≤ ((rd_T53 av x4).f1) then (if ((rd_T53 av x4).f1) < (aQ.length : Int) then (if (rdOf false aQ ((rd_T53 av x4).f1) = true) then (spec_TreeOf.l0 k x3 (wrap64 (x4 + 1)) bI av) else (if x3.length < 8796093022208 then (spec_TreeOf.l0 k (x3 ++ [(⟨(rd_T53 av x4).f0, (rd_T53 av x4).f1⟩ : S53)]) (wrap64 (x4 + 1)) bI av) else (none))) else (none)) else (none))) else (none)) else (some x3)
def spec_TreeOf.f (k : Nat) (ag : Int) (aa : List (S53)) : Option ((List (S53))) := (some (([] : List (S53)) : List (S53))).bind fun aD => ((spec_NetOk.f k ag aa).bind fun a4 => (if a4 = true then (spec_TreeOf.l0 k aD 0 ag aa) else (some aD)))
def spec_TreeOf.T7 : Bool × List (List Nat × List Nat) := (true, [([], []), ([0], [0]), ([], []), ([1, 2], [1, 2]), ([], []), ([4], [4]), ([], []), ([5, 6], [5, 6]), ([7], [7]), ([8], [8]), ([3, 9], [3, 9]), ([10, 10, 0, 1, 2, 3, 4, 5, 6, 7, 8, 9, 10], [10])])
def spec_TreeOf.B7 : List Nat := [0, 1, 0, 7, 0, 16, 0, 112, 240, 496, 1023, 2047]
theorem spec_TreeOf.tab7 : rtab .any (opsOf Try.f31 7) = spec_TreeOf.T7 := by kernel_rfl
theorem spec_TreeOf.bits7 : waitsOk spec_TreeOf.T7.2 spec_TreeOf.B7 = true := by kernel_rfl
set_option maxHeartbeats 8000000 in
set_option maxRecDepth 100000 in
theorem spec_TreeOf.calls (k : Nat) (ag : Int) (aA : Option Addr) (am : Nat) (aa : List (S53)) (r : List (S53)) (w : World) (bw : Kd.C k53 w aA aa.length aa) (bx : aa.length ≤ am) (h : spec_TreeOf.f k ag aa = some r) :
  Calls Try.prog 31 #[.agg #[.int .i64 ag, .slice aA aa.length am]] w fun e w' => ∃ b9 : Value, e = .returned (b9) ∧ Kd.R k53 53 w' w.heap.size (fun _ => True) b9 r ∧ Below w.heap.size w w' := by
 have dU := Try.underlying30; have dV := Try.underlying53; have aJ := G.m bw; have b1 := G.m bx; clear bw bx; have HB := G.m (Below.refl w.heap.size w); have H : ((some (([] : List (S53)) : List (S53))).bind fun aD => ((spec_NetOk.f k ag aa).bind fun a4 => (if a4 = true then (spec_TreeOf.l0 k aD 0 ag aa) else (some aD)))) = some r := h; clear h; obtain ⟨aD, bz⟩ : ∃ y_ : List (S53), y_ = (([] : List (S53))) := ⟨_, rfl⟩; replace H : ((spec_NetOk.f k ag aa).bind fun a4 => (if a4 = true then (spec_TreeOf.l0 k aD 0 ag aa) else (some aD))) = some r := by first | (rw [bz]; with_reducible exact H) | (have aq := (Option.bind_some _ _).symm.trans H; rw [bz]; with_reducible exact aq) | (have aq := (Option.bind_some _ _).symm.trans H; with_reducible exact aq) | with_reducible exact H | (rw [bz]; exact H) | exact H
 have bM := G.m bz; clear bz; obtain ⟨a4, A2, H⟩ := G.bi H; replace H : (if a4 = true then (spec_TreeOf.l0 k aD 0 ag aa) else (some aD)) = some r := H
 by_cases c3 : a4 = true
 ·subst c3; have H1 : (spec_TreeOf.l0 k aD 0 ag aa) = some r := by rw [if_pos rfl] at H; exact H
  clear H; have H := H1; clear H1; have H' := G.m H; clear H
  go_enter Try.func31, Try.ntmps31
  go_wp2_with (first | ((with_reducible refine G.h 1 rfl ?_); refine G.be 1 #[.int .i64 ag, .slice aA aa.length am] 30 ?_; intro aK hg w4 hbox hb; have n0 := G.bs HB hb; have n1 := G.m (hbox); have n2 := G.m (caaA : w.heap.size ≤ aK); have n3 := G.m (caaA : w.heap.size ≤ aK); clear HB; revert n0 n1 n2 n3; intro HB ah dw dx; clear hb hbox hg) | ((with_reducible refine G.h 6 rfl ?_); refine Kd.R_lit k53 _ 53 ?hg (N := 6) ?hd (xs := ([] : List (S53))) (inner := []) (ok := fun _ => True) (okp := fun _ => True) ?hr ?hp (fun _ hk => hk) trivial (Below.refl _ _) (Nat.le_refl _) (by simp) ?_; (case hd => rfl); (case hg => rfl); (case hr => first | (go_simp; done) | (go_simp; rfl)); (case hp => exact (Reps.none _ _)); intro dW w5 ca hb hg_ hnew_; clear hg_ hnew_; (first | rw [← bM.out] at ca | (simp only [Int.reduceToNat] at ca; rw [← bM.out] at ca)); have n0 := G.m (Kd.R_lower ca (below_size (G.cB HB.out))); have n1 := G.bb ah hb; have n2 := G.bs HB hb; clear ah HB; revert n0 n1 n2; intro aR ah HB; clear hb ca; have ⟨cL, cM, cN, cO⟩ := G.d2 (w := w5) ah) | ((with_reducible refine G.f 32 rfl ?_); refine G.gL 8 Try.func32 #[.agg #[.int .i64 ag, .slice aA aa.length am]] ?_; (with_reducible refine (spec_NetOk.calls k ag _ _ aa true _ ?side1 ?side2 A2.out).mono ?_); (case side1 => exact G.cC (Kd.C_below aJ.out HB.out)); (case side2 => exact b1.out); rintro e w8 ⟨rfl, hb⟩; refine ⟨_, rfl, ?_⟩; have n0 := G.rb aR hb; have n1 := G.bb ah hb; have n2 := G.bs HB hb; clear aR ah HB; revert n0 n1 n2; intro aR ah HB; (try clear hb)))
  go_loopg [3, 4] k (fun kq v3 v4 w' => ∃ (al : List (S53)) (ae : Int), v4 = .int .i64 ae ∧ Aside0 (spec_TreeOf.l0 kq al ae ag aa = some r) ∧ Aside0 (kq ≤ k) ∧ Aside0 (Kd.R k53 53 w' w.heap.size (fun _ => True) v3 al) ∧ Aside0 (w'.heap[aK]? = some (.cells #[.int .i64 ag, (.slice aA aa.length am)] 30 (0, 0))) ∧ Aside0 (Below w.heap.size w w'))
  case atStart => exact ⟨(aD), (0), (caaz), H', ⟨Nat.le_refl _⟩, ⟨G.cR aR.out⟩, ⟨G.cb ah.out⟩, ⟨G.cB HB.out⟩⟩
  case round =>
   clear H'; (try clear c3 cL cM cN cO); obtain ⟨al, ae, rfl, HA, aV, ac, ah, HB⟩ := hrel; cases gk with
   | zero => exact absurd HA.out (by simp [spec_TreeOf.l0])
   | succ k1 =>
    have H := HA.out; clear HA; simp only [spec_TreeOf.l0] at H
    by_cases c9 : ae < (aa.length : Int)
    ·rw [if_pos c9] at H; have dX : decide (ae < (aa.length : Int)) = true := decide_eq_true c9; clear c9
     by_cases c10 : 0 ≤ ae
     ·rw [if_pos c10] at H; have eQ : decide (0 ≤ ae) = true := decide_eq_true c10; clear c10; obtain ⟨aQ, dP, H⟩ := G.bi H; replace H : (if 0 ≤ ((rd_T53 aa ae).f1) then (if ((rd_T53 aa ae).f1) < (aQ.length : Int) then (if (rdOf false aQ ((rd_T53 aa ae).f1) = true) then (spec_TreeOf.l0 k1 al (wrap64 (ae + 1)) ag aa) else (if al.length < 8796093022208 then (spec_TreeOf.l0 k1 (al ++ [(⟨(rd_T53 aa ae).f0, (rd_T53 aa ae).f1⟩ : S53)]) (wrap64 (ae + 1)) ag aa) else (none))) else (none)) else (none)) = some r := H
      by_cases bA : 0 ≤ ((rd_T53 aa ae).f1)
      ·rw [if_pos bA] at H; have dy : decide (0 ≤ ((rd_T53 aa ae).f1)) = true := decide_eq_true bA; clear bA
       by_cases bB : ((rd_T53 aa ae).f1) < (aQ.length : Int)
       ·rw [if_pos bB] at H; have dz : decide (((rd_T53 aa ae).f1) < (aQ.length : Int)) = true := decide_eq_true bB; clear bB; obtain ⟨cP, b2⟩ : ∃ b_ : Bool, b_ = (rdOf false aQ ((rd_T53 aa ae).f1)) := ⟨_, rfl⟩; replace H : (if (cP = true) then (spec_TreeOf.l0 k1 al (wrap64 (ae + 1)) ag aa) else (if al.length < 8796093022208 then (spec_TreeOf.l0 k1 (al ++ [(⟨(rd_T53 aa ae).f0, (rd_T53 aa ae).f1⟩ : S53)]) (wrap64 (ae + 1)) ag aa) else (none))) = some r := by rw [← b2] at H; exact H
        have cx := G.m b2; clear b2
        by_cases bC : (cP = true)
        ·subst bC; have H1 : (spec_TreeOf.l0 k1 al (wrap64 (ae + 1)) ag aa) = some r := by rw [if_pos rfl] at H; exact H
         clear H; have H := H1; clear H1; have H' := G.m H; clear H; have ⟨ed, ee, ef, eg⟩ := G.d2 (w := wr) ah; try go_wp2
         have n0 := G.m (Kd.R_drew ac.out); have n1 := G.m (blk_drew ah.out); have n2 := G.m (below_drew1 HB.out); clear ac ah HB; revert n0 n1 n2; intro ac ah HB; obtain ⟨dY, dZ, cQ⟩ := Kd.R_slice ac.out; (first | subst cQ | (injection cQ with a6 bN a7; have bO := a6.symm; have bP := a7.symm; clear a6 bN a7; subst bO; subst bP)); have a_ : 0 ≤ (ae : Int) := of_decide_eq_true (G.asm); have ba : ae < (aa.length : Int) := of_decide_eq_true (G.asm); obtain ⟨ay, ch, aw, ax⟩ := at_T53 aJ.out ae a_ ba; have aW := ax; have aX := aw; cases ch; replace aw := G.hx HB aw; replace ax := G.hx HB ax; replace a_ := eq_true a_; replace ba := eq_true ba; refine G.st 12 (S := fun w' => w'.cell? ⟨aK, 0, none⟩ = some (.int .i64 ag) ∧ w'.cell? ⟨aK, 1, none⟩ = some (.slice (some ay) aa.length am) ∧ w'.cell? (ay.add ((ae).toNat * 2)) = some (.int .i64 ((rd_T53 aa ae).f0)) ∧ w'.cell? ⟨(ay.add ((ae).toNat * 2)).block, (ay.add ((ae).toNat * 2)).off + 1, none⟩ = some (.int .i64 ((rd_T53 aa ae).f1))) [] ⟨G.z ah 0, G.z ah 1, (G.hx HB aX), (G.hx HB aW)⟩ spec_TreeOf.tab7 spec_TreeOf.bits7 (fun hHeld HT_ HW_ => ?_); generalize wr.drew = fe at ac ah HB aw ax hHeld ⊢; refine G.pu 0 18 1 ?_; refine G.pu 2 20 5 ?_; refine G.pu 4 22 21 ?_; refine G.pu 6 24 85 ?_; refine G.ta4 1 19 87 ?_; refine G.pu 3 21 95 ?_; refine G.ta4 5 23 127 ?_; refine G.pu 7 25 255 ?_; refine G.pu 8 26 511 ?_; refine G.ta4 9 27 1023 ?_; refine G.on 10 28 2047 (fun K hK => ?_); refine G.gs Try.func56 #[.agg #[.int .i64 ag, .slice dY al.length dZ], .int .i64 ((rd_T53 aa ae).f0)] ?_; with_reducible refine (spec_WayReach.calls k1 ag _ _ al ((rd_T53 aa ae).f0) aQ _ ?side1 ?side2 dP.out).mono ?_
         (case side1 => exact G.cC (Kd.R_reads' ac.out).2.2); (case side2 => exact (Kd.R_reads' ac.out).2.1); rintro e eJ ⟨d7, rfl, cd, hb⟩; refine ⟨_, rfl, ?_⟩; have n0 := G.rb ac hb; have n1 := G.m (Kd.R_lower cd (below_size (G.cB HB.out))); have n2 := G.bb ah hb; have n3 := G.bs HB hb; clear ac ah HB; revert n0 n1 n2 n3; intro ac aU ah HB; (try clear hb eK hk hi cd); refine hK.out _ _ ⟨G.z ah 0, G.z ah 1, (G.hx HB aX), (G.hx HB aW)⟩ (fun hHeld => ?_); clear hK K; refine G.no 28 ?_; refine G.pu 11 5 4095 ?_; refine done_ (done_of HT_.out (caaB)) ?_; have ⟨eh, ei, ej, ek⟩ := G.d2 (w := eJ) ah; have bc : 0 ≤ (ae : Int) := of_decide_eq_true (G.asm); have bd : ae < (aa.length : Int) := of_decide_eq_true (G.asm); obtain ⟨b3, ci, aY, aZ⟩ := at_T53 aJ.out ae bc bd; obtain rfl : ay = b3 := (by injection ci); replace aY := G.hx HB aY; replace aZ := G.hx HB aZ; replace bc := eq_true bc; replace bd := eq_true bd; obtain ⟨e2, e3, d8⟩ := Kd.R_slice aU.out; subst d8; have bf : 0 ≤ (((rd_T53 aa ae).f1) : Int) := of_decide_eq_true (G.asm); have bh : ((rd_T53 aa ae).f1) < (aQ.length : Int) := of_decide_eq_true (G.asm); obtain ⟨dA, cj, bJ⟩ := Kd.at_bool (Kd.R_reads' aU.out).2.2 ((rd_T53 aa ae).f1) bf bh; (try rw [← cx.out] at bJ); cases cj; replace bf := eq_true bf; replace bh := eq_true bh; try go_wp2
         go_roundg k1
         case measure => have := aV.out; omega
         case rel => exact ⟨(al), (wrap64 (ae + 1)), (caaz), H', ⟨by have := aV.out; omega⟩, ⟨G.cR ac.out⟩, ⟨G.cb ah.out⟩, ⟨G.cB HB.out⟩⟩
        ·replace bC := Bool.eq_false_iff.mpr bC; subst bC; have H1 : (if al.length < 8796093022208 then (spec_TreeOf.l0 k1 (al ++ [(⟨(rd_T53 aa ae).f0, (rd_T53 aa ae).f1⟩ : S53)]) (wrap64 (ae + 1)) ag aa) else (none)) = some r := by rw [if_neg (show ¬ (false = true) by decide)] at H; exact H
         clear H; have H := H1; clear H1
         by_cases cy : al.length < 8796093022208
         ·rw [if_pos cy] at H; have dB := G.m cy; clear cy; obtain ⟨cS, bD⟩ : ∃ y_ : List (S53), y_ = (al ++ [(⟨(rd_T53 aa ae).f0, (rd_T53 aa ae).f1⟩ : S53)]) := ⟨_, rfl⟩; replace H : (spec_TreeOf.l0 k1 cS (wrap64 (ae + 1)) ag aa) = some r := by first | (rw [bD]; with_reducible exact H) | (have aq := (Option.bind_some _ _).symm.trans H; rw [bD]; with_reducible exact aq) | (have aq := (Option.bind_some _ _).symm.trans H; with_reducible exact aq) | with_reducible exact H | (rw [bD]; exact H) | exact H
          have dC := G.m bD; clear bD; have H' := G.m H; clear H; have ⟨el, em, en, eo⟩ := G.d2 (w := wr) ah; try go_wp2
          have n0 := G.m (Kd.R_drew ac.out); have n1 := G.m (blk_drew ah.out); have n2 := G.m (below_drew1 HB.out); clear ac ah HB; revert n0 n1 n2; intro ac ah HB; obtain ⟨ck, cl, bQ⟩ := Kd.R_slice ac.out; (first | subst bQ | (injection bQ with a6 bN a7; have bO := a6.symm; have bP := a7.symm; clear a6 bN a7; subst bO; subst bP)); have a_ : 0 ≤ (ae : Int) := of_decide_eq_true (G.asm); have ba : ae < (aa.length : Int) := of_decide_eq_true (G.asm); obtain ⟨ay, ch, aw, ax⟩ := at_T53 aJ.out ae a_ ba; have aW := ax; have aX := aw; cases ch; replace aw := G.hx HB aw; replace ax := G.hx HB ax; replace a_ := eq_true a_; replace ba := eq_true ba; refine G.st 12 (S := fun w' => w'.cell? ⟨aK, 0, none⟩ = some (.int .i64 ag) ∧ w'.cell? ⟨aK, 1, none⟩ = some (.slice (some ay) aa.length am) ∧ w'.cell? (ay.add ((ae).toNat * 2)) = some (.int .i64 ((rd_T53 aa ae).f0)) ∧ w'.cell? ⟨(ay.add ((ae).toNat * 2)).block, (ay.add ((ae).toNat * 2)).off + 1, none⟩ = some (.int .i64 ((rd_T53 aa ae).f1))) [] ⟨G.z ah 0, G.z ah 1, (G.hx HB aX), (G.hx HB aW)⟩ spec_TreeOf.tab7 spec_TreeOf.bits7 (fun hHeld HT_ HW_ => ?_); generalize wr.drew = dQ at ac ah HB aw ax hHeld ⊢; refine G.pu 0 18 1 ?_; refine G.pu 2 20 5 ?_; refine G.pu 4 22 21 ?_; refine G.pu 6 24 85 ?_; refine G.ta4 1 19 87 ?_; refine G.pu 3 21 95 ?_; refine G.ta4 5 23 127 ?_; refine G.pu 7 25 255 ?_; refine G.pu 8 26 511 ?_; refine G.ta4 9 27 1023 ?_; refine G.on 10 28 2047 (fun K hK => ?_); refine G.gs Try.func56 #[.agg #[.int .i64 ag, .slice ck al.length cl], .int .i64 ((rd_T53 aa ae).f0)] ?_; with_reducible refine (spec_WayReach.calls k1 ag _ _ al ((rd_T53 aa ae).f0) aQ _ ?side1 ?side2 dP.out).mono ?_
          (case side1 => exact G.cC (Kd.R_reads' ac.out).2.2); (case side2 => exact (Kd.R_reads' ac.out).2.1); rintro e dR ⟨d7, rfl, cd, hb⟩; refine ⟨_, rfl, ?_⟩; have n0 := G.rb ac hb; have n1 := G.m (Kd.R_lower cd (below_size (G.cB HB.out))); have n2 := G.bb ah hb; have n3 := G.bs HB hb; clear ac ah HB; revert n0 n1 n2 n3; intro ac aU ah HB; (try clear hb eK hk hi cd); refine hK.out _ _ ⟨G.z ah 0, G.z ah 1, (G.hx HB aX), (G.hx HB aW)⟩ (fun hHeld => ?_); clear hK K; refine G.no 28 ?_; refine G.pu 11 5 4095 ?_; refine done_ (done_of HT_.out (caaB)) ?_; have ⟨ep, eq, er, es⟩ := G.d2 (w := dR) ah; have bc : 0 ≤ (ae : Int) := of_decide_eq_true (G.asm); have bd : ae < (aa.length : Int) := of_decide_eq_true (G.asm); obtain ⟨b3, ci, aY, aZ⟩ := at_T53 aJ.out ae bc bd; obtain rfl : ay = b3 := (by injection ci); replace aY := G.hx HB aY; replace aZ := G.hx HB aZ; replace bc := eq_true bc; replace bd := eq_true bd; obtain ⟨e4, e5, d9⟩ := Kd.R_slice aU.out; subst d9; have bf : 0 ≤ (((rd_T53 aa ae).f1) : Int) := of_decide_eq_true (G.asm); have bh : ((rd_T53 aa ae).f1) < (aQ.length : Int) := of_decide_eq_true (G.asm); obtain ⟨dA, cj, bJ⟩ := Kd.at_bool (Kd.R_reads' aU.out).2.2 ((rd_T53 aa ae).f1) bf bh; (try rw [← cx.out] at bJ); cases cj; replace bf := eq_true bf; replace bh := eq_true bh; have cm : 0 ≤ (ae : Int) := of_decide_eq_true (G.asm); have cn : ae < (aa.length : Int) := of_decide_eq_true (G.asm); obtain ⟨dD, d_, bU, bV⟩ := at_T53 aJ.out ae cm cn; obtain rfl : ay = dD := (by injection d_); replace bU := G.hx HB bU; replace bV := G.hx HB bV; replace cm := eq_true cm; replace cn := eq_true cn; try go_wp2_with (first | ((with_reducible refine gate_builtin (b := .append) (xs := #[.tmp 39, .tmp 45]) rfl ?_); at_builtin; refine Kd.R_append k53 (w0 := w) w.heap.size rfl (.tmp 39) (.tmp 45) 28 53 (.agg #[(.int .i64 0), (.int .i64 0)]) 16 rfl Try.underlying28 info53 rfl (by decide) (by omega) (.slice ck al.length cl) al (⟨(rd_T53 aa ae).f0, (rd_T53 aa ae).f1⟩ : S53) [.int .i64 ((rd_T53 aa ae).f0), .int .i64 ((rd_T53 aa ae).f1)] (fun _ => True) (fun _ => False) rfl rfl ?aP (fun _ hk => hk.elim) ?aF ?aO ?aB ?aS ?aL ?_; (case aP => exact k53_mkM _ _ _ (⟨(rd_T53 aa ae).f0, (rd_T53 aa ae).f1⟩ : S53)); (case aB => exact (G.cB HB.out)); (case aF => exact (fun _ _ => trivial)); (case aO => exact (G.cR ac.out)); (case aS => exact (below_size (G.cB HB.out))); (case aL => have := dB.out; omega); intro e6 bR ho hb hg hat; rw [← dC.out] at ho; have n0 := G.bg ah hg (Kd.R_ne ac.out ah.out (by decide)); have n1 := G.m (Kd.R_over' (G.cR aU.out) (Kd.R_typed (G.cR ac.out)) (by decide) hg); have n2 := G.m (hb); have n3 := G.m (ho); clear ah aU HB ac; revert n0 n1 n2 n3; intro ah aU HB dE; clear ho hb hg hat))
          go_roundg k1
          case measure => have := aV.out; omega
          case rel => exact ⟨(cS), (wrap64 (ae + 1)), (caaz), H', ⟨by have := aV.out; omega⟩, ⟨G.cR dE.out⟩, ⟨G.cb ah.out⟩, ⟨G.cB HB.out⟩⟩
         ·rw [if_neg cy] at H; exact absurd H (by simp)
       ·rw [if_neg bB] at H; exact absurd H (by simp)
      ·rw [if_neg bA] at H; exact absurd H (by simp)
     ·rw [if_neg c10] at H; exact absurd H (by simp)
    ·rw [if_neg c9] at H; have dX : decide (ae < (aa.length : Int)) = false := decide_eq_false c9; clear c9; obtain rfl := Option.some.inj H; have ⟨et, eu, ev, ew⟩ := G.d2 (w := wr) ah
     go_wp2
     go_ret
     exact ⟨_, by first | rfl | (simp [errW_none, errW_some] <;> rfl) | (simp [*, errW_none, errW_some] <;> rfl), G.cR ac.out, G.cB HB.out⟩
 ·replace c3 := Bool.eq_false_iff.mpr c3; subst c3; have H1 : (some aD) = some r := by rw [if_neg (show ¬ (false = true) by decide)] at H; exact H
  clear H; have H := H1; clear H1; obtain rfl := Option.some.inj H
  go_enter Try.func31, Try.ntmps31
  go_wp2_with (first | ((with_reducible refine G.h 1 rfl ?_); refine G.be 1 #[.int .i64 ag, .slice aA aa.length am] 30 ?_; intro aK hg ff hbox hb; have n0 := G.bs HB hb; have n1 := G.m (hbox); have n2 := G.m (caaA : w.heap.size ≤ aK); have n3 := G.m (caaA : w.heap.size ≤ aK); clear HB; revert n0 n1 n2 n3; intro HB ah dw dx; clear hb hbox hg) | ((with_reducible refine G.h 6 rfl ?_); refine Kd.R_lit k53 _ 53 ?hg (N := 6) ?hd (xs := ([] : List (S53))) (inner := []) (ok := fun _ => True) (okp := fun _ => True) ?hr ?hp (fun _ hk => hk) trivial (Below.refl _ _) (Nat.le_refl _) (by simp) ?_; (case hd => rfl); (case hg => rfl); (case hr => first | (go_simp; done) | (go_simp; rfl)); (case hp => exact (Reps.none _ _)); intro dW cT bS hb hg_ hnew_; clear hg_ hnew_; (first | rw [← bM.out] at bS | (simp only [Int.reduceToNat] at bS; rw [← bM.out] at bS)); have n0 := G.m (Kd.R_lower bS (below_size (G.cB HB.out))); have n1 := G.bb ah hb; have n2 := G.bs HB hb; clear ah HB; revert n0 n1 n2; intro aR ah HB; clear hb bS; have ⟨ex, ey, ez, eA⟩ := G.d2 (w := cT) ah) | ((with_reducible refine G.f 32 rfl ?_); refine G.gL 8 Try.func32 #[.agg #[.int .i64 ag, .slice aA aa.length am]] ?_; (with_reducible refine (spec_NetOk.calls k ag _ _ aa false _ ?side1 ?side2 A2.out).mono ?_); (case side1 => exact G.cC (Kd.C_below aJ.out HB.out)); (case side2 => exact b1.out); rintro e dS ⟨rfl, hb⟩; refine ⟨_, rfl, ?_⟩; have n0 := G.rb aR hb; have n1 := G.bb ah hb; have n2 := G.bs HB hb; clear aR ah HB; revert n0 n1 n2; intro aR ah HB; (try clear hb)))
  go_ret
  exact ⟨_, by first | rfl | (simp [errW_none, errW_some] <;> rfl) | (simp [*, errW_none, errW_some] <;> rfl), G.cR aR.out, G.cB HB.out⟩
mutual
def impl_Net_parts.l0 : Nat → List Int → Int → Int → Int → List (S53) → Option (List Int)
 | 0, _, _, _, _, _ => none
 | k + 1, x3, dT, cU, az, ap => if cU < dT then (if x3.length < 17592186044416 then (impl_Net_parts.l0 k (x3 ++ [cU]) dT (wrap64 (cU + 1)) az ap) else (none)) else (impl_Net_parts.l1 k x3 true az ap)
def impl_Net_parts.l1 : Nat → List Int → Bool → Int → List (S53) → Option (List Int)
 | 0, _, _, _, _ => none
 | k + 1, x3, x5, az, ap => if x5 = true then (impl_Net_parts.l2 k x3 false ap (ap.length : Int) 0 az ap) else (some x3)
def impl_Net_parts.l2 : Nat → List Int → Bool → List (S53) → Int → Int → Int → List (S53) → Option (List Int)
 | 0, _, _, _, _, _, _, _ => none
 | k + 1, x3, x5, aT, cW, aN, az, ap => if aN < cW then (if 0 ≤ aN then (if aN < (aT.length : Int) then (if 0 ≤ ((rd_T53 aT aN).f0) then (if ((rd_T53 aT aN).f0) < (x3.length : Int) then (if 0 ≤ ((rd_T53 aT aN).f1) then (if ((rd_T53 aT aN).f1) < (x3.length : Int) then (if (rd x3 ((rd_T53 aT aN).f0)) = (rd x3 ((rd_T53 aT aN).f1)) then (impl_Net_parts.l2 k x3 x5 aT cW (wrap64 (aN + 1)) az ap) else (impl_Net_parts.l2 k ((x3.set (((rd_T53 aT aN).f0) : Int).toNat (mn (rd x3 ((rd_T53 aT aN).f0)) (rd x3 ((rd_T53 aT aN).f1)))).set (((rd_T53 aT aN).f1) : Int).toNat (mn (rd x3 ((rd_T53 aT aN).f0)) (rd x3 ((rd_T53 aT aN).f1)))) true aT cW (wrap64 (aN + 1)) az ap)) else (none)) else (none)) else (none)) else (none)) else (none)) else (none)) else (impl_Net_parts.l1 k x3 x5 az ap)
end
def impl_Net_parts.f (k : Nat) (ag : Int) (aa : List (S53)) : Option (List Int) := impl_Net_parts.l0 k (([] : List Int)) ag 0 ag aa
def impl_Net_parts.T13 : Bool × List (List Nat × List Nat) := (true, [([], []), ([], []), ([1], [1]), ([0, 2], [0, 2]), ([3], [3]), ([], []), ([], []), ([6], [6]), ([5, 7], [5, 7]), ([8], [8]), ([4, 9], [4, 9]), ([10, 0, 1, 2, 3, 4, 5, 6, 7, 8, 9, 10], [10])])
def impl_Net_parts.B13 : List Nat := [0, 0, 2, 7, 15, 0, 0, 64, 224, 480, 1023, 2047]
theorem impl_Net_parts.tab13 : rtab .any (opsOf Try.f64 13) = impl_Net_parts.T13 := by kernel_rfl
theorem impl_Net_parts.bits13 : waitsOk impl_Net_parts.T13.2 impl_Net_parts.B13 = true := by kernel_rfl
def impl_Net_parts.T14 : Bool × List (List Nat × List Nat) := (true, [([], []), ([], []), ([1], [1]), ([0, 2], [0, 2]), ([3], [3]), ([], []), ([], []), ([6], [6]), ([5, 7], [5, 7]), ([8], [8]), ([4, 9], [4, 9])])
def impl_Net_parts.B14 : List Nat := [0, 0, 2, 7, 15, 0, 0, 64, 224, 480, 1023]
theorem impl_Net_parts.tab14 : rtab .any (opsOf Try.f64 14) = impl_Net_parts.T14 := by kernel_rfl
theorem impl_Net_parts.bits14 : waitsOk impl_Net_parts.T14.2 impl_Net_parts.B14 = true := by kernel_rfl
def impl_Net_parts.T15 : Bool × List (List Nat × List Nat) := (true, [([], []), ([], []), ([1], [1]), ([], []), ([], []), ([4], [4]), ([], []), ([], []), ([0, 2, 0, 1, 2, 6], [0, 2]), ([8, 6, 0, 1, 2, 6], [6, 8]), ([3, 5, 0, 1, 2, 3, 4, 5, 6, 7, 8, 9], [3, 5]), ([10, 7, 9, 0, 1, 2, 3, 4, 5, 6, 7, 8, 9], [7, 10])])
def impl_Net_parts.B15 : List Nat := [0, 0, 2, 0, 0, 16, 0, 0, 71, 327, 1023, 2047]
theorem impl_Net_parts.tab15 : rtab .any (opsOf Try.f64 15) = impl_Net_parts.T15 := by kernel_rfl
theorem impl_Net_parts.bits15 : waitsOk impl_Net_parts.T15.2 impl_Net_parts.B15 = true := by kernel_rfl
set_option maxHeartbeats 8000000 in
set_option maxRecDepth 100000 in
theorem impl_Net_parts.calls (k : Nat) (ag : Int) (aA : Option Addr) (am : Nat) (aa : List (S53)) (r : List Int) (w : World) (bw : Kd.C k53 w aA aa.length aa) (bx : aa.length ≤ am) (h : impl_Net_parts.f k ag aa = some r) :
  Calls Try.prog 64 #[.agg #[.int .i64 ag, .slice aA aa.length am]] w fun e w' => ∃ b9 : Value, e = .returned (b9) ∧ Kd.R (Kd.int .i64) 3 w' w.heap.size (fun _ => True) b9 r ∧ Below w.heap.size w w' := by
 have dU := Try.underlying30; have dV := Try.underlying53; have aJ := G.m bw; have b1 := G.m bx; clear bw bx; have HB := G.m (Below.refl w.heap.size w); have H : (impl_Net_parts.l0 k (([] : List Int)) ag 0 ag aa) = some r := h; clear h; obtain ⟨cX, bE⟩ : ∃ y_ : List Int, y_ = (([] : List Int)) := ⟨_, rfl⟩; replace H : (impl_Net_parts.l0 k cX ag 0 ag aa) = some r := by first | (rw [bE]; with_reducible exact H) | (have aq := (Option.bind_some _ _).symm.trans H; rw [bE]; with_reducible exact aq) | (have aq := (Option.bind_some _ _).symm.trans H; with_reducible exact aq) | with_reducible exact H | (rw [bE]; exact H) | exact H
 have cz := G.m bE; clear bE; have H' := G.m H; clear H
 go_enter Try.func64, Try.ntmps64
 go_wp2_with (first | ((with_reducible refine G.h 1 rfl ?_); refine G.be 1 #[.int .i64 ag, .slice aA aa.length am] 30 ?_; intro au hg w2 hbox hb; have n0 := G.bs HB hb; have n1 := G.m (hbox); have n2 := G.m (caaA : w.heap.size ≤ au); have n3 := G.m (caaA : w.heap.size ≤ au); clear HB; revert n0 n1 n2 n3; intro HB af eR dF; clear hb hbox hg) | ((with_reducible refine G.h 9 rfl ?_); refine Kd.R_lit (Kd.int .i64) _ 3 ?hg (N := 9) ?hd (xs := ([] : List Int)) (inner := []) (ok := fun _ => True) (okp := fun _ => True) ?hr ?hp (fun _ hk => hk) trivial (Below.refl _ _) (Nat.le_refl _) (by simp) ?_; (case hd => rfl); (case hg => rfl); (case hr => first | (go_simp; done) | (go_simp; rfl)); (case hp => exact (Reps.none _ _)); intro e7 w3 cg hb hg_ hnew_; clear hg_ hnew_; (first | rw [← cz.out] at cg | (simp only [Int.reduceToNat] at cg; rw [← cz.out] at cg)); have n0 := G.m (Kd.R_lower cg (below_size (G.cB HB.out))); have n1 := G.bb af hb; have n2 := G.bs HB hb; clear af HB; revert n0 n1 n2; intro dG af HB; clear hb cg; have ⟨cY, cZ, c_, da⟩ := G.d2 (w := w3) af))
 go_loopg [3, 12] k (fun kq v3 eL w' => ∃ (al : List Int) (aC : Int), eL = .int .i64 aC ∧ Aside0 (impl_Net_parts.l0 kq al ag aC ag aa = some r) ∧ Aside0 (kq ≤ k) ∧ Aside0 (Kd.R (Kd.int .i64) 3 w' w.heap.size (fun _ => True) v3 al) ∧ Aside0 (w'.heap[au]? = some (.cells #[.int .i64 ag, (.slice aA aa.length am)] 30 (0, 0))) ∧ Aside0 (Below w.heap.size w w'))
 case atStart => exact ⟨(cX), (0), (caaz), H', ⟨Nat.le_refl _⟩, ⟨G.cR dG.out⟩, ⟨G.cb af.out⟩, ⟨G.cB HB.out⟩⟩
 case round =>
  clear H'; (try clear cY cZ c_ da); obtain ⟨al, aC, rfl, HA, aV, ac, af, HB⟩ := hrel; cases gk with
  | zero => exact absurd HA.out (by simp [impl_Net_parts.l0])
  | succ k1 =>
   have H := HA.out; clear HA; simp only [impl_Net_parts.l0] at H
   by_cases c6 : aC < ag
   ·rw [if_pos c6] at H; have db : decide (aC < ag) = true := decide_eq_true c6; clear c6
    by_cases c7 : al.length < 17592186044416
    ·rw [if_pos c7] at H; have ea := G.m c7; clear c7; obtain ⟨dc, bF⟩ : ∃ y_ : List Int, y_ = (al ++ [aC]) := ⟨_, rfl⟩; replace H : (impl_Net_parts.l0 k1 dc ag (wrap64 (aC + 1)) ag aa) = some r := by first | (rw [bF]; with_reducible exact H) | (have aq := (Option.bind_some _ _).symm.trans H; rw [bF]; with_reducible exact aq) | (have aq := (Option.bind_some _ _).symm.trans H; with_reducible exact aq) | with_reducible exact H | (rw [bF]; exact H) | exact H
     have dH := G.m bF; clear bF; have H' := G.m H; clear H
     go_wp2_with (first | ((with_reducible refine gate_builtin (b := .append) (xs := #[.tmp 15, .tmp 17]) rfl ?_); at_builtin; refine Kd.R_append (Kd.int .i64) (w0 := w) w.heap.size rfl (.tmp 15) (.tmp 17) 25 3 (.int .i64 0) 8 rfl Try.underlying25 info3 rfl (by decide) (by omega) u3 al aC [.int .i64 aC] (fun _ => True) (fun _ => False) rfl rfl ?aP (fun _ hk => hk.elim) ?aF ?aO ?aB ?aS ?aL ?_; (case aP => exact rfl); (case aB => exact (G.cB HB.out)); (case aF => exact (fun _ _ => trivial)); (case aO => exact (G.cR ac.out)); (case aS => exact (below_size (G.cB HB.out))); (case aL => have := ea.out; omega); intro e8 w8 ho hb hg hat; rw [← dH.out] at ho; have n0 := G.bg af hg (Kd.R_ne ac.out af.out (by decide)); have n1 := G.m (hb); have n2 := G.m (ho); clear af HB ac; revert n0 n1 n2; intro af HB dI; clear ho hb hg hat))
     go_roundg k1
     case measure => have := aV.out; omega
     case rel => exact ⟨(dc), (wrap64 (aC + 1)), (caaz), H', ⟨by have := aV.out; omega⟩, ⟨G.cR dI.out⟩, ⟨G.cb af.out⟩, ⟨G.cB HB.out⟩⟩
    ·rw [if_neg c7] at H; exact absurd H (by simp)
   ·rw [if_neg c6] at H; have db : decide (aC < ag) = false := decide_eq_false c6; clear c6; have H' := G.m H; clear H
    go_wp2
    go_loopg [5] k1 (fun kq v5 w' => ∃ (bK : List Int) (b4 : Bool), v5 = .bool b4 ∧ Aside0 (impl_Net_parts.l1 kq bK b4 ag aa = some r) ∧ Aside0 (kq ≤ k1) ∧ Aside0 (Kd.R (Kd.int .i64) 3 w' w.heap.size (fun _ => True) u3 bK) ∧ Aside0 (w'.heap[au]? = some (.cells #[.int .i64 ag, (.slice aA aa.length am)] 30 (0, 0))) ∧ Aside0 (Below w.heap.size w w'))
    case atStart => exact ⟨(al), (true), (caaz), H', ⟨Nat.le_refl _⟩, ⟨G.cR ac.out⟩, ⟨G.cb af.out⟩, ⟨G.cB HB.out⟩⟩
    case round =>
     clear H'; (try clear db); obtain ⟨bK, b4, rfl, HA, bW, ac, af, HB⟩ := hrel; cases gk with
     | zero => exact absurd HA.out (by simp [impl_Net_parts.l1])
     | succ k2 =>
      have H := HA.out; clear HA; simp only [impl_Net_parts.l1] at H
      by_cases c9 : b4 = true
      ·subst c9; have H1 : (impl_Net_parts.l2 k2 bK false aa (aa.length : Int) 0 ag aa) = some r := by rw [if_pos rfl] at H; exact H
       clear H; have H := H1; clear H1; have H' := G.m H; clear H; have ⟨cG, cH, cI, cJ⟩ := G.d2 (w := wr) af
       go_wp2
       go_loopg [5, 24] k2 (fun kq v5 eM w' => ∃ (ak : List Int) (bL : Bool) (ab : Int), v5 = .bool bL ∧ eM = .int .i64 ab ∧ Aside0 (impl_Net_parts.l2 kq ak bL aa (aa.length : Int) ab ag aa = some r) ∧ Aside0 (kq ≤ k2) ∧ Aside0 (Kd.R (Kd.int .i64) 3 w' w.heap.size (fun _ => True) u3 ak) ∧ Aside0 (w'.heap[au]? = some (.cells #[.int .i64 ag, (.slice aA aa.length am)] 30 (0, 0))) ∧ Aside0 (Below w.heap.size w w'))
       case atStart => exact ⟨(bK), (false), (0), (caaz), (caaz), H', ⟨Nat.le_refl _⟩, ⟨G.cR ac.out⟩, ⟨G.cb af.out⟩, ⟨G.cB HB.out⟩⟩
       case round =>
        clear H'; (try clear c9 cG cH cI cJ); obtain ⟨ak, bL, ab, rfl, rfl, HA, bX, ac, af, HB⟩ := hrel; cases gk with
        | zero => exact absurd HA.out (by simp [impl_Net_parts.l2])
        | succ k3 =>
         have H := HA.out; clear HA; simp only [impl_Net_parts.l2] at H
         by_cases bY : ab < (aa.length : Int)
         ·rw [if_pos bY] at H; have dJ : decide (ab < (aa.length : Int)) = true := decide_eq_true bY; clear bY
          by_cases bA : 0 ≤ ab
          ·rw [if_pos bA] at H; have dy : decide (0 ≤ ab) = true := decide_eq_true bA; clear bA
           by_cases bB : ab < (aa.length : Int)
           ·rw [if_pos bB] at H; have dz : decide (ab < (aa.length : Int)) = true := decide_eq_true bB; clear bB
            by_cases cA : 0 ≤ ((rd_T53 aa ab).f0)
            ·rw [if_pos cA] at H; have eS : decide (0 ≤ ((rd_T53 aa ab).f0)) = true := decide_eq_true cA; clear cA
             by_cases bC : ((rd_T53 aa ab).f0) < (ak.length : Int)
             ·rw [if_pos bC] at H; have eT : decide (((rd_T53 aa ab).f0) < (ak.length : Int)) = true := decide_eq_true bC; clear bC
              by_cases cD : 0 ≤ ((rd_T53 aa ab).f1)
              ·rw [if_pos cD] at H; have eU : decide (0 ≤ ((rd_T53 aa ab).f1)) = true := decide_eq_true cD; clear cD
               by_cases cE : ((rd_T53 aa ab).f1) < (ak.length : Int)
               ·rw [if_pos cE] at H; have eV : decide (((rd_T53 aa ab).f1) < (ak.length : Int)) = true := decide_eq_true cE; clear cE; obtain ⟨a8, b5⟩ : ∃ j_ : Int, (mn (rd ak ((rd_T53 aa ab).f0)) (rd ak ((rd_T53 aa ab).f1))) = j_ := ⟨_, rfl⟩; replace H : (if (rd ak ((rd_T53 aa ab).f0)) = (rd ak ((rd_T53 aa ab).f1)) then (impl_Net_parts.l2 k3 ak bL aa (aa.length : Int) (wrap64 (ab + 1)) ag aa) else (impl_Net_parts.l2 k3 ((ak.set (((rd_T53 aa ab).f0) : Int).toNat (a8)).set (((rd_T53 aa ab).f1) : Int).toNat (a8)) true aa (aa.length : Int) (wrap64 (ab + 1)) ag aa)) = some r := by first | (rw [b5] at H; exact H) | (simp only [b5] at H ⊢; exact H)
                have eN : (if (rd ak ((rd_T53 aa ab).f1)) < (rd ak ((rd_T53 aa ab).f0)) then (rd ak ((rd_T53 aa ab).f1)) else (rd ak ((rd_T53 aa ab).f0))) = a8 := b5
                by_cases bT : (rd ak ((rd_T53 aa ab).f0)) = (rd ak ((rd_T53 aa ab).f1))
                ·rw [if_pos bT] at H; have dK : ((rd ak ((rd_T53 aa ab).f0)) == (rd ak ((rd_T53 aa ab).f1))) = true := beq_iff_eq.mpr bT; have dL : ((rd ak ((rd_T53 aa ab).f0)) != (rd ak ((rd_T53 aa ab).f1))) = false := bne_eq_false_iff_eq.mpr bT; clear bT; have H' := G.m H; clear H; have bj : 0 ≤ (ab : Int) := of_decide_eq_true (G.asm); have bk : ab < (aa.length : Int) := of_decide_eq_true (G.asm); obtain ⟨bv, co, a2, a3⟩ := at_T53 aJ.out ab bj bk; cases co; replace a2 := G.hx HB a2; replace a3 := G.hx HB a3; replace bj := eq_true bj; replace bk := eq_true bk; try go_wp2_with (first | ((with_reducible refine G.h 7 rfl ?_); refine G.be 7 #[.int .i64 0, .int .i64 0] 53 ?_; intro ai hg bZ hbox hb; have n0 := G.rb ac hb; have n1 := G.bb af hb; have n2 := G.bs HB hb; have n3 := G.m (hbox); have n4 := G.m (caaA : w.heap.size ≤ ai); have n5 := G.m (caaA : w.heap.size ≤ ai); have n6 := G.m (caaF : au ≠ ai); have n7 := G.m (caaG : ai ≠ au); clear ac af HB; revert n0 n1 n2 n3 n4 n5 n6 n7; intro ac af HB aj dM cF aM a9; clear hb hbox hg; have eW := a9.out; have eX := aM.out; have ⟨eB, eC, eD, eE⟩ := G.d2 (w := bZ) aj))
                 have n0 : Aside0 (Kd.R (Kd.int .i64) 3 ((bZ.setCell ⟨ai, 0, none⟩ (.int .i64 ((rd_T53 aa ab).f0))).setCell ⟨ai, 1, none⟩ (.int .i64 ((rd_T53 aa ab).f1))) w.heap.size (fun _ => True) u3 ak) := ⟨caaE⟩; have n1 : Aside0 (((bZ.setCell ⟨ai, 0, none⟩ (.int .i64 ((rd_T53 aa ab).f0))).setCell ⟨ai, 1, none⟩ (.int .i64 ((rd_T53 aa ab).f1))).heap[au]? = some (.cells #[.int .i64 ag, .slice (some bv) aa.length am] 30 (0, 0))) := ⟨caaD⟩; have n2 : Aside0 (((bZ.setCell ⟨ai, 0, none⟩ (.int .i64 ((rd_T53 aa ab).f0))).setCell ⟨ai, 1, none⟩ (.int .i64 ((rd_T53 aa ab).f1))).heap[ai]? = some (.cells #[.int .i64 ((rd_T53 aa ab).f0), .int .i64 ((rd_T53 aa ab).f1)] 53 (0, 0))) := ⟨caaC⟩; have n3 : Aside0 (Below w.heap.size w ((bZ.setCell ⟨ai, 0, none⟩ (.int .i64 ((rd_T53 aa ab).f0))).setCell ⟨ai, 1, none⟩ (.int .i64 ((rd_T53 aa ab).f1)))) := ⟨G.cB HB.out⟩; (try clear ac af aj HB); generalize ((bZ.setCell ⟨ai, 0, none⟩ (.int .i64 ((rd_T53 aa ab).f0))).setCell ⟨ai, 1, none⟩ (.int .i64 ((rd_T53 aa ab).f1))) = eO at n0 n1 n2 n3 ⊢; revert n0 n1 n2 n3; intro ac af aj HB; have n0 := G.m (Kd.R_drew ac.out); have n1 := G.m (blk_drew af.out); have n2 := G.m (blk_drew aj.out); have n3 := G.m (below_drew1 HB.out); clear ac af aj HB; revert n0 n1 n2 n3; intro ac af aj HB; obtain ⟨ck, cl, bQ⟩ := Kd.R_slice ac.out; (first | subst bQ | (injection bQ with a6 bN a7; have bO := a6.symm; have bP := a7.symm; clear a6 bN a7; subst bO; subst bP)); have bl : 0 ≤ (((rd_T53 aa ab).f0) : Int) := of_decide_eq_true (G.asm); have bm : ((rd_T53 aa ab).f0) < (ak.length : Int) := of_decide_eq_true (G.asm); obtain ⟨ao, cp, aE⟩ := Kd.at_int (Kd.R_reads' ac.out).2.2 ((rd_T53 aa ab).f0) bl bm; cases cp; replace bl := eq_true bl; replace bm := eq_true bm; have bn : 0 ≤ (((rd_T53 aa ab).f1) : Int) := of_decide_eq_true (G.asm); have bo : ((rd_T53 aa ab).f1) < (ak.length : Int) := of_decide_eq_true (G.asm); obtain ⟨b6, cq, aG⟩ := Kd.at_int (Kd.R_reads' ac.out).2.2 ((rd_T53 aa ab).f1) bn bo; obtain rfl : ao = b6 := (by injection cq); replace bn := eq_true bn; replace bo := eq_true bo; refine G.st 12 (S := fun w' => w'.cell? ⟨ai, 0, none⟩ = some (.int .i64 ((rd_T53 aa ab).f0)) ∧ w'.cell? ⟨ai, 1, none⟩ = some (.int .i64 ((rd_T53 aa ab).f1)) ∧ w'.cell? (ao.add (((rd_T53 aa ab).f0)).toNat) = some (.int .i64 (rd ak ((rd_T53 aa ab).f0))) ∧ w'.cell? (ao.add (((rd_T53 aa ab).f1)).toNat) = some (.int .i64 (rd ak ((rd_T53 aa ab).f1)))) [] ⟨G.z aj 0, G.z aj 1, aE, aG⟩ impl_Net_parts.tab13 impl_Net_parts.bits13 (fun hHeld HT_ HW_ => ?_); generalize eO.drew = dQ at ac af aj HB aE aG hHeld ⊢; refine G.pu 0 28 1 ?_; refine G.pu 1 29 3 ?_; refine G.pu 5 33 35 ?_; refine G.pu 6 34 99 ?_; refine G.ta4 2 30 103 ?_; refine G.pu 3 31 111 ?_; refine G.ta4 4 32 127 ?_; refine G.ta4 7 35 255 ?_; refine G.pu 8 36 511 ?_; refine G.ta4 9 37 1023 ?_; refine G.pu 10 38 2047 ?_; refine G.pu 11 8 4095 ?_; refine done_ (done_of HT_.out (caaB)) ?_; try go_wp2
                 have n0 := G.m (Kd.R_drew ac.out); have n1 := G.m (blk_drew af.out); have n2 := G.m (blk_drew aj.out); have n3 := G.m (below_drew1 HB.out); clear ac af aj HB; revert n0 n1 n2 n3; intro ac af aj HB; have bp : 0 ≤ (((rd_T53 aa ab).f0) : Int) := of_decide_eq_true (G.asm); have bq : ((rd_T53 aa ab).f0) < (ak.length : Int) := of_decide_eq_true (G.asm); obtain ⟨b7, cr, aH⟩ := Kd.at_int (Kd.R_reads' ac.out).2.2 ((rd_T53 aa ab).f0) bp bq; obtain rfl : ao = b7 := (by injection cr); replace bp := eq_true bp; replace bq := eq_true bq; have br : 0 ≤ (((rd_T53 aa ab).f1) : Int) := of_decide_eq_true (G.asm); have bu : ((rd_T53 aa ab).f1) < (ak.length : Int) := of_decide_eq_true (G.asm); obtain ⟨b8, ct, aI⟩ := Kd.at_int (Kd.R_reads' ac.out).2.2 ((rd_T53 aa ab).f1) br bu; obtain rfl : ao = b8 := (by injection ct); replace br := eq_true br; replace bu := eq_true bu; refine G.st 11 (S := fun w' => w'.cell? ⟨ai, 0, none⟩ = some (.int .i64 ((rd_T53 aa ab).f0)) ∧ w'.cell? ⟨ai, 1, none⟩ = some (.int .i64 ((rd_T53 aa ab).f1)) ∧ w'.cell? (ao.add (((rd_T53 aa ab).f0)).toNat) = some (.int .i64 (rd ak ((rd_T53 aa ab).f0))) ∧ w'.cell? (ao.add (((rd_T53 aa ab).f1)).toNat) = some (.int .i64 (rd ak ((rd_T53 aa ab).f1)))) [] ⟨G.z aj 0, G.z aj 1, aH, aI⟩ impl_Net_parts.tab14 impl_Net_parts.bits14 (fun hHeld HT_ HW_ => ?_); generalize dQ.drew = dR at ac af aj HB aH aI hHeld ⊢; refine G.pu 0 39 1 ?_; refine G.pu 1 40 3 ?_; refine G.pu 5 44 35 ?_; refine G.pu 6 45 99 ?_; refine G.ta4 2 41 103 ?_; refine G.pu 3 42 111 ?_; refine G.ta4 4 43 127 ?_; refine G.ta4 7 46 255 ?_; refine G.pu 8 47 511 ?_; refine G.ta4 9 48 1023 ?_; refine G.pu 10 49 2047 ?_; refine done_ (done_of HT_.out (caaB)) ?_; try go_wp2
                 go_roundg k3
                 case measure => have := aV.out; have := bW.out; have := bX.out; omega
                 case rel => exact ⟨(ak), (bL), (wrap64 (ab + 1)), (caaz), (caaz), H', ⟨by have := aV.out; have := bW.out; have := bX.out; omega⟩, ⟨G.cR ac.out⟩, ⟨G.cb af.out⟩, ⟨G.cB HB.out⟩⟩
                ·rw [if_neg bT] at H; have dK : ((rd ak ((rd_T53 aa ab).f0)) == (rd ak ((rd_T53 aa ab).f1))) = false := beq_eq_false_iff_ne.mpr bT; have dL : ((rd ak ((rd_T53 aa ab).f0)) != (rd ak ((rd_T53 aa ab).f1))) = true := bne_iff_ne.mpr bT; obtain ⟨dd, bG⟩ : ∃ y_ : List Int, y_ = (ak.set (((rd_T53 aa ab).f0) : Int).toNat (a8)) := ⟨_, rfl⟩; replace H : (impl_Net_parts.l2 k3 (dd.set (((rd_T53 aa ab).f1) : Int).toNat (a8)) true aa (aa.length : Int) (wrap64 (ab + 1)) ag aa) = some r := by first | (rw [bG]; with_reducible exact H) | (have aq := (Option.bind_some _ _).symm.trans H; rw [bG]; with_reducible exact aq) | (have aq := (Option.bind_some _ _).symm.trans H; with_reducible exact aq) | with_reducible exact H | (rw [bG]; exact H) | exact H
                 have dN := G.m bG; clear bG; obtain ⟨de, bH⟩ : ∃ y_ : List Int, y_ = (dd.set (((rd_T53 aa ab).f1) : Int).toNat (a8)) := ⟨_, rfl⟩; replace H : (impl_Net_parts.l2 k3 de true aa (aa.length : Int) (wrap64 (ab + 1)) ag aa) = some r := by first | (rw [bH]; with_reducible exact H) | (have aq := (Option.bind_some _ _).symm.trans H; rw [bH]; with_reducible exact aq) | (have aq := (Option.bind_some _ _).symm.trans H; with_reducible exact aq) | with_reducible exact H | (rw [bH]; exact H) | exact H
                 have dO := G.m bH; clear bH; have H' := G.m H; clear H; have bj : 0 ≤ (ab : Int) := of_decide_eq_true (G.asm); have bk : ab < (aa.length : Int) := of_decide_eq_true (G.asm); obtain ⟨bv, co, a2, a3⟩ := at_T53 aJ.out ab bj bk; cases co; replace a2 := G.hx HB a2; replace a3 := G.hx HB a3; replace bj := eq_true bj; replace bk := eq_true bk; try go_wp2_with (first | ((with_reducible refine G.h 7 rfl ?_); refine G.be 7 #[.int .i64 0, .int .i64 0] 53 ?_; intro ai hg bR hbox hb; have n0 := G.rb ac hb; have n1 := G.bb af hb; have n2 := G.bs HB hb; have n3 := G.m (hbox); have n4 := G.m (caaA : w.heap.size ≤ ai); have n5 := G.m (caaA : w.heap.size ≤ ai); have n6 := G.m (caaF : au ≠ ai); have n7 := G.m (caaG : ai ≠ au); clear ac af HB; revert n0 n1 n2 n3 n4 n5 n6 n7; intro ac af HB aj dM cF aM a9; clear hb hbox hg; have eY := a9.out; have eZ := aM.out; have ⟨eF, eG, eH, eI⟩ := G.d2 (w := bR) aj))
                 have n0 : Aside0 (Kd.R (Kd.int .i64) 3 ((bR.setCell ⟨ai, 0, none⟩ (.int .i64 ((rd_T53 aa ab).f0))).setCell ⟨ai, 1, none⟩ (.int .i64 ((rd_T53 aa ab).f1))) w.heap.size (fun _ => True) u3 ak) := ⟨caaE⟩; have n1 : Aside0 (((bR.setCell ⟨ai, 0, none⟩ (.int .i64 ((rd_T53 aa ab).f0))).setCell ⟨ai, 1, none⟩ (.int .i64 ((rd_T53 aa ab).f1))).heap[au]? = some (.cells #[.int .i64 ag, .slice (some bv) aa.length am] 30 (0, 0))) := ⟨caaD⟩; have n2 : Aside0 (((bR.setCell ⟨ai, 0, none⟩ (.int .i64 ((rd_T53 aa ab).f0))).setCell ⟨ai, 1, none⟩ (.int .i64 ((rd_T53 aa ab).f1))).heap[ai]? = some (.cells #[.int .i64 ((rd_T53 aa ab).f0), .int .i64 ((rd_T53 aa ab).f1)] 53 (0, 0))) := ⟨caaC⟩; have n3 : Aside0 (Below w.heap.size w ((bR.setCell ⟨ai, 0, none⟩ (.int .i64 ((rd_T53 aa ab).f0))).setCell ⟨ai, 1, none⟩ (.int .i64 ((rd_T53 aa ab).f1)))) := ⟨G.cB HB.out⟩; (try clear ac af aj HB); generalize ((bR.setCell ⟨ai, 0, none⟩ (.int .i64 ((rd_T53 aa ab).f0))).setCell ⟨ai, 1, none⟩ (.int .i64 ((rd_T53 aa ab).f1))) = cT at n0 n1 n2 n3 ⊢; revert n0 n1 n2 n3; intro ac af aj HB; have n0 := G.m (Kd.R_drew ac.out); have n1 := G.m (blk_drew af.out); have n2 := G.m (blk_drew aj.out); have n3 := G.m (below_drew1 HB.out); clear ac af aj HB; revert n0 n1 n2 n3; intro ac af aj HB; obtain ⟨e9, fa, df⟩ := Kd.R_slice ac.out; (first | subst df | (injection df with a6 bN a7; have bO := a6.symm; have bP := a7.symm; clear a6 bN a7; subst bO; subst bP)); have bl : 0 ≤ (((rd_T53 aa ab).f0) : Int) := of_decide_eq_true (G.asm); have bm : ((rd_T53 aa ab).f0) < (ak.length : Int) := of_decide_eq_true (G.asm); obtain ⟨ao, cp, aE⟩ := Kd.at_int (Kd.R_reads' ac.out).2.2 ((rd_T53 aa ab).f0) bl bm; cases cp; replace bl := eq_true bl; replace bm := eq_true bm; have bn : 0 ≤ (((rd_T53 aa ab).f1) : Int) := of_decide_eq_true (G.asm); have bo : ((rd_T53 aa ab).f1) < (ak.length : Int) := of_decide_eq_true (G.asm); obtain ⟨b6, cq, aG⟩ := Kd.at_int (Kd.R_reads' ac.out).2.2 ((rd_T53 aa ab).f1) bn bo; obtain rfl : ao = b6 := (by injection cq); replace bn := eq_true bn; replace bo := eq_true bo; refine G.st 12 (S := fun w' => w'.cell? ⟨ai, 0, none⟩ = some (.int .i64 ((rd_T53 aa ab).f0)) ∧ w'.cell? ⟨ai, 1, none⟩ = some (.int .i64 ((rd_T53 aa ab).f1)) ∧ w'.cell? (ao.add (((rd_T53 aa ab).f0)).toNat) = some (.int .i64 (rd ak ((rd_T53 aa ab).f0))) ∧ w'.cell? (ao.add (((rd_T53 aa ab).f1)).toNat) = some (.int .i64 (rd ak ((rd_T53 aa ab).f1)))) [] ⟨G.z aj 0, G.z aj 1, aE, aG⟩ impl_Net_parts.tab13 impl_Net_parts.bits13 (fun hHeld HT_ HW_ => ?_); generalize cT.drew = eP at ac af aj HB aE aG hHeld ⊢; refine G.pu 0 28 1 ?_; refine G.pu 1 29 3 ?_; refine G.pu 5 33 35 ?_; refine G.pu 6 34 99 ?_; refine G.ta4 2 30 103 ?_; refine G.pu 3 31 111 ?_; refine G.ta4 4 32 127 ?_; refine G.ta4 7 35 255 ?_; refine G.pu 8 36 511 ?_; refine G.ta4 9 37 1023 ?_; refine G.pu 10 38 2047 ?_; refine G.pu 11 8 4095 ?_; refine done_ (done_of HT_.out (caaB)) ?_; try go_wp2
                 have n0 := G.m (Kd.R_drew ac.out); have n1 := G.m (blk_drew af.out); have n2 := G.m (blk_drew aj.out); have n3 := G.m (below_drew1 HB.out); clear ac af aj HB; revert n0 n1 n2 n3; intro ac af aj HB; have bp : 0 ≤ (((rd_T53 aa ab).f0) : Int) := of_decide_eq_true (G.asm); have bq : ((rd_T53 aa ab).f0) < (ak.length : Int) := of_decide_eq_true (G.asm); obtain ⟨b7, cr, aH⟩ := Kd.at_int (Kd.R_reads' ac.out).2.2 ((rd_T53 aa ab).f0) bp bq; obtain rfl : ao = b7 := (by injection cr); replace bp := eq_true bp; replace bq := eq_true bq; have br : 0 ≤ (((rd_T53 aa ab).f1) : Int) := of_decide_eq_true (G.asm); have bu : ((rd_T53 aa ab).f1) < (ak.length : Int) := of_decide_eq_true (G.asm); obtain ⟨b8, ct, aI⟩ := Kd.at_int (Kd.R_reads' ac.out).2.2 ((rd_T53 aa ab).f1) br bu; obtain rfl : ao = b8 := (by injection ct); replace br := eq_true br; replace bu := eq_true bu; refine G.st 11 (S := fun w' => w'.cell? ⟨ai, 0, none⟩ = some (.int .i64 ((rd_T53 aa ab).f0)) ∧ w'.cell? ⟨ai, 1, none⟩ = some (.int .i64 ((rd_T53 aa ab).f1)) ∧ w'.cell? (ao.add (((rd_T53 aa ab).f0)).toNat) = some (.int .i64 (rd ak ((rd_T53 aa ab).f0))) ∧ w'.cell? (ao.add (((rd_T53 aa ab).f1)).toNat) = some (.int .i64 (rd ak ((rd_T53 aa ab).f1)))) [] ⟨G.z aj 0, G.z aj 1, aH, aI⟩ impl_Net_parts.tab14 impl_Net_parts.bits14 (fun hHeld HT_ HW_ => ?_); generalize eP.drew = dS at ac af aj HB aH aI hHeld ⊢; refine G.pu 0 39 1 ?_; refine G.pu 1 40 3 ?_; refine G.pu 5 44 35 ?_; refine G.pu 6 45 99 ?_; refine G.ta4 2 41 103 ?_; refine G.pu 3 42 111 ?_; refine G.ta4 4 43 127 ?_; refine G.ta4 7 46 255 ?_; refine G.pu 8 47 511 ?_; refine G.ta4 9 48 1023 ?_; refine G.pu 10 49 2047 ?_; refine done_ (done_of HT_.out (caaB)) ?_; try go_wp2
                 have n0 := G.m (Kd.R_drew ac.out); have n1 := G.m (blk_drew af.out); have n2 := G.m (blk_drew aj.out); have n3 := G.m (below_drew1 HB.out); clear ac af aj HB; revert n0 n1 n2 n3; intro ac af aj HB; have dg : 0 ≤ (((rd_T53 aa ab).f0) : Int) := of_decide_eq_true (G.asm); have dh : (((rd_T53 aa ab).f0) : Int) < ((ak.length : Int) : Int) := of_decide_eq_true (G.asm); obtain ⟨fb, fc, di, dj, eb, fd, dk⟩ := Kd.R_form ac.out (by omega); (first | cases di | (injection di with ea_ en_ ec_; (first | subst ea_ | (injection ea_ with ea_; subst ea_)); subst ec_; clear en_)); have dl := G.m dj; have ec := G.m dk; clear dj eb dk; (first | simp only [add_plain] at aE | skip); (first | simp only [add_plain] at aG | skip); (first | simp only [add_plain] at aH | skip); (first | simp only [add_plain] at aI | skip); obtain ⟨dn, dp⟩ := Kd.R_celln 0 ac.out (((rd_T53 aa ab).f0) : Int) dg dh; replace dg := eq_true dg; replace dh := eq_true dh; have cu := Kd.R_putn ac.out (((rd_T53 aa ab).f0) : Int) a8; rw [← dN.out] at cu; have cv := G.m cu; clear cu; have dq : 0 ≤ (((rd_T53 aa ab).f1) : Int) := of_decide_eq_true (G.asm); have dr : (((rd_T53 aa ab).f1) : Int) < ((ak.length : Int) : Int) := of_decide_eq_true (G.asm); obtain ⟨dt, du⟩ := Kd.R_celln 0 cv.out (((rd_T53 aa ab).f1) : Int) dq dr; replace dq := eq_true dq; replace dr := eq_true dr; have cw := Kd.R_putn cv.out (((rd_T53 aa ab).f1) : Int) a8; rw [← dO.out] at cw; have dv := G.m cw; clear cw; refine G.st 12 (S := fun w' => w'.cell? ⟨ai, 0, none⟩ = some (.int .i64 ((rd_T53 aa ab).f0)) ∧ w'.cell? ⟨ai, 1, none⟩ = some (.int .i64 ((rd_T53 aa ab).f1))) [11] ⟨G.z aj 0, G.z aj 1⟩ impl_Net_parts.tab15 impl_Net_parts.bits15 (fun hHeld HT_ HW_ => ?_); generalize dS.drew = fg at ac af aj HB ec cv dv dp du dn dt aE aG aH aI hHeld ⊢; refine G.pu 0 50 1 ?_; refine G.pu 1 51 3 ?_; refine G.pu 3 53 11 ?_; refine G.pu 4 54 27 ?_; refine G.pu 6 56 91 ?_; refine G.pu 7 57 219 ?_; refine G.ta2 2 52 223 ?_; refine G.pu 8 58 479 ?_; refine G.ta2 5 55 511 ?_; refine G.onN 9 (none) (G.fl 12 1023) (fun K hK => ?_); refine skip_ (w1 := ?_) (by rfl) rfl ?_ ?_; rotate_left
                 ·go_simp
                  rfl
                 refine hK.out _ _ ⟨((cell_far (fun e_ => Kd.R_ne ac.out aj.out (by decide) (congrArg some e_)) _).trans (hHeld.1)), ((cell_far (fun e_ => Kd.R_ne ac.out aj.out (by decide) (congrArg some e_)) _).trans (hHeld.2))⟩ (fun hHeld => ?_); clear hK K; refine G.pu 10 59 2047 ?_; refine G.la 11 (none) (G.fl 12 4095) (fun K hK => ?_); refine skip_ (w1 := ?_) (by rfl) rfl ?_ ?_; rotate_left
                 ·go_simp
                  rfl
                 refine hK.out _ _ ?_; clear hK K; refine done_ (done_of HT_.out (caaB)) ?_; try go_wp2
                 go_roundg k3
                 case measure => have := aV.out; have := bW.out; have := bX.out; omega
                 case rel => exact ⟨(de), (true), (wrap64 (ab + 1)), (caaz), (caaz), H', ⟨by have := aV.out; have := bW.out; have := bX.out; omega⟩, ⟨G.cR dv.out⟩, ⟨by (with_reducible repeat (first | refine blk_drewN ?_ _ | refine blk_drew ?_ | refine blk_alloc ?_ _)); refine blk_far ?_ (by have h_ := Kd.R_ne ac.out af.out (by decide); intro e_; exact h_ (by rw [e_]; rfl)) _; (with_reducible repeat (first | refine blk_drewN ?_ _ | refine blk_drew ?_ | refine blk_alloc ?_ _)); refine blk_far ?_ (by have h_ := Kd.R_ne ac.out af.out (by decide); intro e_; exact h_ (by rw [e_]; rfl)) _; (with_reducible repeat (first | refine blk_drewN ?_ _ | refine blk_drew ?_ | refine blk_alloc ?_ _)); exact af.out⟩, ⟨by repeat (first | (with_reducible first | exact HB.out | apply below_alloc | apply pw_below_drewN | apply below_drew1 | refine below_set ?_ dl.out | refine below_set ?_ dl.out | refine below_set ?_ dF.out | refine below_set ?_ cF.out) | exact HB.out)⟩⟩
               ·rw [if_neg cE] at H; exact absurd H (by simp)
              ·rw [if_neg cD] at H; exact absurd H (by simp)
             ·rw [if_neg bC] at H; exact absurd H (by simp)
            ·rw [if_neg cA] at H; exact absurd H (by simp)
           ·rw [if_neg bB] at H; exact absurd H (by simp)
          ·rw [if_neg bA] at H; exact absurd H (by simp)
         ·rw [if_neg bY] at H; have dJ : decide (ab < (aa.length : Int)) = false := decide_eq_false bY; clear bY; have H' := G.m H; clear H
          go_wp2
          go_roundg k3
          case measure => have := aV.out; have := bW.out; have := bX.out; omega
          case rel => exact ⟨(ak), (bL), (caaz), H', ⟨by have := aV.out; have := bW.out; have := bX.out; omega⟩, ⟨G.cR ac.out⟩, ⟨G.cb af.out⟩, ⟨G.cB HB.out⟩⟩
      ·replace c9 := Bool.eq_false_iff.mpr c9; subst c9; have H1 : (some bK) = some r := by rw [if_neg (show ¬ (false = true) by decide)] at H; exact H
       clear H; have H := H1; clear H1; obtain rfl := Option.some.inj H
       go_wp2
       go_ret
       exact ⟨_, by first | rfl | (simp [errW_none, errW_some] <;> rfl) | (simp [*, errW_none, errW_some] <;> rfl), G.cR ac.out, G.cB HB.out⟩
theorem caaN {p : Prop} (h : p := by (with_reducible repeat (first | refine blk_drewN ?_ _ | refine blk_drew ?_ | refine blk_alloc ?_ _)); refine blk_put (cs := #[.int .i64 ((rd_T53 aa ab).f0), .int .i64 0]) ?_ 1 _ rfl; (with_reducible repeat (first | refine blk_drewN ?_ _ | refine blk_drew ?_ | refine blk_alloc ?_ _)); refine blk_put (cs := #[.int .i64 0, .int .i64 0]) ?_ 0 _ rfl; (with_reducible repeat (first | refine blk_drewN ?_ _ | refine blk_drew ?_ | refine blk_alloc ?_ _)); exact aC.out) : p := h
theorem caaO {p : Prop} (h : p := by (with_reducible repeat (first | refine blk_drewN ?_ _ | refine blk_drew ?_ | refine blk_alloc ?_ _)); refine blk_far ?_ aG.out _; (with_reducible repeat (first | refine blk_drewN ?_ _ | refine blk_drew ?_ | refine blk_alloc ?_ _)); refine blk_far ?_ aG.out _; (with_reducible repeat (first | refine blk_drewN ?_ _ | refine blk_drew ?_ | refine blk_alloc ?_ _)); exact ah.out) : p := h
theorem caaP {p : Prop} (h : p := by (with_reducible repeat (first | refine blk_drewN ?_ _ | refine blk_drew ?_ | refine blk_alloc ?_ _)); refine blk_far ?_ aH.out _; (with_reducible repeat (first | refine blk_drewN ?_ _ | refine blk_drew ?_ | refine blk_alloc ?_ _)); refine blk_far ?_ aH.out _; (with_reducible repeat (first | refine blk_drewN ?_ _ | refine blk_drew ?_ | refine blk_alloc ?_ _)); exact aj.out) : p := h
theorem caaQ {p : Prop} (h : p := by (with_reducible repeat (first | refine blk_drewN ?_ _ | refine blk_drew ?_ | refine blk_alloc ?_ _)); refine blk_far ?_ aI.out _; (with_reducible repeat (first | refine blk_drewN ?_ _ | refine blk_drew ?_ | refine blk_alloc ?_ _)); refine blk_far ?_ aI.out _; (with_reducible repeat (first | refine blk_drewN ?_ _ | refine blk_drew ?_ | refine blk_alloc ?_ _)); exact ai.out) : p := h
theorem caaK {p : Prop} (h : p := by (with_reducible repeat (first | apply Kd.R_alloc | apply Kd.R_drewN | apply Kd.R_drew)); exact (Kd.R_mono (Kd.R_far (p := ⟨ak, 1, none⟩) (Kd.R_far (p := ⟨ak, 0, none⟩) (Kd.R_mono af.out (fun k_ hk => (⟨hk, hk.2⟩ : _ ∧ k_ ≠ ak))) (fun _ hk => hk.2) (.int .i64 ((rd_T53 aa ab).f0))) (fun _ hk => hk.2) (.int .i64 ((rd_T53 aa ab).f1))) (fun _ h_ => h_.1))) : p := h
theorem caaR {p : Prop} (h : p := by rw [hg]; exact Nat.ne_of_lt (blk_lt (g := av) (o := .cells #[.int .i64 ag, .slice (some br) aa.length au] 30 (0, 0)) (G.cb ah.out))) : p := h
theorem caaS {p : Prop} (h : p := by rw [hg]; exact Nat.ne_of_gt (blk_lt (g := av) (o := .cells #[.int .i64 ag, .slice (some br) aa.length au] 30 (0, 0)) (G.cb ah.out))) : p := h
theorem caaT {p : Prop} (h : p := by rw [hg]; exact Nat.ne_of_lt (blk_lt (g := av) (o := .cells #[.int .i64 ag, .slice ax aa.length au] 30 (0, 0)) (G.cb ah.out))) : p := h
theorem caaU {p : Prop} (h : p := by rw [hg]; exact Nat.ne_of_gt (blk_lt (g := av) (o := .cells #[.int .i64 ag, .slice ax aa.length au] 30 (0, 0)) (G.cb ah.out))) : p := h
theorem caaM {p : Prop} (h : p := by rw [hg]; exact Nat.ne_of_lt (blk_lt (g := aq) (o := .cells #[.int .i64 0, .slice none 0 0] 30 (0, 0)) (G.cb aj.out))) : p := h
theorem caaL {p : Prop} (h : p := by rw [hg]; exact Nat.ne_of_gt (blk_lt (g := aq) (o := .cells #[.int .i64 0, .slice none 0 0] 30 (0, 0)) (G.cb aj.out))) : p := h
theorem caaJ {p : Prop} (h : p := by first | rfl | (simp [errW_none, errW_some] <;> rfl) | (simp [*, errW_none, errW_some] <;> rfl)) : p := h
theorem caaI {p : Prop} (h : p := by first | rfl | (simp; done) | (simp [*]; done)) : p := h
theorem caaH {p : Prop} (h : p := by rw [hg]; exact (below_size (G.cB HB.out))) : p := h
attribute [local go_sem high] eqA53
def impl_Net_joined.f (k : Nat) (ag : Int) (aa : List (S53)) (a1 : Int) (a2 : Int) : Option (Bool) := (impl_Net_parts.f k ag aa).bind fun al => (if 0 ≤ a1 then (if a1 < (al.length : Int) then (if 0 ≤ a2 then (if a2 < (al.length : Int) then (some ((rd al a1) == (rd al a2))) else (none)) else (none)) else (none)) else (none))
set_option maxHeartbeats 8000000 in
set_option maxRecDepth 100000 in
theorem impl_Net_joined.calls (k : Nat) (ag : Int) (ax : Option Addr) (au : Nat) (aa : List (S53)) (a1 : Int) (a2 : Int) (r : Bool) (w : World) (aT : Kd.C k53 w ax aa.length aa) (aU : aa.length ≤ au) (h : impl_Net_joined.f k ag aa a1 a2 = some r) :
  Calls Try.prog 74 #[.agg #[.int .i64 ag, .slice ax aa.length au], .int .i64 a1, .int .i64 a2] w fun e w' => e = .returned (.bool r) ∧ Below w.heap.size w w' := by
 have cO := Try.underlying30; have aV := G.m aT; have bh := G.m aU; clear aT aU; have HB := G.m (Below.refl w.heap.size w); have H : ((impl_Net_parts.f k ag aa).bind fun al => (if 0 ≤ a1 then (if a1 < (al.length : Int) then (if 0 ≤ a2 then (if a2 < (al.length : Int) then (some ((rd al a1) == (rd al a2))) else (none)) else (none)) else (none)) else (none))) = some r := h; clear h; obtain ⟨al, A4, H⟩ := G.bi H; replace H : (if 0 ≤ a1 then (if a1 < (al.length : Int) then (if 0 ≤ a2 then (if a2 < (al.length : Int) then (some ((rd al a1) == (rd al a2))) else (none)) else (none)) else (none)) else (none)) = some r := H
 by_cases c5 : 0 ≤ a1
 ·rw [if_pos c5] at H; have cP : decide (0 ≤ a1) = true := decide_eq_true c5; clear c5
  by_cases c6 : a1 < (al.length : Int)
  ·rw [if_pos c6] at H; have cj : decide (a1 < (al.length : Int)) = true := decide_eq_true c6; clear c6
   by_cases c7 : 0 ≤ a2
   ·rw [if_pos c7] at H; have cQ : decide (0 ≤ a2) = true := decide_eq_true c7; clear c7
    by_cases c8 : a2 < (al.length : Int)
    ·rw [if_pos c8] at H; have fo : decide (a2 < (al.length : Int)) = true := decide_eq_true c8; clear c8; obtain rfl := Option.some.inj H
     go_enter Try.func74, Try.ntmps74
     go_wp2_with (first | ((with_reducible refine G.h 3 rfl ?_); refine G.be 3 #[.int .i64 ag, .slice ax aa.length au] 30 ?_; intro aW hg w9 hbox hb; have n0 := G.bs HB hb; have n1 := G.m (hbox); have n2 := G.m (caaH : w.heap.size ≤ aW); have n3 := G.m (caaH : w.heap.size ≤ aW); clear HB; revert n0 n1 n2 n3; intro HB ay cp cq; clear hb hbox hg; have ⟨bQ, bR, bS, bT⟩ := G.d2 (w := w9) ay) | (go_at_call 64; (with_reducible refine (impl_Net_parts.calls k ag _ _ aa al _ ?side1 ?side2 A4.out).mono ?_); (case side1 => exact G.cC (Kd.C_below aV.out HB.out)); (case side2 => exact bh.out); rintro e dn ⟨cS, rfl, bF, hb⟩; have n0 := G.m (Kd.R_lower bF (below_size (G.cB HB.out))); have n1 := G.bb ay hb; have n2 := G.bs HB hb; clear ay HB; revert n0 n1 n2; intro aD ay HB; (try clear hb bF); obtain ⟨cT, cU, bK⟩ := Kd.R_slice aD.out; subst bK; have aM : 0 ≤ (a1 : Int) := of_decide_eq_true (G.asm); have aN : a1 < (al.length : Int) := of_decide_eq_true (G.asm); obtain ⟨bu, bL, bU⟩ := Kd.at_int (Kd.R_reads' aD.out).2.2 a1 aM aN; cases bL; replace aM := eq_true aM; replace aN := eq_true aN; have aQ : 0 ≤ (a2 : Int) := of_decide_eq_true (G.asm); have aR : a2 < (al.length : Int) := of_decide_eq_true (G.asm); obtain ⟨bv, bM, bV⟩ := Kd.at_int (Kd.R_reads' aD.out).2.2 a2 aQ aR; obtain rfl : bu = bv := (by injection bM); replace aQ := eq_true aQ; replace aR := eq_true aR))
     repeat (go_quiet (first | ((with_reducible refine G.h 3 rfl ?_); refine G.be 3 #[.int .i64 ag, .slice ax aa.length au] 30 ?_; intro aW hg w9 hbox hb; have n0 := G.bs HB hb; have n1 := G.m (hbox); have n2 := G.m (caaH : w.heap.size ≤ aW); have n3 := G.m (caaH : w.heap.size ≤ aW); clear HB; revert n0 n1 n2 n3; intro HB ay cp cq; clear hb hbox hg; have ⟨bQ, bR, bS, bT⟩ := G.d2 (w := w9) ay) | (go_at_call 64; (with_reducible refine (impl_Net_parts.calls k ag _ _ aa al _ ?side1 ?side2 A4.out).mono ?_); (case side1 => exact G.cC (Kd.C_below aV.out HB.out)); (case side2 => exact bh.out); rintro e dn ⟨cS, rfl, bF, hb⟩; have n0 := G.m (Kd.R_lower bF (below_size (G.cB HB.out))); have n1 := G.bb ay hb; have n2 := G.bs HB hb; clear ay HB; revert n0 n1 n2; intro aD ay HB; (try clear hb bF); obtain ⟨cT, cU, bK⟩ := Kd.R_slice aD.out; subst bK; have aM : 0 ≤ (a1 : Int) := of_decide_eq_true (G.asm); have aN : a1 < (al.length : Int) := of_decide_eq_true (G.asm); obtain ⟨bu, bL, bU⟩ := Kd.at_int (Kd.R_reads' aD.out).2.2 a1 aM aN; cases bL; replace aM := eq_true aM; replace aN := eq_true aN; have aQ : 0 ≤ (a2 : Int) := of_decide_eq_true (G.asm); have aR : a2 < (al.length : Int) := of_decide_eq_true (G.asm); obtain ⟨bv, bM, bV⟩ := Kd.at_int (Kd.R_reads' aD.out).2.2 a2 aQ aR; obtain rfl : bu = bv := (by injection bM); replace aQ := eq_true aQ; replace aR := eq_true aR)); try go_wp2_with (first | ((with_reducible refine G.h 3 rfl ?_); refine G.be 3 #[.int .i64 ag, .slice ax aa.length au] 30 ?_; intro aW hg w9 hbox hb; have n0 := G.bs HB hb; have n1 := G.m (hbox); have n2 := G.m (caaH : w.heap.size ≤ aW); have n3 := G.m (caaH : w.heap.size ≤ aW); clear HB; revert n0 n1 n2 n3; intro HB ay cp cq; clear hb hbox hg; have ⟨bQ, bR, bS, bT⟩ := G.d2 (w := w9) ay) | (go_at_call 64; (with_reducible refine (impl_Net_parts.calls k ag _ _ aa al _ ?side1 ?side2 A4.out).mono ?_); (case side1 => exact G.cC (Kd.C_below aV.out HB.out)); (case side2 => exact bh.out); rintro e dn ⟨cS, rfl, bF, hb⟩; have n0 := G.m (Kd.R_lower bF (below_size (G.cB HB.out))); have n1 := G.bb ay hb; have n2 := G.bs HB hb; clear ay HB; revert n0 n1 n2; intro aD ay HB; (try clear hb bF); obtain ⟨cT, cU, bK⟩ := Kd.R_slice aD.out; subst bK; have aM : 0 ≤ (a1 : Int) := of_decide_eq_true (G.asm); have aN : a1 < (al.length : Int) := of_decide_eq_true (G.asm); obtain ⟨bu, bL, bU⟩ := Kd.at_int (Kd.R_reads' aD.out).2.2 a1 aM aN; cases bL; replace aM := eq_true aM; replace aN := eq_true aN; have aQ : 0 ≤ (a2 : Int) := of_decide_eq_true (G.asm); have aR : a2 < (al.length : Int) := of_decide_eq_true (G.asm); obtain ⟨bv, bM, bV⟩ := Kd.at_int (Kd.R_reads' aD.out).2.2 a2 aQ aR; obtain rfl : bu = bv := (by injection bM); replace aQ := eq_true aQ; replace aR := eq_true aR)))
     go_ret
     exact ⟨caaJ, G.cB HB.out⟩
    ·rw [if_neg c8] at H; exact absurd H (by simp)
   ·rw [if_neg c7] at H; exact absurd H (by simp)
  ·rw [if_neg c6] at H; exact absurd H (by simp)
 ·rw [if_neg c5] at H; exact absurd H (by simp)
def impl_Net_tree.l0 : Nat → List (S53) → Int → Int → Int → List (S53) → Option (Int × (List (S53)))
 | 0, _, _, _, _, _ => none
 | k + 1, bN, cW, bw, bj, aZ => if bw < cW then (if 0 ≤ bw then (if bw < (bN.length : Int) then ((impl_Net_joined.f k bj aZ ((rd_T53 bN bw).f0) ((rd_T53 bN bw).f1)).bind fun bZ => (if bZ = true then (impl_Net_tree.l0 k bN cW (wrap64 (bw + 1)) bj aZ) else (if aZ.length < 8796093022208 then (impl_Net_tree.l0 k bN cW (wrap64 (bw + 1)) bj (aZ ++ [(⟨(rd_T53 bN bw).f0, (rd_T53 bN bw).f1⟩ : S53)])) else (none)))) else (none)) else (none)) else (some (bj, aZ))
def impl_Net_tree.f (k : Nat) (ag : Int) (aa : List (S53)) : Option (Int × (List (S53))) := impl_Net_tree.l0 k aa (aa.length : Int) 0 ag (([] : List (S53)))
set_option maxHeartbeats 8000000 in
set_option maxRecDepth 100000 in
theorem impl_Net_tree.calls (k : Nat) (ag : Int) (ax : Option Addr) (au : Nat) (aa : List (S53)) (r1 : Int) (r2 : List (S53)) (w : World) (aT : Kd.C k53 w ax aa.length aa) (aU : aa.length ≤ au) (h : impl_Net_tree.f k ag aa = some (r1, r2)) :
  Calls Try.prog 50 #[.agg #[.int .i64 ag, .slice ax aa.length au]] w fun e w' => ∃ dp : Value, e = .returned (.agg #[.int .i64 r1, dp]) ∧ Kd.R k53 53 w' w.heap.size (fun _ => True) dp r2 ∧ Below w.heap.size w w' := by
 have cO := Try.underlying30; have ck := Try.underlying53; have aV := G.m aT; have bh := G.m aU; clear aT aU; have HB := G.m (Below.refl w.heap.size w); have H : (impl_Net_tree.l0 k aa (aa.length : Int) 0 ag (([] : List (S53)))) = some (r1, r2) := h; clear h; obtain ⟨b1, bx⟩ : ∃ y_ : List (S53), y_ = (([] : List (S53))) := ⟨_, rfl⟩; replace H : (impl_Net_tree.l0 k aa (aa.length : Int) 0 ag b1) = some (r1, r2) := by first | (rw [bx]; with_reducible exact H) | (have bO := (Option.bind_some _ _).symm.trans H; rw [bx]; with_reducible exact bO) | (have bO := (Option.bind_some _ _).symm.trans H; with_reducible exact bO) | with_reducible exact H | (rw [bx]; exact H) | exact H
 have cr := G.m bx; clear bx; have H' := G.m H; clear H
 go_enter Try.func50, Try.ntmps50
 go_wp2_with (first | ((with_reducible refine G.h 1 rfl ?_); refine G.be 1 #[.int .i64 ag, .slice ax aa.length au] 30 ?_; intro av hg w2 hbox hb; have n0 := G.bs HB hb; have n1 := G.m (hbox); have n2 := G.m (caaH : w.heap.size ≤ av); have n3 := G.m (caaH : w.heap.size ≤ av); clear HB; revert n0 n1 n2 n3; intro HB ah eA eB; clear hb hbox hg) | ((with_reducible refine G.h 2 rfl ?_); refine G.be 2 #[.int .i64 0, .slice none 0 0] 30 ?_; intro aq hg w3 hbox hb; have n0 := G.bb ah hb; have n1 := G.bs HB hb; have n2 := G.m (hbox); have n3 := G.m (caaH : w.heap.size ≤ aq); have n4 := G.m (caaH : w.heap.size ≤ aq); have n5 := G.m (caaT : av ≠ aq); have n6 := G.m (caaU : aq ≠ av); clear ah HB; revert n0 n1 n2 n3 n4 n5 n6; intro ah HB aj eC eD bG bH; clear hb hbox hg; have fp := bG.out; have fq := bH.out; have ⟨b_, ca, cd, ce⟩ := G.d2 (w := w3) ah) | ((with_reducible refine G.h 8 rfl ?_); refine Kd.R_lit k53 _ 53 ?hg (N := 8) ?hd (xs := ([] : List (S53))) (inner := []) (ok := fun _ => True) (okp := fun _ => True) ?hr ?hp (fun _ hk => hk) trivial (Below.refl _ _) (Nat.le_refl _) (by simp) ?_; (case hd => rfl); (case hg => rfl); (case hr => first | (go_simp; done) | (go_simp; rfl)); (case hp => exact (Reps.none _ _)); intro ft w6 cf hb hg_ hnew_; clear hg_ hnew_; (first | rw [← cr.out] at cf | (simp only [Int.reduceToNat] at cf; rw [← cr.out] at cf)); have n0 := G.m (Kd.R_lower cf (below_size (G.cB HB.out))); have n1 := G.bb ah hb; have n2 := G.bb aj hb; have n3 := G.bs HB hb; clear ah aj HB; revert n0 n1 n2 n3; intro bz ah aj HB; clear hb cf; obtain ⟨dq, dr, el⟩ := Kd.R_slice bz.out; subst el) | ((with_reducible refine G.h 3 rfl ?_); refine G.be 3 #[.int .i64 0, .slice none 0 0] 30 ?_; intro ap hg w9 hbox hb; have n0 := G.rb bz hb; have n1 := G.bb ah hb; have n2 := G.bb aj hb; have n3 := G.bs HB hb; have n4 := G.m (hbox); have n5 := G.m (caaH : w.heap.size ≤ ap); have n6 := G.m (caaH : w.heap.size ≤ ap); have n7 := G.m (caaT : av ≠ ap); have n8 := G.m (caaU : ap ≠ av); have n9 := G.m (caaM : aq ≠ ap); have cg := G.m (caaL : ap ≠ aq); clear bz ah aj HB; revert n0 n1 n2 n3 n4 n5 n6 n7 n8 n9 cg; intro bz ah aj HB ai eE eF az aX aA aY; clear hb hbox hg; have eG := aX.out; have eH := az.out; have eI := aY.out; have eJ := aA.out; have ⟨cE, cF, cG, cH⟩ := G.d2 (w := w9) ai; have ⟨cI, cJ, cL, cM⟩ := G.d2 (w := w9) ah))
 go_loopg [13] k (fun kq em w' => ∃ (ab : Int) (ac : List (S53)) (aE : Value), em = .int .i64 ab ∧ Aside0 (impl_Net_tree.l0 kq aa (aa.length : Int) ab ag ac = some (r1, r2)) ∧ Aside0 (kq ≤ k) ∧ Aside0 (Kd.R k53 53 w' w.heap.size (fun _ => True) aE ac) ∧ Aside0 (w'.heap[av]? = some (.cells #[.int .i64 ag, (.slice ax aa.length au)] 30 (0, 0))) ∧ Aside0 (w'.heap[aq]? = some (.cells #[.int .i64 0, (.slice none 0 0)] 30 (0, 0))) ∧ Aside0 (w'.heap[ap]? = some (.cells #[.int .i64 ag, aE] 30 (0, 0))) ∧ Aside0 (Below w.heap.size w w'))
 case atStart => exact ⟨(0), (b1), (.slice dq b1.length dr), (caaI), H', ⟨Nat.le_refl _⟩, ⟨by (with_reducible repeat (first | apply Kd.R_alloc | apply Kd.R_drewN | apply Kd.R_drew)); exact Kd.R_mono (Kd.R_far (p := ⟨ap, 1, none⟩) (Kd.R_far (p := ⟨ap, 0, none⟩) (Kd.R_types bz.out ai.out (by decide)) (fun _ hk => hk.2) (.int .i64 ag)) (fun _ hk => hk.2) (.slice dq b1.length dr)) (fun _ hk => trivial)⟩, ⟨by (with_reducible repeat (first | refine blk_drewN ?_ _ | refine blk_drew ?_ | refine blk_alloc ?_ _)); refine blk_far ?_ az.out _; (with_reducible repeat (first | refine blk_drewN ?_ _ | refine blk_drew ?_ | refine blk_alloc ?_ _)); refine blk_far ?_ az.out _; (with_reducible repeat (first | refine blk_drewN ?_ _ | refine blk_drew ?_ | refine blk_alloc ?_ _)); exact ah.out⟩, ⟨by (with_reducible repeat (first | refine blk_drewN ?_ _ | refine blk_drew ?_ | refine blk_alloc ?_ _)); refine blk_far ?_ aA.out _; (with_reducible repeat (first | refine blk_drewN ?_ _ | refine blk_drew ?_ | refine blk_alloc ?_ _)); refine blk_far ?_ aA.out _; (with_reducible repeat (first | refine blk_drewN ?_ _ | refine blk_drew ?_ | refine blk_alloc ?_ _)); exact aj.out⟩, ⟨by (with_reducible repeat (first | refine blk_drewN ?_ _ | refine blk_drew ?_ | refine blk_alloc ?_ _)); refine blk_put (cs := #[.int .i64 ag, .slice none 0 0]) ?_ 1 _ rfl; (with_reducible repeat (first | refine blk_drewN ?_ _ | refine blk_drew ?_ | refine blk_alloc ?_ _)); refine blk_put (cs := #[.int .i64 0, .slice none 0 0]) ?_ 0 _ rfl; (with_reducible repeat (first | refine blk_drewN ?_ _ | refine blk_drew ?_ | refine blk_alloc ?_ _)); exact ai.out⟩, ⟨G.cB HB.out⟩⟩
 case round =>
  clear H'; (try clear cE cF cI cJ b_ ca cG cH cL cM cd ce); obtain ⟨ab, ac, aE, rfl, HA, bk, af, ah, aj, ai, HB⟩ := hrel; cases gk with
  | zero => exact absurd HA.out (by simp [impl_Net_tree.l0])
  | succ k1 =>
   have H := HA.out; clear HA; simp only [impl_Net_tree.l0] at H
   by_cases bW : ab < (aa.length : Int)
   ·rw [if_pos bW] at H; have df : decide (ab < (aa.length : Int)) = true := decide_eq_true bW; clear bW
    by_cases ct : 0 ≤ ab
    ·rw [if_pos ct] at H; have eK : decide (0 ≤ ab) = true := decide_eq_true ct; clear ct
     by_cases cu : ab < (aa.length : Int)
     ·rw [if_pos cu] at H; have eL : decide (ab < (aa.length : Int)) = true := decide_eq_true cu; clear cu; obtain ⟨bZ, dt, H⟩ := G.bi H; replace H : (if bZ = true then (impl_Net_tree.l0 k1 aa (aa.length : Int) (wrap64 (ab + 1)) ag ac) else (if ac.length < 8796093022208 then (impl_Net_tree.l0 k1 aa (aa.length : Int) (wrap64 (ab + 1)) ag (ac ++ [(⟨(rd_T53 aa ab).f0, (rd_T53 aa ab).f1⟩ : S53)])) else (none))) = some (r1, r2) := H
      by_cases cv : bZ = true
      ·subst cv; have H1 : (impl_Net_tree.l0 k1 aa (aa.length : Int) (wrap64 (ab + 1)) ag ac) = some (r1, r2) := by rw [if_pos rfl] at H; exact H
       clear H; have H := H1; clear H1; have H' := G.m H; clear H; have bl : 0 ≤ (ab : Int) := of_decide_eq_true (G.asm); have bm : ab < (aa.length : Int) := of_decide_eq_true (G.asm); obtain ⟨br, cl, a4, a5⟩ := at_T53 aV.out ab bl bm; cases cl; replace a4 := G.hx HB a4; replace a5 := G.hx HB a5; replace bl := eq_true bl; replace bm := eq_true bm
       go_wp2_with (first | ((with_reducible refine G.h 5 rfl ?_); refine G.be 5 #[.int .i64 0, .int .i64 0] 53 ?_; intro ak hg du hbox hb; have n0 := G.m (Kd.R_below (Kd.R_elderB (G.cR af.out) ak (Nat.le_of_eq hg.symm)) hb); have n1 := G.bb ah hb; have n2 := G.bb aj hb; have n3 := G.bb ai hb; have n4 := G.bs HB hb; have n5 := G.m (hbox); have n6 := G.m (caaH : w.heap.size ≤ ak); have n7 := G.m (caaH : w.heap.size ≤ ak); have n8 := G.m (caaR : av ≠ ak); have n9 := G.m (caaS : ak ≠ av); have cg := G.m (caaM : aq ≠ ak); have cX := G.m (caaL : ak ≠ aq); have cY := G.m ((by rw [hg]; exact Nat.ne_of_lt (blk_lt (g := ap) (o := .cells #[.int .i64 ag, aE] 30 (0, 0)) (G.cb ai.out)) : ap ≠ ak)); have cZ := G.m ((by rw [hg]; exact Nat.ne_of_gt (blk_lt (g := ap) (o := .cells #[.int .i64 ag, aE] 30 (0, 0)) (G.cb ai.out)) : ak ≠ ap)); clear af ah aj ai HB; revert n0 n1 n2 n3 n4 n5 n6 n7 n8 n9 cg cX cY cZ; intro af ah aj ai HB aC dg dh aG a9 aH a_ aI ba; clear hb hbox hg; have eM := a9.out; have eN := aG.out; have eO := a_.out; have eP := aH.out; have eQ := ba.out; have eR := aI.out; have ⟨dF, dG, dH, dI⟩ := G.d2 (w := du) aC; have eS := aX.out; have eT := az.out; have eU := aY.out; have eV := aA.out; have ⟨dJ, dK, dL, dM⟩ := G.d2 (w := du) ai; obtain ⟨cm, b2, dx⟩ := Kd.R_slice af.out; subst dx) | ((with_reducible refine G.f 74 rfl ?_); refine G.gL 22 Try.func74 #[.agg #[.int .i64 ag, .slice cm ac.length b2], .int .i64 ((rd_T53 aa ab).f0), .int .i64 ((rd_T53 aa ab).f1)] ?_; (with_reducible refine (impl_Net_joined.calls k1 ag _ _ ac ((rd_T53 aa ab).f0) ((rd_T53 aa ab).f1) true _ ?side1 ?side2 dt.out).mono ?_); (case side1 => refine (Kd.R_reads' (e := 53) (base := w.heap.size) (ok := fun k_ => (True ∧ k_ ≠ ak)) (n := ac.length) (c := b2) ?_).2.2; exact (caaK)); (case side2 => exact (Kd.R_reads' af.out).2.1); rintro e fw ⟨rfl, hb⟩; refine ⟨_, rfl, ?_⟩; have n0 := G.m (Kd.R_below (caaK) hb); have n1 := G.m (blk_below (g := av) (o := .cells #[.int .i64 ag, .slice (some br) aa.length au] 30 (0, 0)) (caaO) hb); have n2 := G.m (blk_below (g := aq) (o := .cells #[.int .i64 0, .slice none 0 0] 30 (0, 0)) (caaP) hb); have n3 := G.m (blk_below (g := ap) (o := .cells #[.int .i64 ag, .slice cm ac.length b2] 30 (0, 0)) (caaQ) hb); have n4 := G.m (blk_below (g := ak) (o := .cells #[.int .i64 ((rd_T53 aa ab).f0), .int .i64 ((rd_T53 aa ab).f1)] 53 (0, 0)) (caaN) hb); have n5 := G.bs HB hb; clear af ah aj ai aC HB; revert n0 n1 n2 n3 n4 n5; intro af ah aj ai aC HB; (try clear hb)))
       go_roundg k1
       case measure => have := bk.out; omega
       case rel => exact ⟨(wrap64 (ab + 1)), (ac), (.slice cm ac.length b2), (caaI), H', ⟨by have := bk.out; omega⟩, ⟨by (with_reducible repeat (first | apply Kd.R_alloc | apply Kd.R_drewN | apply Kd.R_drew)); exact Kd.R_mono af.out (fun _ hk => trivial)⟩, ⟨G.cb ah.out⟩, ⟨G.cb aj.out⟩, ⟨G.cb ai.out⟩, ⟨G.cB HB.out⟩⟩
      ·replace cv := Bool.eq_false_iff.mpr cv; subst cv; have H1 : (if ac.length < 8796093022208 then (impl_Net_tree.l0 k1 aa (aa.length : Int) (wrap64 (ab + 1)) ag (ac ++ [(⟨(rd_T53 aa ab).f0, (rd_T53 aa ab).f1⟩ : S53)])) else (none)) = some (r1, r2) := by rw [if_neg (show ¬ (false = true) by decide)] at H; exact H
       clear H; have H := H1; clear H1
       by_cases cw : ac.length < 8796093022208
       ·rw [if_pos cw] at H; have di := G.m cw; clear cw; obtain ⟨b3, bA⟩ : ∃ y_ : List (S53), y_ = (ac ++ [(⟨(rd_T53 aa ab).f0, (rd_T53 aa ab).f1⟩ : S53)]) := ⟨_, rfl⟩; replace H : (impl_Net_tree.l0 k1 aa (aa.length : Int) (wrap64 (ab + 1)) ag b3) = some (r1, r2) := by first | (rw [bA]; with_reducible exact H) | (have bO := (Option.bind_some _ _).symm.trans H; rw [bA]; with_reducible exact bO) | (have bO := (Option.bind_some _ _).symm.trans H; with_reducible exact bO) | with_reducible exact H | (rw [bA]; exact H) | exact H
        have dj := G.m bA; clear bA; have H' := G.m H; clear H; have bl : 0 ≤ (ab : Int) := of_decide_eq_true (G.asm); have bm : ab < (aa.length : Int) := of_decide_eq_true (G.asm); obtain ⟨br, cl, a4, a5⟩ := at_T53 aV.out ab bl bm; cases cl; replace a4 := G.hx HB a4; replace a5 := G.hx HB a5; replace bl := eq_true bl; replace bm := eq_true bm
        go_wp2_with (first | ((with_reducible refine G.h 5 rfl ?_); refine G.be 5 #[.int .i64 0, .int .i64 0] 53 ?_; intro ak hg dv hbox hb; have n0 := G.m (Kd.R_below (Kd.R_elderB (G.cR af.out) ak (Nat.le_of_eq hg.symm)) hb); have n1 := G.bb ah hb; have n2 := G.bb aj hb; have n3 := G.bb ai hb; have n4 := G.bs HB hb; have n5 := G.m (hbox); have n6 := G.m (caaH : w.heap.size ≤ ak); have n7 := G.m (caaH : w.heap.size ≤ ak); have n8 := G.m (caaR : av ≠ ak); have n9 := G.m (caaS : ak ≠ av); have cg := G.m (caaM : aq ≠ ak); have cX := G.m (caaL : ak ≠ aq); have cY := G.m ((by rw [hg]; exact Nat.ne_of_lt (blk_lt (g := ap) (o := .cells #[.int .i64 ag, aE] 30 (0, 0)) (G.cb ai.out)) : ap ≠ ak)); have cZ := G.m ((by rw [hg]; exact Nat.ne_of_gt (blk_lt (g := ap) (o := .cells #[.int .i64 ag, aE] 30 (0, 0)) (G.cb ai.out)) : ak ≠ ap)); clear af ah aj ai HB; revert n0 n1 n2 n3 n4 n5 n6 n7 n8 n9 cg cX cY cZ; intro af ah aj ai HB aC dg dh aG a9 aH a_ aI ba; clear hb hbox hg; have eW := a9.out; have eX := aG.out; have eY := a_.out; have eZ := aH.out; have e2 := ba.out; have e3 := aI.out; have ⟨dN, dO, dP, dQ⟩ := G.d2 (w := dv) aC; have e4 := aX.out; have e5 := az.out; have e6 := aY.out; have e7 := aA.out; have ⟨dR, dS, dT, dU⟩ := G.d2 (w := dv) ai; obtain ⟨b4, bP, dy⟩ := Kd.R_slice af.out; subst dy) | ((with_reducible refine G.f 74 rfl ?_); refine G.gL 22 Try.func74 #[.agg #[.int .i64 ag, .slice b4 ac.length bP], .int .i64 ((rd_T53 aa ab).f0), .int .i64 ((rd_T53 aa ab).f1)] ?_; (with_reducible refine (impl_Net_joined.calls k1 ag _ _ ac ((rd_T53 aa ab).f0) ((rd_T53 aa ab).f1) false _ ?side1 ?side2 dt.out).mono ?_); (case side1 => refine (Kd.R_reads' (e := 53) (base := w.heap.size) (ok := fun k_ => (True ∧ k_ ≠ ak)) (n := ac.length) (c := bP) ?_).2.2; exact (caaK)); (case side2 => exact (Kd.R_reads' af.out).2.1); rintro e dw ⟨rfl, hb⟩; refine ⟨_, rfl, ?_⟩; have n0 := G.m (Kd.R_below (caaK) hb); have n1 := G.m (blk_below (g := av) (o := .cells #[.int .i64 ag, .slice (some br) aa.length au] 30 (0, 0)) (caaO) hb); have n2 := G.m (blk_below (g := aq) (o := .cells #[.int .i64 0, .slice none 0 0] 30 (0, 0)) (caaP) hb); have n3 := G.m (blk_below (g := ap) (o := .cells #[.int .i64 ag, .slice b4 ac.length bP] 30 (0, 0)) (caaQ) hb); have n4 := G.m (blk_below (g := ak) (o := .cells #[.int .i64 ((rd_T53 aa ab).f0), .int .i64 ((rd_T53 aa ab).f1)] 53 (0, 0)) (caaN) hb); have n5 := G.bs HB hb; clear af ah aj ai aC HB; revert n0 n1 n2 n3 n4 n5; intro af ah aj ai aC HB; (try clear hb); have ⟨dV, dW, dX, dY⟩ := G.d2 (w := dw) ai; have ⟨dZ, d7, d8, d9⟩ := G.d2 (w := dw) aC) | ((with_reducible refine gate_builtin (b := .append) (xs := #[.tmp 25, .tmp 27]) rfl ?_); at_builtin; refine Kd.R_append k53 (w0 := w) w.heap.size rfl (.tmp 25) (.tmp 27) 28 53 (.agg #[(.int .i64 0), (.int .i64 0)]) 16 rfl Try.underlying28 info53 rfl (by decide) (by omega) (.slice b4 ac.length bP) ac (⟨(rd_T53 aa ab).f0, (rd_T53 aa ab).f1⟩ : S53) [.int .i64 ((rd_T53 aa ab).f0), .int .i64 ((rd_T53 aa ab).f1)] (fun k_ => k_ ≠ ak) (fun _ => False) rfl rfl ?aP (fun _ hk => hk.elim) ?aF ?aO ?aB ?aS ?aL ?_; (case aP => exact k53_mkM _ _ _ (⟨(rd_T53 aa ab).f0, (rd_T53 aa ab).f1⟩ : S53)); (case aB => exact (G.cB HB.out)); (case aF => exact (fun k_ hk => Kd.freshB (g := ak) (o := .cells #[.int .i64 ((rd_T53 aa ab).f0), .int .i64 ((rd_T53 aa ab).f1)] 53 (0, 0)) (G.cb aC.out) k_ hk)); (case aO => exact (by (with_reducible repeat (first | apply Kd.R_alloc | apply Kd.R_drewN | apply Kd.R_drew)); exact Kd.R_mono af.out (fun _ hk => hk.2))); (case aS => exact (below_size (G.cB HB.out))); (case aL => have := di.out; omega); intro fu en ho hb hg hat; rw [← dj.out] at ho; have n0 := G.bg ah hg (Kd.R_ne af.out ah.out (by decide)); have n1 := G.bg aj hg (Kd.R_ne af.out aj.out (by decide)); have n2 := G.bg ai hg (Kd.R_ne af.out ai.out (by decide)); have n3 := G.bg aC hg (Kd.R_away af.out (fun _ hk => hk.2)); have n4 := G.m (hb); have n5 := G.m (ho); clear ah aj ai aC HB af; revert n0 n1 n2 n3 n4 n5; intro ah aj ai aC HB cx; clear ho hb hg hat; obtain ⟨c_, da, dz⟩ := Kd.R_slice cx.out; subst dz; have ⟨d_, ea, eb, ec⟩ := G.d2 (w := en) ai))
        go_roundg k1
        case measure => have := bk.out; omega
        case rel => exact ⟨(wrap64 (ab + 1)), (b3), (.slice c_ b3.length da), (caaI), H', ⟨by have := bk.out; omega⟩, ⟨by (with_reducible repeat (first | apply Kd.R_alloc | apply Kd.R_drewN | apply Kd.R_drew)); exact Kd.R_mono (Kd.R_far (p := ⟨ap, 1, none⟩) (Kd.R_types cx.out ai.out (by decide)) (fun _ hk => hk.2) (.slice c_ b3.length da)) (fun _ hk => trivial)⟩, ⟨by (with_reducible repeat (first | refine blk_drewN ?_ _ | refine blk_drew ?_ | refine blk_alloc ?_ _)); refine blk_far ?_ az.out _; (with_reducible repeat (first | refine blk_drewN ?_ _ | refine blk_drew ?_ | refine blk_alloc ?_ _)); exact ah.out⟩, ⟨by (with_reducible repeat (first | refine blk_drewN ?_ _ | refine blk_drew ?_ | refine blk_alloc ?_ _)); refine blk_far ?_ aA.out _; (with_reducible repeat (first | refine blk_drewN ?_ _ | refine blk_drew ?_ | refine blk_alloc ?_ _)); exact aj.out⟩, ⟨by (with_reducible repeat (first | refine blk_drewN ?_ _ | refine blk_drew ?_ | refine blk_alloc ?_ _)); refine blk_put (cs := #[.int .i64 ag, .slice b4 ac.length bP]) ?_ 1 _ rfl; (with_reducible repeat (first | refine blk_drewN ?_ _ | refine blk_drew ?_ | refine blk_alloc ?_ _)); exact ai.out⟩, ⟨G.cB HB.out⟩⟩
       ·rw [if_neg cw] at H; exact absurd H (by simp)
     ·rw [if_neg cu] at H; exact absurd H (by simp)
    ·rw [if_neg ct] at H; exact absurd H (by simp)
   ·rw [if_neg bW] at H; have df : decide (ab < (aa.length : Int)) = false := decide_eq_false bW; clear bW; simp only [Option.some.injEq, Prod.mk.injEq] at H; obtain ⟨rfl, rfl⟩ := H; have e8 := aX.out; have e9 := az.out; have fa := aY.out; have fb := aA.out; have ⟨ed, ee, ef, eg⟩ := G.d2 (w := wr) ai; have fc := bH.out; have fd := bG.out; have ⟨eh, ei, ej, ek⟩ := G.d2 (w := wr) aj; obtain ⟨db, dc, dA⟩ := Kd.R_slice af.out; subst dA
    go_wp2; refine bodyPost_ret (results_cell_row rfl _ _ aq 30 #[.int .i64 ag, .slice db ac.length dc] (0, 0) _ rfl (by (with_reducible repeat (first | refine blk_drewN ?_ _ | refine blk_drew ?_ | refine blk_alloc ?_ _)); refine blk_put (cs := #[.int .i64 ag, .slice none 0 0]) ?_ 1 _ rfl; (with_reducible repeat (first | refine blk_drewN ?_ _ | refine blk_drew ?_ | refine blk_alloc ?_ _)); refine blk_put (cs := #[.int .i64 0, .slice none 0 0]) ?_ 0 _ rfl; (with_reducible repeat (first | refine blk_drewN ?_ _ | refine blk_drew ?_ | refine blk_alloc ?_ _)); exact aj.out) Try.underlying30 rfl (by kernel_rfl)) rfl ?_; exact ⟨_, by first | rfl | (simp [errW_none, errW_some] <;> rfl) | (simp [*, errW_none, errW_some] <;> rfl), by (with_reducible repeat (first | apply Kd.R_alloc | apply Kd.R_drewN | apply Kd.R_drew)); exact Kd.R_mono (Kd.R_far (p := ⟨aq, 1, none⟩) (Kd.R_far (p := ⟨aq, 0, none⟩) (Kd.R_types af.out aj.out (by decide)) (fun _ hk => hk.2) (.int .i64 ag)) (fun _ hk => hk.2) (.slice db ac.length dc)) (fun _ hk => trivial), G.cB HB.out⟩
def impl_tie.f (a0 : Int) (a1 : Int) : Option (Int × Int) := some (mn a0 a1, mx a0 a1)
set_option maxHeartbeats 8000000 in
set_option maxRecDepth 100000 in
theorem impl_tie.calls (a0 : Int) (a1 : Int) (r1 : Int) (r2 : Int) (w : World) (h : impl_tie.f a0 a1 = some (r1, r2)) :
  Calls Try.prog 66 #[.int .i64 a0, .int .i64 a1] w fun e w' => e = .returned (.agg #[.int .i64 r1, .int .i64 r2]) ∧ Below w.heap.size w w' := by
 have ck := Try.underlying53; have HB := G.m (Below.refl w.heap.size w); have H : (some (mn a0 a1, mx a0 a1)) = some (r1, r2) := h; clear h; obtain ⟨ch, b5⟩ : ∃ j_ : Int, (mn a0 a1) = j_ := ⟨_, rfl⟩; replace H : (some (ch, mx a0 a1)) = some (r1, r2) := by first | (rw [b5] at H; exact H) | (simp only [b5] at H ⊢; exact H)
 have fe : (if a1 < a0 then a1 else a0) = ch := b5; obtain ⟨dd, b6⟩ : ∃ j_ : Int, (mx a0 a1) = j_ := ⟨_, rfl⟩; replace H : (some (ch, dd)) = some (r1, r2) := by first | (rw [b6] at H; exact H) | (simp only [b6] at H ⊢; exact H)
 have ff : (if a0 < a1 then a1 else a0) = dd := b6; simp only [Option.some.injEq, Prod.mk.injEq] at H; obtain ⟨rfl, rfl⟩ := H
 go_enter Try.func66, Try.ntmps66
 go_wp2_with (first | ((with_reducible refine G.h 4 rfl ?_); refine G.be 4 #[.int .i64 0, .int .i64 0] 53 ?_; intro b7 hg w5 hbox hb; have n0 := G.bs HB hb; have n1 := G.m (hbox); have n2 := G.m (caaH : w.heap.size ≤ b7); have n3 := G.m (caaH : w.heap.size ≤ b7); clear HB; revert n0 n1 n2 n3; intro HB cy fg fh; clear hb hbox hg; have ⟨eo, ep, eq, er⟩ := G.d2 (w := w5) cy))
 refine bodyPost_ret (results_cell_row rfl _ _ b7 53 #[.int .i64 ch, .int .i64 dd] (0, 0) _ rfl (by (with_reducible repeat (first | refine blk_drewN ?_ _ | refine blk_drew ?_ | refine blk_alloc ?_ _)); refine blk_put (cs := #[.int .i64 ch, .int .i64 0]) ?_ 1 _ rfl; (with_reducible repeat (first | refine blk_drewN ?_ _ | refine blk_drew ?_ | refine blk_alloc ?_ _)); refine blk_put (cs := #[.int .i64 0, .int .i64 0]) ?_ 0 _ rfl; (with_reducible repeat (first | refine blk_drewN ?_ _ | refine blk_drew ?_ | refine blk_alloc ?_ _)); exact cy.out) Try.underlying53 rfl (by kernel_rfl)) rfl ?_; exact ⟨by first | rfl | (simp [errW_none, errW_some] <;> rfl) | (simp only [← b5, ← b6]; first | rfl | (simp [errW_none, errW_some] <;> rfl)) | (simp [*, errW_none, errW_some] <;> rfl), G.cB HB.out⟩
def slices_Index_impl_Tie_impl_Tie.l0 : Nat → List (S53) → Int → Int → Int → Int → Option (Int)
 | 0, _, _, _, _, _ => none
 | k + 1, x0, x7, x8, bX, bY => if x8 < x7 then (if 0 ≤ x8 then (if x8 < (x0.length : Int) then (if (bX == ((rd_T53 x0 x8).f0) && (bY == ((rd_T53 x0 x8).f1))) = true then (some x8) else (slices_Index_impl_Tie_impl_Tie.l0 k x0 x7 (wrap64 (x8 + 1)) bX bY)) else (none)) else (none)) else (some (-1))
def slices_Index_impl_Tie_impl_Tie.f (k : Nat) (l0 : List (S53)) (am : Int) (ao : Int) : Option (Int) := slices_Index_impl_Tie_impl_Tie.l0 k l0 (l0.length : Int) 0 am ao
set_option maxHeartbeats 8000000 in
set_option maxRecDepth 100000 in
theorem slices_Index_impl_Tie_impl_Tie.calls (k : Nat) (A0 : Option Addr) (c0 : Nat) (l0 : List (S53)) (am : Int) (ao : Int) (r : Int) (w : World) (bc : Kd.C k53 w A0 l0.length l0) (bd : l0.length ≤ c0) (h : slices_Index_impl_Tie_impl_Tie.f k l0 am ao = some r) :
  Calls Try.prog 96 #[.slice A0 l0.length c0, .agg #[.int .i64 am, .int .i64 ao]] w fun e w' => e = .returned (.int .i64 r) ∧ Below w.heap.size w w' := by
 have ck := Try.underlying53; have bB := G.m bc; have ci := G.m bd; clear bc bd; have HB := G.m (Below.refl w.heap.size w); have H : (slices_Index_impl_Tie_impl_Tie.l0 k l0 (l0.length : Int) 0 am ao) = some r := h; clear h; have H' := G.m H; clear H
 go_enter Try.func96, Try.ntmps96
 go_wp2_with (first | ((with_reducible refine G.h 3 rfl ?_); refine G.be 3 #[.int .i64 am, .int .i64 ao] 53 ?_; intro aK hg w3 hbox hb; have n0 := G.bs HB hb; have n1 := G.m (hbox); have n2 := G.m (caaH : w.heap.size ≤ aK); have n3 := G.m (caaH : w.heap.size ≤ aK); clear HB; revert n0 n1 n2 n3; intro HB a8 cz cA; clear hb hbox hg))
 repeat (go_quiet (first | ((with_reducible refine G.h 3 rfl ?_); refine G.be 3 #[.int .i64 am, .int .i64 ao] 53 ?_; intro aK hg w3 hbox hb; have n0 := G.bs HB hb; have n1 := G.m (hbox); have n2 := G.m (caaH : w.heap.size ≤ aK); have n3 := G.m (caaH : w.heap.size ≤ aK); clear HB; revert n0 n1 n2 n3; intro HB a8 cz cA; clear hb hbox hg)); try go_wp2_with (first | ((with_reducible refine G.h 3 rfl ?_); refine G.be 3 #[.int .i64 am, .int .i64 ao] 53 ?_; intro aK hg w3 hbox hb; have n0 := G.bs HB hb; have n1 := G.m (hbox); have n2 := G.m (caaH : w.heap.size ≤ aK); have n3 := G.m (caaH : w.heap.size ≤ aK); clear HB; revert n0 n1 n2 n3; intro HB a8 cz cA; clear hb hbox hg)))
 go_loopg [8] k (fun kq v8 w' => ∃ (ae : Int), v8 = .int .i64 ae ∧ Aside0 (slices_Index_impl_Tie_impl_Tie.l0 kq l0 (l0.length : Int) ae am ao = some r) ∧ Aside0 (kq ≤ k) ∧ Aside0 (w'.heap[aK]? = some (.cells #[.int .i64 am, .int .i64 ao] 53 (0, 0))) ∧ Aside0 (Below w.heap.size w w'))
 case atStart => exact ⟨(0), (caaI), H', ⟨Nat.le_refl _⟩, ⟨G.cb a8.out⟩, ⟨G.cB HB.out⟩⟩
 case round =>
  clear H'; try clear p2
  obtain ⟨ae, rfl, HA, bk, a8, HB⟩ := hrel; cases gk with
  | zero => exact absurd HA.out (by simp [slices_Index_impl_Tie_impl_Tie.l0])
  | succ k1 =>
   have H := HA.out; clear HA; simp only [slices_Index_impl_Tie_impl_Tie.l0] at H
   by_cases c4 : ae < (l0.length : Int)
   ·rw [if_pos c4] at H; have de : decide (ae < (l0.length : Int)) = true := decide_eq_true c4; clear c4
    by_cases c5 : 0 ≤ ae
    ·rw [if_pos c5] at H; have cP : decide (0 ≤ ae) = true := decide_eq_true c5; clear c5
     by_cases c6 : ae < (l0.length : Int)
     ·rw [if_pos c6] at H; have cj : decide (ae < (l0.length : Int)) = true := decide_eq_true c6; clear c6
      by_cases c7 : (am == ((rd_T53 l0 ae).f0) && (ao == ((rd_T53 l0 ae).f1))) = true
      ·rw [if_pos c7] at H; have cQ : (am == ((rd_T53 l0 ae).f0) && (ao == ((rd_T53 l0 ae).f1))) = true := c7; (try (have dB : decide (am = ((rd_T53 l0 ae).f0) && (ao == ((rd_T53 l0 ae).f1))) = true := by simpa using c7)); (try (have dC : (am == ((rd_T53 l0 ae).f0) && (ao == ((rd_T53 l0 ae).f1))) = true := by simpa using c7)); clear c7; obtain rfl := Option.some.inj H; have ⟨es, et, eu, ev⟩ := G.d2 (w := wr) a8; have bn : 0 ≤ (ae : Int) := of_decide_eq_true (G.asm); have bo : ae < (l0.length : Int) := of_decide_eq_true (G.asm); obtain ⟨dk, cn, a6, a7⟩ := at_T53 bB.out ae bn bo; cases cn; replace a6 := G.hx HB a6; replace a7 := G.hx HB a7; replace bn := eq_true bn; replace bo := eq_true bo
       go_wp2
       repeat (go_quiet (fail); try go_wp2)
       go_ret
       exact ⟨caaJ, G.cB HB.out⟩
      ·rw [if_neg c7] at H; have cQ : (am == ((rd_T53 l0 ae).f0) && (ao == ((rd_T53 l0 ae).f1))) = false := by simpa using c7
       (try (have dB : decide (am = ((rd_T53 l0 ae).f0) && (ao == ((rd_T53 l0 ae).f1))) = false := by simpa using c7)); (try (have dC : (am == ((rd_T53 l0 ae).f0) && (ao == ((rd_T53 l0 ae).f1))) = false := by simpa using c7)); (try (have fv : ¬ (am = ((rd_T53 l0 ae).f0) && (ao == ((rd_T53 l0 ae).f1))) := by simpa using c7)); clear c7; have H' := G.m H; clear H; have ⟨ew, ex, ey, ez⟩ := G.d2 (w := wr) a8; have bn : 0 ≤ (ae : Int) := of_decide_eq_true (G.asm); have bo : ae < (l0.length : Int) := of_decide_eq_true (G.asm); obtain ⟨dk, cn, a6, a7⟩ := at_T53 bB.out ae bn bo; cases cn; replace a6 := G.hx HB a6; replace a7 := G.hx HB a7; replace bn := eq_true bn; replace bo := eq_true bo
       go_wp2
       repeat (go_quiet (fail); try go_wp2)
       go_roundg k1
       case measure => have := bk.out; omega
       case rel => exact ⟨(wrap64 (ae + 1)), (caaI), H', ⟨by have := bk.out; omega⟩, ⟨G.cb a8.out⟩, ⟨G.cB HB.out⟩⟩
     ·rw [if_neg c6] at H; exact absurd H (by simp)
    ·rw [if_neg c5] at H; exact absurd H (by simp)
   ·rw [if_neg c4] at H; have de : decide (ae < (l0.length : Int)) = false := decide_eq_false c4; clear c4; obtain rfl := Option.some.inj H
    go_wp2
    repeat (go_quiet (fail); try go_wp2)
    go_ret
    exact ⟨caaJ, G.cB HB.out⟩
def slices_Contains_impl_Tie_impl_Tie.f (k : Nat) (l0 : List (S53)) (am : Int) (ao : Int) : Option (Bool) := (slices_Index_impl_Tie_impl_Tie.f k l0 am ao).bind fun bD => (some (decide (bD ≥ 0)))
set_option maxHeartbeats 8000000 in
set_option maxRecDepth 100000 in
theorem slices_Contains_impl_Tie_impl_Tie.calls (k : Nat) (A0 : Option Addr) (c0 : Nat) (l0 : List (S53)) (am : Int) (ao : Int) (r : Bool) (w : World) (bc : Kd.C k53 w A0 l0.length l0) (bd : l0.length ≤ c0) (h : slices_Contains_impl_Tie_impl_Tie.f k l0 am ao = some r) :
  Calls Try.prog 83 #[.slice A0 l0.length c0, .agg #[.int .i64 am, .int .i64 ao]] w fun e w' => e = .returned (.bool r) ∧ Below w.heap.size w w' := by
 have ck := Try.underlying53; have bB := G.m bc; have ci := G.m bd; clear bc bd; have HB := G.m (Below.refl w.heap.size w); have H : ((slices_Index_impl_Tie_impl_Tie.f k l0 am ao).bind fun bD => (some (decide (bD ≥ 0)))) = some r := h; clear h; obtain ⟨bD, A3, H⟩ := G.bi H; replace H : (some (decide (bD ≥ 0))) = some r := H; obtain rfl := Option.some.inj H
 go_enter Try.func83, Try.ntmps83
 go_wp2_with (first | ((with_reducible refine G.h 3 rfl ?_); refine G.be 3 #[.int .i64 am, .int .i64 ao] 53 ?_; intro cD hg w4 hbox hb; have n0 := G.bs HB hb; have n1 := G.m (hbox); have n2 := G.m (caaH : w.heap.size ≤ cD); have n3 := G.m (caaH : w.heap.size ≤ cD); clear HB; revert n0 n1 n2 n3; intro HB bI fi fj; clear hb hbox hg; have ⟨b_, ca, cd, ce⟩ := G.d2 (w := w4) bI) | ((with_reducible refine G.f 96 rfl ?_); refine G.gL 7 Try.func96 #[.slice A0 l0.length c0, .agg #[.int .i64 am, .int .i64 ao]] ?_; (with_reducible refine (slices_Index_impl_Tie_impl_Tie.calls k _ _ l0 am ao bD _ ?side1 ?side2 A3.out).mono ?_); (case side1 => exact G.cC (Kd.C_below bB.out HB.out)); (case side2 => exact ci.out); rintro e w6 ⟨rfl, hb⟩; refine ⟨_, rfl, ?_⟩; have n0 := G.bb bI hb; have n1 := G.bs HB hb; clear bI HB; revert n0 n1; intro bI HB; (try clear hb)))
 go_ret
 exact ⟨caaJ, G.cB HB.out⟩
def impl_Net_has.f (k : Nat) (ag : Int) (aa : List (S53)) (a1 : Int) (a2 : Int) : Option (Bool) := (impl_tie.f a1 a2).bind fun bC => ((slices_Contains_impl_Tie_impl_Tie.f k aa bC.1 bC.2).bind fun bf => (some bf))
set_option maxHeartbeats 8000000 in
set_option maxRecDepth 100000 in
theorem impl_Net_has.calls (k : Nat) (ag : Int) (ax : Option Addr) (au : Nat) (aa : List (S53)) (a1 : Int) (a2 : Int) (r : Bool) (w : World) (aT : Kd.C k53 w ax aa.length aa) (aU : aa.length ≤ au) (h : impl_Net_has.f k ag aa a1 a2 = some r) :
  Calls Try.prog 63 #[.agg #[.int .i64 ag, .slice ax aa.length au], .int .i64 a1, .int .i64 a2] w fun e w' => e = .returned (.bool r) ∧ Below w.heap.size w w' := by
 have cO := Try.underlying30; have aV := G.m aT; have bh := G.m aU; clear aT aU; have HB := G.m (Below.refl w.heap.size w); have H : ((impl_tie.f a1 a2).bind fun bC => ((slices_Contains_impl_Tie_impl_Tie.f k aa bC.1 bC.2).bind fun bf => (some bf))) = some r := h; clear h; obtain ⟨⟨b8, b9⟩, A4, H⟩ := G.bi H; replace H : ((slices_Contains_impl_Tie_impl_Tie.f k aa b8 b9).bind fun bf => (some bf)) = some r := H; obtain ⟨bf, A5, H⟩ := G.bi H; replace H : (some bf) = some r := H; obtain rfl := Option.some.inj H
 go_enter Try.func63, Try.ntmps63; try go_wp2_with (first | ((with_reducible refine G.h 3 rfl ?_); refine G.be 3 #[.int .i64 ag, .slice ax aa.length au] 30 ?_; intro bJ hg w6 hbox hb; have n0 := G.bs HB hb; have n1 := G.m (hbox); have n2 := G.m (caaH : w.heap.size ≤ bJ); have n3 := G.m (caaH : w.heap.size ≤ bJ); clear HB; revert n0 n1 n2 n3; intro HB aw fk fm; clear hb hbox hg))
 have n0 := G.m (blk_drew aw.out); have n1 := G.m (below_drew1 HB.out); clear aw HB; revert n0 n1; intro aw HB; refine start_ (n := 7) (S := fun w' => w'.cell? ⟨bJ, 0, none⟩ = some (.int .i64 ag) ∧ w'.cell? ⟨bJ, 1, none⟩ = some (.slice ax aa.length au)) (ds := []) (G.fl 7 0) (by kernel_rfl) rfl (by kernel_rfl) ⟨G.z aw 0, G.z aw 1⟩ (fun hHeld => ?_); generalize w6.drew = w7 at aw HB hHeld ⊢; refine G.pu 0 7 1 ?_; refine G.pu 2 9 5 ?_; refine G.pu 3 10 13 ?_; refine G.ta2 1 8 15 ?_; refine one_ (i := 4) (N := some 11) (G.fl 7 31) rfl rfl (by kernel_rfl) (by decide) (fun K hK => ?_); refine G.gs Try.func66 #[.int .i64 a1, .int .i64 a2] ?_; with_reducible refine (impl_tie.calls a1 a2 b8 b9 _ A4.out).mono ?_
 rintro e w8 ⟨rfl, hb⟩; refine ⟨_, rfl, ?_⟩; have n0 := G.bb aw hb; have n1 := G.bs HB hb; clear aw HB; revert n0 n1; intro aw HB; (try clear hb); refine hK.out _ _ ⟨G.z aw 0, G.z aw 1⟩ (fun hHeld => ?_); clear hK K; refine G.no 11 ?_; refine one_ (i := 5) (N := some 12) (G.fl 7 63) rfl rfl (by kernel_rfl) (by decide) (fun K hK => ?_); refine G.gs Try.func83 #[.slice ax aa.length au, .agg #[.int .i64 b8, .int .i64 b9]] ?_; with_reducible refine (slices_Contains_impl_Tie_impl_Tie.calls k _ _ aa b8 b9 bf _ ?side1 ?side2 A5.out).mono ?_
 (case side1 => exact G.cC (Kd.C_below aV.out HB.out)); (case side2 => exact bh.out); rintro e w9 ⟨rfl, hb⟩; refine ⟨_, rfl, ?_⟩; have n0 := G.bb aw hb; have n1 := G.bs HB hb; clear aw HB; revert n0 n1; intro aw HB; (try clear hb); refine hK.out _ _ ⟨G.z aw 0, G.z aw 1⟩ (fun hHeld => ?_); clear hK K; refine G.no 12 ?_; refine G.pu 6 6 127 ?_; refine done_ (by kernel_rfl) ?_; try go_wp2
 go_ret
 exact ⟨caaJ, G.cB HB.out⟩
def slices_Index_int_int.l0 : Nat → List Int → Int → Int → Int → Option (Int)
 | 0, _, _, _, _ => none
 | k + 1, x0, x1, x7, x8 => if x8 < x7 then (if 0 ≤ x8 then (if x8 < (x0.length : Int) then (if x1 = (rd x0 x8) then (some x8) else (slices_Index_int_int.l0 k x0 x1 x7 (wrap64 (x8 + 1)))) else (none)) else (none)) else (some (-1))
def slices_Index_int_int.f (k : Nat) (l0 : List Int) (a1 : Int) : Option (Int) := slices_Index_int_int.l0 k l0 a1 (l0.length : Int) 0
set_option maxHeartbeats 8000000 in
set_option maxRecDepth 100000 in
theorem slices_Index_int_int.calls (k : Nat) (A0 : Option Addr) (c0 : Nat) (l0 : List Int) (a1 : Int) (r : Int) (w : World) (bc : Kd.C (Kd.int .i64) w A0 l0.length l0) (bd : l0.length ≤ c0) (h : slices_Index_int_int.f k l0 a1 = some r) :
  Calls Try.prog 95 #[.slice A0 l0.length c0, .int .i64 a1] w fun e w' => e = .returned (.int .i64 r) ∧ Drawn0 w w' := by
 have bB := G.m bc; have ci := G.m bd; clear bc bd; have H : (slices_Index_int_int.l0 k l0 a1 (l0.length : Int) 0) = some r := h; clear h; have H' := G.m H; clear H
 go_enter Try.func95, Try.ntmps95
 go_wp2
 go_loopg [8] k (fun kq v8 w' => ∃ (ae : Int), v8 = .int .i64 ae ∧ Aside0 (slices_Index_int_int.l0 kq l0 a1 (l0.length : Int) ae = some r) ∧ Aside0 (kq ≤ k) ∧ Drawn0 w w')
 case atStart => exact ⟨(0), (caaI), H', ⟨Nat.le_refl _⟩, by repeat (first | exact Drawn0.refl _ | apply Drawn0.step)⟩
 case round =>
  clear H'; try clear p2
  obtain ⟨ae, rfl, HA, bk, ⟨m1, rfl⟩⟩ := hrel; cases gk with
  | zero => exact absurd HA.out (by simp [slices_Index_int_int.l0])
  | succ k1 =>
   have H := HA.out; clear HA; simp only [slices_Index_int_int.l0] at H
   by_cases c3 : ae < (l0.length : Int)
   ·rw [if_pos c3] at H; have dD : decide (ae < (l0.length : Int)) = true := decide_eq_true c3; clear c3
    by_cases c4 : 0 ≤ ae
    ·rw [if_pos c4] at H; have de : decide (0 ≤ ae) = true := decide_eq_true c4; clear c4
     by_cases c5 : ae < (l0.length : Int)
     ·rw [if_pos c5] at H; have cP : decide (ae < (l0.length : Int)) = true := decide_eq_true c5; clear c5
      by_cases c6 : a1 = (rd l0 ae)
      ·rw [if_pos c6] at H; have cj : (a1 == (rd l0 ae)) = true := beq_iff_eq.mpr c6; have dE : (a1 != (rd l0 ae)) = false := bne_eq_false_iff_eq.mpr c6; clear c6; obtain rfl := Option.some.inj H; have bp : 0 ≤ (ae : Int) := of_decide_eq_true (G.asm); have bq : ae < (l0.length : Int) := of_decide_eq_true (G.asm); obtain ⟨dl, co, cN⟩ := Kd.at_int bB.out ae bp bq; cases co; replace bp := eq_true bp; replace bq := eq_true bq
       go_wp2
       go_ret
       exact ⟨caaI, by repeat (first | exact Drawn0.refl _ | apply Drawn0.step)⟩
      ·rw [if_neg c6] at H; have cj : (a1 == (rd l0 ae)) = false := beq_eq_false_iff_ne.mpr c6; have dE : (a1 != (rd l0 ae)) = true := bne_iff_ne.mpr c6; have H' := G.m H; clear H; have bp : 0 ≤ (ae : Int) := of_decide_eq_true (G.asm); have bq : ae < (l0.length : Int) := of_decide_eq_true (G.asm); obtain ⟨dl, co, cN⟩ := Kd.at_int bB.out ae bp bq; cases co; replace bp := eq_true bp; replace bq := eq_true bq
       go_wp2
       go_roundg k1
       case measure => have := bk.out; omega
       case rel => exact ⟨(wrap64 (ae + 1)), (caaI), H', ⟨by have := bk.out; omega⟩, by repeat (first | exact Drawn0.refl _ | apply Drawn0.step)⟩
     ·rw [if_neg c5] at H; exact absurd H (by simp)
    ·rw [if_neg c4] at H; exact absurd H (by simp)
   ·rw [if_neg c3] at H; have dD : decide (ae < (l0.length : Int)) = false := decide_eq_false c3; clear c3; obtain rfl := Option.some.inj H
    go_wp2
    go_ret
    exact ⟨caaI, by repeat (first | exact Drawn0.refl _ | apply Drawn0.step)⟩
def slices_Contains_int_int.f (k : Nat) (l0 : List Int) (a1 : Int) : Option (Bool) := (slices_Index_int_int.f k l0 a1).bind fun bE => (some (decide (bE ≥ 0)))
set_option maxHeartbeats 8000000 in
set_option maxRecDepth 100000 in
theorem slices_Contains_int_int.calls (k : Nat) (A0 : Option Addr) (c0 : Nat) (l0 : List Int) (a1 : Int) (r : Bool) (w : World) (bc : Kd.C (Kd.int .i64) w A0 l0.length l0) (bd : l0.length ≤ c0) (h : slices_Contains_int_int.f k l0 a1 = some r) :
  Calls Try.prog 82 #[.slice A0 l0.length c0, .int .i64 a1] w fun e w' => e = .returned (.bool r) ∧ Drawn0 w w' := by
 have bB := G.m bc; have ci := G.m bd; clear bc bd; have H : ((slices_Index_int_int.f k l0 a1).bind fun bE => (some (decide (bE ≥ 0)))) = some r := h; clear h; obtain ⟨bE, A3, H⟩ := G.bi H; replace H : (some (decide (bE ≥ 0))) = some r := H; obtain rfl := Option.some.inj H
 go_enter Try.func82, Try.ntmps82
 go_wp2_with (first | ((with_reducible refine G.f 95 rfl ?_); refine G.gL 7 Try.func95 #[.slice A0 l0.length c0, .int .i64 a1] ?_; (with_reducible refine (slices_Index_int_int.calls k _ _ l0 a1 bE _ ?side1 ?side2 A3.out).mono ?_); (case side1 => exact G.cC bB.out); (case side2 => exact ci.out); rintro e w' ⟨rfl, ⟨nd, rfl⟩⟩; refine ⟨_, rfl, ?_⟩))
 go_ret
 exact ⟨caaI, by repeat (first | exact Drawn0.refl _ | apply Drawn0.step)⟩
end Go.Proofs.Ytddadihobjinhaa.P
namespace Go.Proofs.Ytddadihobjinhaa.G
open Go.RowKit Go.Proofs.YtddadihobjinhaaW.PrintWords
abbrev big : Int := 4611686018427387904
theorem w64 {x : Int} (h0 : -9223372036854775808 ≤ x) (h1 : x ≤ 9223372036854775807) : wrap64 x = x := by
 unfold wrap64
 omega
theorem lt_mid {α : Type} (pre : List α) (t : α) (suf : List α) : (pre.length : Int) < ((pre ++ t :: suf).length : Int) := by
 simp; omega
theorem nlt_end {α : Type} (pre : List α) : ¬ (pre.length : Int) < ((pre ++ []).length : Int) := by
 simp
theorem nn (n : Nat) : 0 ≤ (n : Int) := Int.natCast_nonneg n
theorem app_one {α : Type} (pre : List α) (t : α) (suf : List α) : pre ++ t :: suf = (pre ++ [t]) ++ suf := by simp
theorem w_succ {α : Type} {pre : List α} {t : α} (h : (pre.length : Int) < big) : wrap64 ((pre.length : Int) + 1) = ((pre ++ [t]).length : Int) := by
 rw [w64 (by omega) (by unfold big at h; omega)]; simp
theorem getD_mid {α : Type} (pre : List α) (t : α) (suf : List α) (d : α) : (pre ++ t :: suf).getD ((pre.length : Int)).toNat d = t := by
 simp [List.getD]
theorem rd_mid (pre : List Int) (t : Int) (suf : List Int) : rd (pre ++ t :: suf) (pre.length : Int) = t := by
 unfold rd; exact getD_mid pre t suf 0
theorem len_mid {α : Type} {pre : List α} {t : α} {suf : List α} (h : ((pre ++ t :: suf).length : Int) < big) : (pre.length : Int) < big := by
 simp at h; unfold big at *; omega
theorem len_app {α : Type} {pre : List α} {t : α} {suf : List α} (h : ((pre ++ t :: suf).length : Int) < big) : (((pre ++ [t]) ++ suf).length : Int) < big := by
 rw [← app_one]; exact h
theorem Ev.val {α : Type} {a : Option α} {r : α} (h : a = some r) : Ev (fun _ => a) r := ⟨0, fun _ _ => h⟩
theorem Ev.eq {α : Type} {g : Nat → Option α} {r s : α} (h : Ev g r) (e : r = s) : Ev g s := e ▸ h
theorem Ev.unique {α : Type} {g : Nat → Option α} {r s : α} (h : Ev g r) (k : Ev g s) : r = s := by
 obtain ⟨K, h⟩ := h
 obtain ⟨L, k⟩ := k
 have := (h (max K L) (by omega)).symm.trans (k (max K L) (by omega))
 injection this
def tlt (s t : Tie) : Prop := s.f0 < t.f0 ∨ s.f0 = t.f0 ∧ s.f1 < t.f1
instance (s t : Tie) : Decidable (tlt s t) := by unfold tlt; infer_instance
def inr (n : Int) (t : Tie) : Prop := 0 ≤ t.f0 ∧ t.f0 < t.f1 ∧ t.f1 < n
instance (n : Int) (t : Tie) : Decidable (inr n t) := by unfold inr; infer_instance
def asc : List Tie → Prop
 | [] => True
 | [_] => True
 | a :: b :: r => tlt a b ∧ asc (b :: r)
instance asc_dec : (l : List Tie) → Decidable (asc l)
 | [] => isTrue trivial
 | [_] => isTrue trivial
 | a :: b :: r => by
  have := asc_dec (b :: r)
  unfold asc
  infer_instance
def ok (n : Int) (E : List Tie) : Prop := 0 ≤ n ∧ n ≤ 8 ∧ (∀ t ∈ E, inr n t) ∧ asc E
instance (n : Int) (E : List Tie) : Decidable (ok n E) := by unfold ok; infer_instance
theorem tlt_trans {a b c : Tie} (h : tlt a b) (k : tlt b c) : tlt a c := by
 unfold tlt at *; omega
theorem asc_cons {a : Tie} {l : List Tie} : asc (a :: l) ↔ (∀ t ∈ l, tlt a t) ∧ asc l := by
 induction l generalizing a with
 | nil => simp [asc]
 | cons b r ih =>
  constructor
  ·intro h
   obtain ⟨h1, h2⟩ := h
   refine ⟨fun t ht => ?_, h2⟩
   rcases List.mem_cons.1 ht with rfl | ht
   ·exact h1
   ·exact tlt_trans h1 ((ih.1 h2).1 t ht)
  ·rintro ⟨h1, h2⟩
   exact ⟨h1 b (List.mem_cons_self), h2⟩
theorem asc_pairwise {l : List Tie} : asc l ↔ l.Pairwise tlt := by
 induction l with
 | nil => simp [asc]
 | cons a l ih => rw [asc_cons, List.pairwise_cons, ih]
theorem asc_sublist {l m : List Tie} (h : asc m) (s : l.Sublist m) : asc l := by
 rw [asc_pairwise] at *; exact h.sublist s
theorem ok_sublist {n : Int} {E F : List Tie} (h : ok n E) (s : F.Sublist E) : ok n F :=
 ⟨h.1, h.2.1, fun t ht => h.2.2.1 t (s.subset ht), asc_sublist h.2.2.2 s⟩
theorem asc_len {l : List Tie} (lo : Int) (hl : ∀ t ∈ l, 0 ≤ t.f0 ∧ t.f0 < 8 ∧ 0 ≤ t.f1 ∧ t.f1 < 8) (h : asc l) (hlo : ∀ t ∈ l, lo ≤ t.f0 * 8 + t.f1) (h64 : lo ≤ 64) : (l.length : Int) ≤ 64 - lo := by
 induction l generalizing lo with
 | nil => simp; omega
 | cons a r ih =>
  obtain ⟨h1, h2⟩ := asc_cons.1 h
  have ha := hlo a (List.mem_cons_self)
  have hb := hl a (List.mem_cons_self)
  have := ih (a.f0 * 8 + a.f1 + 1) (fun t ht => hl t (List.mem_cons_of_mem _ ht)) h2 (fun t ht => by
   have := h1 t ht
   have hc := hl t (List.mem_cons_of_mem _ ht)
   unfold tlt at this; omega) (by omega)
  simp only [List.length_cons]
  omega
theorem ok_len {n : Int} {E : List Tie} (h : ok n E) : (E.length : Int) ≤ 64 := by
 have := asc_len (l := E) 0 (fun t ht => by have := h.2.2.1 t ht; have := h.2.1; unfold inr at *; omega) h.2.2.2 (fun t ht => by have := h.2.2.1 t ht; unfold inr at this; omega) (by omega)
 omega
end Go.Proofs.Ytddadihobjinhaa.G
namespace Go.Proofs.Ytddadihobjinhaa.P
open Go.RowKit Go.Proofs.YtddadihobjinhaaW.PrintWords Go.Proofs.Ytddadihobjinhaa.G
theorem rdI_mid (pre : List S53) (t : S53) (suf : List S53) : rd_T53 (pre ++ t :: suf) (pre.length : Int) = t := by
  unfold rd_T53; exact getD_mid pre t suf _
theorem in_eq (a b c : Int) : spec_l6In.f a b c = some (decide (b ≤ a ∧ a ≤ c)) := by
  unfold spec_l6In.f
  by_cases h : b ≤ a <;> simp [h]
theorem less_eq (a b c d : Int) : spec_l1Less.f a b c d = some (decide (tlt ⟨a, b⟩ ⟨c, d⟩)) := by
  unfold spec_l1Less.f tlt
  by_cases h : a < c
  · simp [h]
  · by_cases h2 : a = c <;> simp [h, h2]
theorem len_pred {α : Type} (p : List α) (q : α) (h : ((p ++ [q]).length : Int) < big) : wrap64 (((p ++ [q]).length : Int) - 1) = (p.length : Int) := by
  rw [w64 (by rw [List.length_append]; omega) (by unfold big at h; omega)]; simp
theorem mid_one {α : Type} (p : List α) (q : α) (suf : List α) : p ++ [q] ++ suf = p ++ q :: suf := by simp
theorem lt_mid2 {α : Type} (p : List α) (q : α) (suf : List α) : (p.length : Int) < ((p ++ [q] ++ suf).length : Int) := by simp; omega
theorem specOk_l0 (n : Int) (h0 : 0 ≤ n) (h8 : n ≤ 8) : ∀ (suf p : List S53) (q : S53), (((p ++ [q]) ++ suf).length : Int) < big →
    Ev (fun k => spec_NetOk.l0 k ((p ++ [q]).length : Int) n ((p ++ [q]) ++ suf)) (decide ((∀ t ∈ suf, inr n t) ∧ asc (q :: suf))) := by
  intro suf
  induction suf with
  | nil =>
    intro p q hb
    refine Ev.step (fun k => by simp only [spec_NetOk.l0, nlt_end, if_false] <;> exact rfl) ?_
    exact Ev.val (congrArg some (decide_eq_true (by simp [asc])).symm)
  | cons t suf ih =>
    intro p q hb
    have hp : ((p ++ [q]).length : Int) < big := len_mid hb
    have e1 : ((p ++ [q]).length : Int) > 0 := by rw [List.length_append, List.length_singleton]; omega
    refine Ev.step (fun k => by simp only [spec_NetOk.l0, lt_mid, nn, if_true, rdI_mid, in_eq, less_eq, Option.bind_some, e1, len_pred p q hp, lt_mid2, w_succ (t := t) hp] <;> exact rfl) ?_
    have e2 : rd_T53 (p ++ [q] ++ t :: suf) (p.length : Int) = q := by rw [mid_one]; exact rdI_mid p q _
    simp only [e2, decide_eq_true_eq]
    rw [w64 (by omega) (by omega)]
    by_cases c1 : 0 ≤ t.f0 ∧ t.f0 ≤ n - 1
    · simp only [if_pos c1]
      rw [w64 (by omega) (by omega)]
      by_cases c2 : t.f0 + 1 ≤ t.f1 ∧ t.f1 ≤ n - 1
      · simp only [if_pos c2]
        have ht : inr n t := by unfold inr; omega
        by_cases c3 : tlt q t
        · simp only [if_pos c3]
          rw [app_one (p ++ [q]) t suf]
          refine Ev.eq (ih (p ++ [q]) t (len_app hb)) ?_
          rw [decide_eq_decide]
          simp [asc, ht, c3]
        · simp only [if_neg c3]
          exact Ev.val (by simp [asc, c3])
      · simp only [if_neg c2]
        refine Ev.val ?_
        have : ¬ inr n t := by unfold inr; omega
        simp [this]
    · simp only [if_neg c1]
      refine Ev.val ?_
      have : ¬ inr n t := by unfold inr; omega
      simp [this]
theorem specOk (n : Int) (E : List S53) (hb : (E.length : Int) < big) : Ev (fun k => spec_NetOk.f k n E) (decide (ok n E)) := by
  unfold spec_NetOk.f
  simp only [in_eq, Option.bind_some, decide_eq_true_eq]
  by_cases c1 : 0 ≤ n ∧ n ≤ 8
  · simp only [if_pos c1]
    by_cases c2 : (E.length : Int) > 64
    · refine Ev.step (fun k => by simp only [spec_NetOk.j0, c2, decide_true, if_true] <;> exact rfl) ?_
      exact Ev.val (by rw [decide_eq_false (fun h => by have := ok_len h; omega)])
    · refine Ev.step (fun k => by simp only [spec_NetOk.j0, c2, decide_false, Bool.false_eq_true, if_false] <;> exact rfl) ?_
      cases E with
      | nil =>
        refine Ev.step (fun k => by simp [spec_NetOk.l0] <;> exact rfl) ?_
        exact Ev.val (by simp [ok, asc, c1])
      | cons t suf =>
        have l1 : (0 : Int) < ((t :: suf).length : Int) := by rw [List.length_cons]; omega
        have r1 : rd_T53 (t :: suf) 0 = t := rfl
        have h0 : (0 : Int) ≤ 0 := Int.le_refl 0
        have w1 : wrap64 (0 + 1) = 1 := w64 (by omega) (by omega)
        have g1 : ¬ (0 : Int) > 0 := by omega
        refine Ev.step (fun k => by simp only [spec_NetOk.l0, l1, h0, if_true, r1, in_eq, Option.bind_some, w1, g1, if_false, decide_eq_true_eq] <;> exact rfl) ?_
        rw [w64 (by omega) (by omega)]
        by_cases d1 : 0 ≤ t.f0 ∧ t.f0 ≤ n - 1
        · simp only [if_pos d1]
          rw [w64 (by omega) (by omega)]
          by_cases d2 : t.f0 + 1 ≤ t.f1 ∧ t.f1 ≤ n - 1
          · simp only [if_pos d2]
            have ht : inr n t := by unfold inr; omega
            refine Ev.eq (specOk_l0 n c1.1 c1.2 suf [] t hb) ?_
            rw [decide_eq_decide]
            simp [ok, c1, ht]
          · simp only [if_neg d2]
            refine Ev.val ?_
            have : ¬ inr n t := by unfold inr; omega
            simp [this, ok]
        · simp only [if_neg d1]
          refine Ev.val ?_
          have : ¬ inr n t := by unfold inr; omega
          simp [this, ok]
  · simp only [if_neg c1]
    refine Ev.step (fun k => by simp only [spec_NetOk.j0, if_true] <;> exact rfl) ?_
    refine Ev.val ?_
    have : ¬ ok n E := fun h => c1 ⟨h.1, h.2.1⟩
    simp [this]
def cmp3 (x y : Int) : Int := if x < y then -1 else if y < x then 1 else 0
theorem cmp_eq (a b : Int) : cmp_Compare_int.f a b = some (cmp3 a b) := by
  unfold cmp_Compare_int.f cmp3
  simp only [cmp_isNaN_int.f, bne_self_eq_false, Option.bind_some, Bool.false_eq_true, if_false]
  repeat' split
  all_goals first | rfl | omega
def ord (a b c d : Int) : Int := if cmp3 a c = 0 then cmp3 b d else cmp3 a c
theorem ord_neg (a b c d : Int) : ord a b c d ≥ 0 ↔ ¬ tlt ⟨a, b⟩ ⟨c, d⟩ := by
  unfold ord cmp3 tlt
  simp only
  repeat' split
  all_goals omega
theorem or_two (x y : Int) : Ev (fun k => cmp_Or_int.f k [x, y]) (if x = 0 then y else x) := by
  unfold cmp_Or_int.f
  have l : (([x, y] : List Int).length : Int) = 2 := rfl
  have r0 : rd [x, y] 0 = x := rfl
  have r1 : rd [x, y] 1 = y := rfl
  have h0 : (0 : Int) ≤ 0 := Int.le_refl 0
  have a1 : (0 : Int) ≤ 1 := by omega
  have a2 : (0 : Int) < 2 := by omega
  have a3 : (1 : Int) < 2 := by omega
  have a4 : ¬ (2 : Int) < 2 := by omega
  have w1 : wrap64 (0 + 1) = 1 := w64 (by omega) (by omega)
  have w2 : wrap64 (1 + 1) = 2 := w64 (by omega) (by omega)
  refine Ev.step (fun k => by simp only [cmp_Or_int.l0, l, r0, h0, a2, if_true, w1] <;> exact rfl) ?_
  by_cases c : x = 0
  · simp only [if_pos c]
    refine Ev.step (fun k => by simp only [cmp_Or_int.l0, l, r1, a1, a3, if_true, w2] <;> exact rfl) ?_
    by_cases d : y = 0
    · simp only [if_pos d]
      refine Ev.step (fun k => by simp only [cmp_Or_int.l0, a4, if_false] <;> exact rfl) ?_
      exact Ev.val (by rw [d])
    · simp only [if_neg d]
      exact Ev.val rfl
  · simp only [if_neg c]
    exact Ev.val rfl
theorem order_ev (a b c d : Int) : Ev (fun k => impl_tieOrder.f k a b c d) (ord a b c d) := by
  unfold impl_tieOrder.f
  simp only [cmp_eq, Option.bind_some]
  exact Ev.bind (or_two _ _) (Ev.val rfl)
theorem ascending_l0 : ∀ (suf p : List S53) (q : S53), (((p ++ [q]) ++ suf).length : Int) < big →
    Ev (fun k => impl_ascending.l0 k ((p ++ [q]) ++ suf) ((p ++ [q]).length : Int)) (decide (asc (q :: suf))) := by
  intro suf
  induction suf with
  | nil =>
    intro p q hb
    refine Ev.step (fun k => by simp only [impl_ascending.l0, nlt_end, if_false] <;> exact rfl) ?_
    exact Ev.val (congrArg some (decide_eq_true (by simp [asc])).symm)
  | cons t suf ih =>
    intro p q hb
    have hp : ((p ++ [q]).length : Int) < big := len_mid hb
    have e2 : rd_T53 (p ++ [q] ++ t :: suf) (p.length : Int) = q := by rw [mid_one]; exact rdI_mid p q _
    refine Ev.step (fun k => by simp only [impl_ascending.l0, lt_mid, nn, if_true, rdI_mid, len_pred p q hp, lt_mid2, w_succ (t := t) hp, e2] <;> exact rfl) ?_
    refine Ev.bind (order_ev _ _ _ _) ?_
    simp only [ord_neg]
    by_cases c3 : tlt q t
    · simp only [c3, not_true_eq_false, if_false]
      rw [app_one (p ++ [q]) t suf]
      refine Ev.eq (ih (p ++ [q]) t (len_app hb)) ?_
      rw [decide_eq_decide]
      simp [asc, c3]
    · simp only [c3, not_false_eq_true, if_true]
      exact Ev.val (by simp [asc, c3])
theorem ascending_ev (E : List S53) (hb : (E.length : Int) < big) : Ev (fun k => impl_ascending.f k E) (decide (asc E)) := by
  unfold impl_ascending.f
  cases E with
  | nil =>
    refine Ev.step (fun k => by simp [impl_ascending.l0] <;> exact rfl) ?_
    exact Ev.val (congrArg some (decide_eq_true (by simp [asc])).symm)
  | cons t suf => exact ascending_l0 suf [] t hb
theorem implOk_l0 (n : Int) (E : List S53) (hE : (E.length : Int) < big) : ∀ (suf p : List S53), ((p ++ suf).length : Int) < big →
    Ev (fun k => impl_NetOk.l0 k (p ++ suf) ((p ++ suf).length : Int) (p.length : Int) n E) (decide ((∀ t ∈ suf, inr n t) ∧ asc E)) := by
  intro suf
  induction suf with
  | nil =>
    intro p hb
    refine Ev.step (fun k => by simp only [impl_NetOk.l0, nlt_end, if_false] <;> exact rfl) ?_
    refine Ev.bind (ascending_ev E hE) ?_
    exact Ev.val (by simp)
  | cons t suf ih =>
    intro p hb
    have hp : (p.length : Int) < big := len_mid hb
    refine Ev.step (fun k => by simp only [impl_NetOk.l0, lt_mid, nn, if_true, rdI_mid, w_succ (t := t) hp] <;> exact rfl) ?_
    by_cases c1 : t.f0 < 0
    · simp only [if_pos c1]
      exact Ev.val (by have : ¬ inr n t := by unfold inr; omega
                       simp [this])
    · simp only [if_neg c1]
      by_cases c2 : t.f0 ≥ t.f1
      · simp only [if_pos c2]
        exact Ev.val (by have : ¬ inr n t := by unfold inr; omega
                         simp [this])
      · simp only [if_neg c2]
        by_cases c3 : t.f1 ≥ n
        · simp only [if_pos c3]
          exact Ev.val (by have : ¬ inr n t := by unfold inr; omega
                           simp [this])
        · simp only [if_neg c3]
          rw [app_one p t suf]
          refine Ev.eq (ih (p ++ [t]) (len_app hb)) ?_
          have : inr n t := by unfold inr; omega
          rw [decide_eq_decide]
          simp [this]
theorem implOk (n : Int) (E : List S53) (hb : (E.length : Int) < big) : Ev (fun k => impl_NetOk.f k n E) (decide (ok n E)) := by
  unfold impl_NetOk.f
  by_cases c1 : n < 0
  · simp only [if_pos c1]
    refine Ev.step (fun k => by simp only [impl_NetOk.j0, if_true] <;> exact rfl) ?_
    exact Ev.val (by have : ¬ ok n E := fun h => by have := h.1; omega
                     simp [this])
  · simp only [if_neg c1]
    by_cases c2 : n > 8
    · refine Ev.step (fun k => by simp only [impl_NetOk.j0, c2, decide_true, if_true] <;> exact rfl) ?_
      exact Ev.val (by have : ¬ ok n E := fun h => by have := h.2.1; omega
                       simp [this])
    · refine Ev.step (fun k => by simp only [impl_NetOk.j0, c2, decide_false, Bool.false_eq_true, if_false] <;> exact rfl) ?_
      refine Ev.eq (implOk_l0 n E hb E [] hb) ?_
      rw [decide_eq_decide]
      unfold ok
      constructor
      · exact fun h => ⟨by omega, by omega, h.1, h.2⟩
      · exact fun h => ⟨h.2.2.1, h.2.2.2⟩
end Go.Proofs.Ytddadihobjinhaa.P
namespace Go.Proofs.Ytddadihobjinhaa.G
def tieOf (a b : Int) : Tie := if a < b then ⟨a, b⟩ else ⟨b, a⟩
theorem tieOf_comm (a b : Int) : tieOf a b = tieOf b a := by
 unfold tieOf
 rcases Int.lt_trichotomy a b with h | h | h
 ·rw [if_pos h, if_neg (by omega)]
 ·subst h; rfl
 ·rw [if_neg (by omega), if_pos h]
theorem tieOf_inr {n : Int} {t : Tie} (h : inr n t) : tieOf t.f0 t.f1 = t := by
 unfold tieOf; rw [if_pos h.2.1]
theorem tieOf_lt {a b : Int} (h : a < b) : tieOf a b = ⟨a, b⟩ := by unfold tieOf; rw [if_pos h]
end Go.Proofs.Ytddadihobjinhaa.G
namespace Go.Proofs.Ytddadihobjinhaa.P
open Go.RowKit Go.Proofs.YtddadihobjinhaaW.PrintWords Go.Proofs.Ytddadihobjinhaa.G
theorem rdH_mid (pre : List S53) (t : S53) (suf : List S53) : rd_T53 (pre ++ t :: suf) (pre.length : Int) = t := by
 unfold rd_T53; exact getD_mid pre t suf _
theorem l1Tie_eq (a b : Int) : spec_l1Tie.f a b = some ((tieOf a b).f0, (tieOf a b).f1) := by
 unfold spec_l1Tie.f tieOf
 by_cases h : a < b <;> simp [h]
theorem tie_beq (s t : Tie) : (s.f0 == t.f0 && (s.f1 == t.f1)) = decide (s = t) := by
 obtain ⟨a, b⟩ := s
 obtain ⟨c, d⟩ := t
 simp only [Tie.mk.injEq]
 by_cases h : a = c <;> by_cases k : b = d <;> simp [h, k]
theorem l1Has_l0 (n a b : Int) : ∀ (suf p : List S53), ((p ++ suf).length : Int) < big →
  Ev (fun k => spec_l1Has.l0 k a b (p.length : Int) n (p ++ suf)) (decide (tieOf a b ∈ suf)) := by
 intro suf
 induction suf with
 | nil =>
  intro p hb
  refine Ev.step (fun k => by simp only [spec_l1Has.l0, nlt_end, if_false] <;> exact rfl) ?_
  exact Ev.val (congrArg some (decide_eq_false (by simp)).symm)
 | cons t suf ih =>
  intro p hb
  have hp : (p.length : Int) < big := len_mid hb
  refine Ev.step (fun k => by simp only [spec_l1Has.l0, lt_mid, nn, if_true, rdH_mid, w_succ (t := t) hp, l1Tie_eq, Option.bind_some, tie_beq, decide_eq_true_eq] <;> exact rfl) ?_
  by_cases c : t = tieOf a b
  ·simp only [if_pos c]
   exact Ev.val (congrArg some (decide_eq_true (by simp [c])).symm)
  ·simp only [if_neg c]
   rw [app_one p t suf]
   refine Ev.eq (ih (p ++ [t]) (len_app hb)) ?_
   rw [decide_eq_decide]
   have : ¬ tieOf a b = t := fun e => c e.symm
   simp [this]
theorem l1Has_ev (n a b : Int) (E : List S53) (hb : (E.length : Int) < big) : Ev (fun k => spec_l1Has.f k n E a b) (decide (tieOf a b ∈ E)) := by
 unfold spec_l1Has.f
 exact l1Has_l0 n a b E [] hb
end Go.Proofs.Ytddadihobjinhaa.P
namespace Go.Proofs.Ytddadihobjinhaa.G
def cut (X : List Tie) (t : Tie) : List Tie := X.filter fun s => !decide (s = t)
def ties : List Int → List Tie
 | a :: b :: r => tieOf a b :: ties (b :: r)
 | _ => []
def cuts : List Tie → List Tie → Prop
 | _, [] => True
 | X, t :: r => t ∈ X ∧ cuts (cut X t) r
instance cuts_dec : (X T : List Tie) → Decidable (cuts X T)
 | _, [] => isTrue trivial
 | X, t :: r => by
  have := cuts_dec (cut X t) r
  unfold cuts
  infer_instance
def trailOk (n : Int) (E : List Tie) (row : List Int) : Prop := ok n E ∧ row.length = E.length + 1 ∧ (∀ v ∈ row, 0 ≤ v ∧ v < n) ∧ cuts E (ties row)
instance (n : Int) (E : List Tie) (row : List Int) : Decidable (trailOk n E row) := by unfold trailOk; infer_instance
theorem tieOf_ends {n a b : Int} (h : inr n (tieOf a b)) : (0 ≤ a ∧ a < n) ∧ (0 ≤ b ∧ b < n) ∧ a ≠ b := by
 unfold tieOf inr at h
 by_cases c : a < b
 ·rw [if_pos c] at h; simp only at h; omega
 ·rw [if_neg c] at h; simp only at h; omega
theorem ties_knots {n : Int} {E : List Tie} (hE : ∀ t ∈ E, inr n t) : ∀ (r : List Int) (a : Int), 0 ≤ a ∧ a < n → (∀ t ∈ ties (a :: r), t ∈ E) → ∀ v ∈ a :: r, 0 ≤ v ∧ v < n
 | [], a, ha, _ => by simpa using ha
 | b :: r, a, ha, h => by
  intro v hv
  have ht : tieOf a b ∈ E := h _ (by simp [ties])
  have hb := (tieOf_ends (hE _ ht)).2.1
  rcases List.mem_cons.1 hv with rfl | hv
  ·exact ha
  ·exact ties_knots hE r b hb (fun t ht => h t (by simp [ties, ht])) v hv
end Go.Proofs.Ytddadihobjinhaa.G
namespace Go.Proofs.Ytddadihobjinhaa.G
open Go.RowKit Go.Proofs.YtddadihobjinhaaW.PrintWords
inductive Conn (E : List Tie) : Int → Int → Prop
 | refl (a : Int) : Conn E a a
 | step {a b c : Int} : Conn E a b → tieOf b c ∈ E → Conn E a c
theorem Conn.one {E : List Tie} {a b : Int} (h : tieOf a b ∈ E) : Conn E a b := .step (.refl a) h
theorem Conn.trans {E : List Tie} {a b c : Int} (h : Conn E a b) (k : Conn E b c) : Conn E a c := by
 induction k with
 | refl => exact h
 | step _ t ih => exact .step ih t
theorem Conn.symm {E : List Tie} {a b : Int} (h : Conn E a b) : Conn E b a := by
 induction h with
 | refl => exact .refl _
 | step _ t ih => exact (Conn.one (tieOf_comm _ _ ▸ t)).trans ih
theorem Conn.mono {E F : List Tie} {a b : Int} (h : Conn E a b) (hs : ∀ t ∈ E, t ∈ F) : Conn F a b := by
 induction h with
 | refl => exact .refl _
 | step _ t ih => exact .step ih (hs _ t)
theorem Conn.closed {E : List Tie} {a b : Int} (h : Conn E a b) (p : Int → Prop) (ha : p a) (hc : ∀ x y, p x → tieOf x y ∈ E → p y) : p b := by
 induction h with
 | refl => exact ha
 | step _ t ih => exact hc _ _ ih t
theorem Conn.range {n : Int} {E : List Tie} (hE : ∀ t ∈ E, inr n t) {a b : Int} (h : Conn E a b) (ha : 0 ≤ a ∧ a < n) : 0 ≤ b ∧ b < n :=
 h.closed (fun x => 0 ≤ x ∧ x < n) ha (fun _ _ _ ht => (tieOf_ends (hE _ ht)).2.1)
theorem Conn.tie {E : List Tie} {t : Tie} (ht : t ∈ E) (h : t.f0 < t.f1) : Conn E t.f0 t.f1 := Conn.one (by rw [tieOf_lt h]; exact ht)
def EvP (g : Nat → Option Bool) (P : Prop) : Prop := ∃ b : Bool, Ev g b ∧ (b = true ↔ P)
theorem EvP.of {g : Nat → Option Bool} {P : Prop} [Decidable P] (h : Ev g (decide P)) : EvP g P := ⟨_, h, by simp⟩
theorem EvP.iff {g : Nat → Option Bool} {P Q : Prop} (h : EvP g P) (e : P ↔ Q) : EvP g Q := by
 obtain ⟨b, h1, h2⟩ := h
 exact ⟨b, h1, h2.trans e⟩
theorem EvP.step {g f : Nat → Option Bool} {P : Prop} (h : ∀ k, g (k + 1) = f k) (k : EvP f P) : EvP g P := by
 obtain ⟨b, h1, h2⟩ := k
 exact ⟨b, Ev.step h h1, h2⟩
theorem EvP.bind {α : Type} {g : Nat → Option α} {f : Nat → α → Option Bool} {a : α} {P : Prop} (h : Ev g a) (k : EvP (fun n => f n a) P) : EvP (fun n => (g n).bind (f n)) P := by
 obtain ⟨b, h1, h2⟩ := k
 exact ⟨b, Ev.bind h h1, h2⟩
theorem EvP.same {g f : Nat → Option Bool} {P : Prop} (h : EvP g P) (k : EvP f P) : ∃ b, Ev g b ∧ Ev f b := by
 obtain ⟨b, h1, h2⟩ := h
 obtain ⟨c, k1, k2⟩ := k
 have : b = c := by
  rw [Bool.eq_iff_iff]; exact h2.trans k2.symm
 exact ⟨b, h1, this ▸ k1⟩
theorem nodup_len_le {α : Type} [DecidableEq α] : ∀ {l m : List α}, l.Nodup → (∀ x ∈ l, x ∈ m) → l.length ≤ m.length
 | [], m, _, _ => Nat.zero_le _
 | a :: l, m, h, hs => by
  obtain ⟨h1, h2⟩ := List.nodup_cons.1 h
  have ha : a ∈ m := hs a (List.mem_cons_self)
  have : l.length ≤ (m.erase a).length := nodup_len_le h2 (fun x hx => (List.mem_erase_of_ne (fun (e : x = a) => h1 (by rw [← e]; exact hx))).2 (hs x (List.mem_cons_of_mem _ hx)))
  rw [List.length_erase_of_mem ha] at this
  have : 0 < m.length := List.length_pos_of_mem ha
  simp only [List.length_cons]
  omega
def knots (n : Int) : List Int := (List.range n.toNat).map fun (i : Nat) => (i : Int)
theorem mem_knots {n v : Int} : v ∈ knots n ↔ 0 ≤ v ∧ v < n := by
 unfold knots
 rw [List.mem_map]
 constructor
 ·rintro ⟨i, hi, rfl⟩
  have := List.mem_range.1 hi
  omega
 ·rintro ⟨h0, h1⟩
  exact ⟨v.toNat, List.mem_range.2 (by omega), by omega⟩
theorem knots_len (n : Int) : (knots n).length = n.toNat := by simp [knots]
theorem knots_succ {n : Int} (h : 0 ≤ n) : knots (n + 1) = knots n ++ [n] := by
 unfold knots
 have : (n + 1).toNat = n.toNat + 1 := by omega
 rw [this, List.range_succ, List.map_append]
 simp
 omega
def next (n : Int) (E : List Tie) (v : Int) : List Int := (knots n).filter fun i => decide (tieOf v i ∈ E)
theorem mem_next {n v i : Int} {E : List Tie} (hE : ∀ t ∈ E, inr n t) : i ∈ next n E v ↔ tieOf v i ∈ E := by
 unfold next
 rw [List.mem_filter, mem_knots]
 simp only [decide_eq_true_eq]
 exact ⟨fun h => h.2, fun h => ⟨(tieOf_ends (hE _ h)).2.1, h⟩⟩
end Go.Proofs.Ytddadihobjinhaa.G
namespace Go.Proofs.Ytddadihobjinhaa.G
def lexlt : List Int → List Int → Prop
 | [], [] => False
 | [], _ :: _ => True
 | _ :: _, [] => False
 | x :: a, y :: b => x < y ∨ x = y ∧ lexlt a b
instance lexlt_dec : (a b : List Int) → Decidable (lexlt a b)
 | [], [] => isFalse (fun h => h)
 | [], _ :: _ => isTrue trivial
 | _ :: _, [] => isFalse (fun h => h)
 | x :: a, y :: b => by
  have := lexlt_dec a b
  unfold lexlt
  infer_instance
theorem lexlt_irrefl : ∀ a : List Int, ¬ lexlt a a
 | [], h => h
 | x :: a, h => by
  rcases h with h | h
  ·omega
  ·exact lexlt_irrefl a h.2
theorem lexlt_trans : ∀ {a b c : List Int}, lexlt a b → lexlt b c → lexlt a c
 | [], [], _, h, _ => h.elim
 | [], _ :: _, [], _, k => k.elim
 | [], _ :: _, _ :: _, _, _ => trivial
 | _ :: _, [], _, h, _ => h.elim
 | _ :: _, _ :: _, [], _, k => k.elim
 | x :: a, y :: b, z :: c, h, k => by
  rcases h with h | ⟨rfl, h⟩
  ·rcases k with k | ⟨rfl, k⟩
   ·exact .inl (by omega)
   ·exact .inl h
  ·rcases k with k | ⟨rfl, k⟩
   ·exact .inl k
   ·exact .inr ⟨rfl, lexlt_trans h k⟩
theorem lexlt_tri : ∀ a b : List Int, lexlt a b ∨ a = b ∨ lexlt b a
 | [], [] => .inr (.inl rfl)
 | [], _ :: _ => .inl trivial
 | _ :: _, [] => .inr (.inr trivial)
 | x :: a, y :: b => by
  rcases Int.lt_trichotomy x y with h | h | h
  ·exact .inl (.inl h)
  ·subst h
   rcases lexlt_tri a b with h | h | h
   ·exact .inl (.inr ⟨rfl, h⟩)
   ·exact .inr (.inl (by rw [h]))
   ·exact .inr (.inr (.inr ⟨rfl, h⟩))
  ·exact .inr (.inr (.inl h))
def wlt (a b : List Int) : Prop := a.length < b.length ∨ a.length = b.length ∧ lexlt a b
instance (a b : List Int) : Decidable (wlt a b) := by unfold wlt; infer_instance
theorem wlt_irrefl (a : List Int) : ¬ wlt a a := by
 rintro (h | h)
 ·omega
 ·exact lexlt_irrefl a h.2
theorem wlt_trans {a b c : List Int} (h : wlt a b) (k : wlt b c) : wlt a c := by
 rcases h with h | ⟨h, h2⟩
 ·rcases k with k | ⟨k, _⟩
  ·exact .inl (by omega)
  ·exact .inl (by omega)
 ·rcases k with k | ⟨k, k2⟩
  ·exact .inl (by omega)
  ·exact .inr ⟨by omega, lexlt_trans h2 k2⟩
theorem wlt_tri (a b : List Int) : wlt a b ∨ a = b ∨ wlt b a := by
 rcases Nat.lt_trichotomy a.length b.length with h | h | h
 ·exact .inl (.inl h)
 ·rcases lexlt_tri a b with k | k | k
  ·exact .inl (.inr ⟨h, k⟩)
  ·exact .inr (.inl k)
  ·exact .inr (.inr (.inr ⟨h.symm, k⟩))
 ·exact .inr (.inr (.inl h))
def sortW (l : List (List Int)) : List (List Int) := l.mergeSort fun a b => !decide (wlt b a)
theorem sortW_perm (l : List (List Int)) : (sortW l).Perm l := List.mergeSort_perm l _
theorem sortW_sorted (l : List (List Int)) : (sortW l).Pairwise fun a b => ¬ wlt b a := by
 have := List.pairwise_mergeSort (le := fun a b => !decide (wlt b a)) (fun a b c h1 h2 => by
  simp only [Bool.not_eq_true', decide_eq_false_iff_not] at *
  intro h
  rcases wlt_tri a b with x | x | x
  ·exact h2 (wlt_trans h x)
  ·subst x; exact h2 h
  ·exact h1 x) (fun a b => by
  rcases wlt_tri a b with x | x | x
  ·have : ¬ wlt b a := fun k => wlt_irrefl _ (wlt_trans x k)
   simp [this]
  ·subst x; simp [wlt_irrefl]
  ·have : ¬ wlt a b := fun k => wlt_irrefl _ (wlt_trans x k)
   simp [this]) l
 exact this.imp (fun {a b} h => by simpa using h)
theorem sortedW_unique : ∀ {l m : List (List Int)}, l.Perm m → (l.Pairwise fun a b => ¬ wlt b a) → (m.Pairwise fun a b => ¬ wlt b a) → l = m
 | [], m, p, _, _ => (List.nil_perm.1 p).symm
 | a :: r, [], p, _, _ => absurd p.length_eq (by simp)
 | a :: r, b :: s, p, h, k => by
  rw [List.pairwise_cons] at h k
  have e : a = b := by
   rcases wlt_tri a b with x | x | x
   ·have : a ∈ b :: s := p.subset (by simp)
    rcases List.mem_cons.1 this with q | q
    ·exact q
    ·exact absurd x (k.1 a q)
   ·exact x
   ·have : b ∈ a :: r := p.symm.subset (by simp)
    rcases List.mem_cons.1 this with q | q
    ·exact q.symm
    ·exact absurd x (h.1 b q)
  subst e
  rw [sortedW_unique (List.Perm.cons_inv p) h.2 k.2]
theorem sortW_head {l : List (List Int)} {p : List Int} (hp : p ∈ l) (hm : ∀ q ∈ l, ¬ wlt q p) : ∃ r, sortW l = p :: r := by
 have h1 := sortW_sorted l
 have h2 := (sortW_perm l).mem_iff (a := p)
 cases e : sortW l with
 | nil => rw [e] at h2; exact absurd (h2.2 hp) (by simp)
 | cons h r =>
  rw [e] at h1 h2
  have hh : h ∈ l := (sortW_perm l).mem_iff.1 (by rw [e]; simp)
  rcases wlt_tri p h with x | x | x
  ·rcases List.mem_cons.1 (h2.2 hp) with q | q
   ·rw [q]; exact ⟨r, rfl⟩
   ·exact absurd x ((List.pairwise_cons.1 h1).1 p q)
  ·rw [x]; exact ⟨r, rfl⟩
  ·exact absurd x (hm h hh)
structure isWay (E : List Tie) (a b : Int) (p : List Int) : Prop where
 head : p.head? = some a
 last : p.getLast? = some b
 ties : ∀ t ∈ ties p, t ∈ E
 nodup : p.Nodup
def waysG (n : Int) (E : List Tie) (tgt : Int) : Nat → List Int → Int → List (List Int)
 | 0, _, _ => []
 | d + 1, pre, v => if v = tgt then [pre ++ [v]] else ((next n E v).filter fun k => !decide (k ∈ pre ++ [v])).flatMap fun k => waysG n E tgt d (pre ++ [v]) k
theorem mem_waysG {n tgt : Int} {E : List Tie} (hE : ∀ t ∈ E, inr n t) : ∀ (d : Nat) (pre : List Int) (v : Int) (p : List Int), p ∈ waysG n E tgt d pre v → (pre ++ [v]).Nodup →
  ∃ ext, p = pre ++ v :: ext ∧ (∀ t ∈ ties (v :: ext), t ∈ E) ∧ (v :: ext).getLast? = some tgt ∧ p.Nodup
 | 0, pre, v, p, h, _ => by simp [waysG] at h
 | d + 1, pre, v, p, h, hn => by
  unfold waysG at h
  by_cases c : v = tgt
  ·rw [if_pos c, List.mem_singleton] at h
   exact ⟨[], h, by simp [ties], by simp [c], h ▸ hn⟩
  ·rw [if_neg c, List.mem_flatMap] at h
   obtain ⟨k, hk, h⟩ := h
   rw [List.mem_filter, mem_next hE] at hk
   have hk2 : k ∉ pre ++ [v] := by simpa using hk.2
   have hn2 : ((pre ++ [v]) ++ [k]).Nodup := by
    rw [List.nodup_append]
    exact ⟨hn, by simp, fun a ha b hb e => by rw [List.mem_singleton] at hb; subst hb; subst e; exact hk2 ha⟩
   obtain ⟨ext, e, ht, hl, hd⟩ := mem_waysG hE d (pre ++ [v]) k p h hn2
   refine ⟨k :: ext, by rw [e]; simp, fun t ht2 => ?_, ?_, hd⟩
   ·simp only [ties, List.mem_cons] at ht2
    rcases ht2 with rfl | ht2
    ·exact hk.1
    ·exact ht t ht2
   ·rw [List.getLast?_cons_cons]; exact hl
theorem waysG_mem {n tgt : Int} {E : List Tie} (hE : ∀ t ∈ E, inr n t) : ∀ (d : Nat) (pre : List Int) (v : Int) (ext : List Int), (∀ t ∈ ties (v :: ext), t ∈ E) → (v :: ext).getLast? = some tgt → (pre ++ v :: ext).Nodup → ext.length < d →
  pre ++ v :: ext ∈ waysG n E tgt d pre v
 | 0, _, _, _, _, _, _, h => absurd h (Nat.not_lt_zero _)
 | d + 1, pre, v, [], _, hl, _, _ => by
  have : v = tgt := by simpa using hl
  unfold waysG
  rw [if_pos this]; simp
 | d + 1, pre, v, k :: ext, ht, hl, hn, hd => by
  have c : v ≠ tgt := by
   intro c
   rw [List.getLast?_cons_cons] at hl
   have h1 := List.mem_of_getLast? hl
   rw [List.nodup_append] at hn
   exact (List.nodup_cons.1 hn.2.1).1 (c ▸ h1)
  unfold waysG
  rw [if_neg c, List.mem_flatMap]
  have e : pre ++ v :: k :: ext = (pre ++ [v]) ++ k :: ext := by simp
  refine ⟨k, ?_, ?_⟩
  ·rw [List.mem_filter, mem_next hE]
   refine ⟨ht _ (by simp [ties]), ?_⟩
   rw [e, List.nodup_append] at hn
   have : k ∉ pre ++ [v] := fun h => hn.2.2 k h k (by simp) rfl
   simpa using this
  ·rw [e] at hn ⊢
   exact waysG_mem hE d (pre ++ [v]) k ext (fun t h => ht t (by simp [ties, h])) (by rw [List.getLast?_cons_cons] at hl; exact hl) hn (by simp at hd; omega)
theorem flat_le {α β : Type} (f : α → List β) (M : Nat) : ∀ (l : List α), (∀ x ∈ l, (f x).length ≤ M) → (l.flatMap f).length ≤ l.length * M
 | [], _ => by simp
 | a :: l, h => by
  have := flat_le f M l (fun x hx => h x (List.mem_cons_of_mem _ hx))
  have := h a (by simp)
  rw [List.flatMap_cons, List.length_append, List.length_cons, Nat.succ_mul]
  omega
theorem waysG_len {n tgt : Int} {E : List Tie} (h8 : n ≤ 8) : ∀ (d : Nat) (pre : List Int) (v : Int), (waysG n E tgt d pre v).length ≤ 8 ^ d
 | 0, _, _ => by simp [waysG]
 | d + 1, pre, v => by
  unfold waysG
  have p1 : 0 < 8 ^ d := Nat.pow_pos (by omega)
  by_cases c : v = tgt
  ·rw [if_pos c, Nat.pow_succ]; simp; omega
  ·rw [if_neg c]
   have l1 : ((next n E v).filter fun k => !decide (k ∈ pre ++ [v])).length ≤ 8 := by
    refine Nat.le_trans (List.length_filter_le _ _) ?_
    unfold next
    refine Nat.le_trans (List.length_filter_le _ _) ?_
    rw [knots_len]; omega
   refine Nat.le_trans (flat_le _ (8 ^ d) _ (fun k _ => waysG_len h8 d (pre ++ [v]) k)) ?_
   rw [Nat.pow_succ, Nat.mul_comm (8 ^ d)]
   exact Nat.mul_le_mul_right _ l1
def allG (n : Int) (E : List Tie) (a b : Int) : List (List Int) := sortW (waysG n E b 9 [] a)
theorem way_knots {n a b : Int} {E : List Tie} (hE : ∀ t ∈ E, inr n t) (ha : 0 ≤ a ∧ a < n) {p : List Int} (h : isWay E a b p) : ∀ v ∈ p, 0 ≤ v ∧ v < n := by
 cases p with
 | nil => simp
 | cons x r =>
  have : x = a := by have := h.head; simpa using this
  subst this
  exact ties_knots hE r x ha h.ties
theorem way_len {n a b : Int} {E : List Tie} (hE : ∀ t ∈ E, inr n t) (ha : 0 ≤ a ∧ a < n) {p : List Int} (h : isWay E a b p) : (p.length : Int) ≤ n := by
 have := nodup_len_le h.nodup (fun x hx => mem_knots.2 (way_knots hE ha h x hx))
 rw [knots_len] at this
 omega
theorem mem_waysA {n a b : Int} {E : List Tie} (h8 : n ≤ 8) (hE : ∀ t ∈ E, inr n t) (ha : 0 ≤ a ∧ a < n) {p : List Int} : p ∈ waysG n E b 9 [] a ↔ isWay E a b p := by
 constructor
 ·intro h
  obtain ⟨ext, e, ht, hl, hn⟩ := mem_waysG hE 9 [] a p h (by simp)
  rw [List.nil_append] at e
  subst e
  exact ⟨rfl, hl, ht, hn⟩
 ·intro h
  have hl := way_len hE ha h
  cases p with
  | nil => have := h.head; simp at this
  | cons x r =>
   have : x = a := by have := h.head; simpa using this
   subst this
   exact waysG_mem hE 9 [] x r h.ties h.last h.nodup (by simp at hl; omega)
theorem mem_allG {n a b : Int} {E : List Tie} (h8 : n ≤ 8) (hE : ∀ t ∈ E, inr n t) (ha : 0 ≤ a ∧ a < n) {p : List Int} : p ∈ allG n E a b ↔ isWay E a b p := by
 unfold allG
 rw [(sortW_perm _).mem_iff, mem_waysA h8 hE ha]
theorem allG_first {n a b : Int} {E : List Tie} (h8 : n ≤ 8) (hE : ∀ t ∈ E, inr n t) (ha : 0 ≤ a ∧ a < n) {p : List Int} (hp : isWay E a b p) (hm : ∀ q, isWay E a b q → ¬ wlt q p) : ∃ r, allG n E a b = p :: r :=
 sortW_head ((mem_waysA h8 hE ha).2 hp) (fun q hq => hm q ((mem_waysA h8 hE ha).1 hq))
theorem allG_conn {n a b : Int} {E : List Tie} {p : List Int} (h : isWay E a b p) : Conn E a b := by
 obtain ⟨h1, h2, h3, _⟩ := h
 have go : ∀ (p : List Int) (a : Int), (a :: p).getLast? = some b → (∀ t ∈ ties (a :: p), t ∈ E) → Conn E a b := by
  intro p
  induction p with
  | nil =>
   intro a h _
   have : a = b := by simpa using h
   rw [this]; exact .refl _
  | cons x p ih =>
   intro a h ht
   rw [List.getLast?_cons_cons] at h
   exact (Conn.one (ht _ (by simp [ties]))).trans (ih x h (fun t q => ht t (by simp [ties, q])))
 cases p with
 | nil => simp at h1
 | cons x r =>
  have : x = a := by simpa using h1
  subst this
  exact go r x h2 h3
structure Far (n : Int) (E : List Tie) (b : Int) (f : Int → Int) : Prop where
 zero : f b = 0
 only : ∀ v, 0 ≤ v → v < n → f v = 0 → v = b
 down : ∀ v, 0 ≤ v → v < n → 0 < f v → ∃ w, tieOf v w ∈ E ∧ f w = f v - 1
 near : ∀ v w, tieOf v w ∈ E → 0 ≤ f v → 0 ≤ f w ∧ f w ≤ f v + 1
 lo : ∀ v, 0 ≤ v → v < n → -1 ≤ f v
def down (n : Int) (E : List Tie) (f : Int → Int) : Nat → Int → List Int
 | 0, v => [v]
 | d + 1, v => v :: down n E f d (((next n E v).find? fun w => decide (f w = d)).getD 0)
theorem next_sorted (n v : Int) (E : List Tie) : (next n E v).Pairwise (· < ·) := by
 unfold next knots
 refine List.Pairwise.sublist List.filter_sublist ?_
 rw [List.pairwise_map]
 exact List.pairwise_lt_range.imp (fun {a b} h => by omega)
theorem Far.step {n b : Int} {E : List Tie} {f : Int → Int} (F : Far n E b f) (hE : ∀ t ∈ E, inr n t) {d : Nat} {v : Int} (hv : 0 ≤ v ∧ v < n) (hf : f v = (d + 1 : Nat)) :
  ∃ x, (next n E v).find? (fun w => decide (f w = d)) = some x ∧ tieOf v x ∈ E ∧ f x = d ∧ (0 ≤ x ∧ x < n) ∧ ∀ w, tieOf v w ∈ E → f w = d → x ≤ w := by
 obtain ⟨w, h1, h2⟩ := F.down v hv.1 hv.2 (by omega)
 have hw : w ∈ next n E v := (mem_next hE).2 h1
 cases e : (next n E v).find? (fun w => decide (f w = d)) with
 | none =>
  rw [List.find?_eq_none] at e
  have := e w hw
  simp at this
  omega
 | some x =>
  have hx := List.mem_of_find?_eq_some e
  have hx2 := List.find?_some e
  simp only [decide_eq_true_eq] at hx2
  have ht := (mem_next hE).1 hx
  refine ⟨x, rfl, ht, hx2, (tieOf_ends (hE _ ht)).2.1, fun w h1 h2 => ?_⟩
  obtain ⟨_, ls, rs, e1, e2⟩ := List.find?_eq_some_iff_append.1 e
  have hw : w ∈ next n E v := (mem_next hE).2 h1
  rw [e1, List.mem_append] at hw
  rcases hw with q | q
  ·have := e2 w q
   simp [h2] at this
  ·rcases List.mem_cons.1 q with q | q
   ·omega
   ·have hs := next_sorted n v E
    rw [e1, List.pairwise_append] at hs
    have := (List.pairwise_cons.1 hs.2.1).1 w q
    omega
theorem down_way {n b : Int} {E : List Tie} {f : Int → Int} (F : Far n E b f) (hE : ∀ t ∈ E, inr n t) : ∀ (d : Nat) (v : Int), 0 ≤ v ∧ v < n → f v = (d : Int) →
  ∃ r, down n E f d v = v :: r ∧ r.length = d ∧ (v :: r).getLast? = some b ∧ (∀ t ∈ ties (v :: r), t ∈ E) ∧ (∀ x ∈ r, f x < d) ∧ (v :: r).Nodup
 | 0, v, hv, hf => ⟨[], rfl, rfl, by rw [F.only v hv.1 hv.2 hf]; rfl, by simp [ties], by simp, by simp⟩
 | d + 1, v, hv, hf => by
  obtain ⟨x, e, ht, hx, hr, _⟩ := F.step hE hv hf
  obtain ⟨r, e1, e2, e3, e4, e5, e6⟩ := down_way F hE d x hr hx
  refine ⟨x :: r, ?_, by simp [e2], ?_, ?_, ?_, ?_⟩
  ·unfold down
   rw [e]
   simp only [Option.getD_some, e1]
  ·rw [List.getLast?_cons_cons]; exact e3
  ·intro t h
   simp only [ties, List.mem_cons] at h
   rcases h with rfl | h
   ·exact ht
   ·exact e4 t h
  ·intro y hy
   rcases List.mem_cons.1 hy with rfl | hy
   ·omega
   ·have := e5 y hy; omega
  ·rw [List.nodup_cons]
   refine ⟨fun h => ?_, e6⟩
   rcases List.mem_cons.1 h with q | q
   ·rw [q] at hf; omega
   ·have := e5 v q; omega
theorem Far.walk {n b : Int} {E : List Tie} {f : Int → Int} (F : Far n E b f) : ∀ (r : List Int) (v : Int), (v :: r).getLast? = some b → (∀ t ∈ ties (v :: r), t ∈ E) → 0 ≤ f v ∧ f v ≤ (r.length : Int)
 | [], v, h, _ => by
  have : v = b := by simpa using h
  rw [this, F.zero]; simp
 | w :: r, v, h, ht => by
  rw [List.getLast?_cons_cons] at h
  have := F.walk r w h (fun t q => ht t (by simp [ties, q]))
  have := F.near w v (by rw [tieOf_comm]; exact ht _ (by simp [ties])) (by omega)
  simp only [List.length_cons]
  omega
theorem down_least {n b : Int} {E : List Tie} {f : Int → Int} (F : Far n E b f) (hE : ∀ t ∈ E, inr n t) : ∀ (d : Nat) (v : Int) (q : List Int), 0 ≤ v ∧ v < n → f v = (d : Int) → (v :: q).getLast? = some b → (∀ t ∈ ties (v :: q), t ∈ E) → q.length ≤ d →
  q.length = d ∧ ¬ lexlt (v :: q) (down n E f d v)
 | 0, v, [], _, _, _, _, _ => ⟨rfl, by simp [down, lexlt]⟩
 | 0, v, _ :: _, _, _, _, _, h => by simp at h
 | d + 1, v, [], hv, hf, h, _, _ => by
  have : v = b := by simpa using h
  rw [this, F.zero] at hf; omega
 | d + 1, v, w :: q, hv, hf, h, ht, hl => by
  obtain ⟨x, e, htx, hx, hr, hmin⟩ := F.step hE hv hf
  rw [List.getLast?_cons_cons] at h
  have hw := F.walk q w h (fun t k => ht t (by simp [ties, k]))
  have htw : tieOf v w ∈ E := ht _ (by simp [ties])
  have h2 := F.near w v (by rw [tieOf_comm]; exact htw) (by omega)
  have hfw : f w = (d : Int) := by simp only [List.length_cons] at hl; omega
  obtain ⟨a, b2⟩ := down_least F hE d w q (tieOf_ends (hE _ htw)).2.1 hfw h (fun t k => ht t (by simp [ties, k])) (by simp only [List.length_cons] at hl; omega)
  refine ⟨by simp [a], ?_⟩
  unfold down
  rw [e]
  simp only [Option.getD_some]
  intro k
  have hm := hmin w htw hfw
  obtain ⟨r, e1, _⟩ := down_way F hE d x hr hx
  rcases k with k | ⟨_, k⟩
  ·omega
  ·by_cases c : w = x
   ·subst c; exact b2 k
   ·rw [e1] at k
    rcases k with k | k
    ·omega
    ·exact c k.1
def firstWay (n : Int) (E : List Tie) (f : Int → Int) (a : Int) : List Int := down n E f (f a).toNat a
theorem Far.first {n a b : Int} {E : List Tie} {f : Int → Int} (F : Far n E b f) (hE : ∀ t ∈ E, inr n t) (ha : 0 ≤ a ∧ a < n) (h : 0 ≤ f a) : isWay E a b (firstWay n E f a) ∧ ∀ q, isWay E a b q → ¬ wlt q (firstWay n E f a) := by
 obtain ⟨r, e1, e2, e3, e4, e5, e6⟩ := down_way F hE (f a).toNat a ha (by omega)
 unfold firstWay
 refine ⟨⟨by rw [e1]; rfl, by rw [e1]; exact e3, by rw [e1]; exact e4, by rw [e1]; exact e6⟩, fun q hq k => ?_⟩
 cases q with
 | nil => have := hq.head; simp at this
 | cons x q =>
  have : x = a := by have := hq.head; simpa using this
  subst this
  have hl : q.length ≤ (f x).toNat := by
   rw [e1] at k
   rcases k with k | k
   ·simp only [List.length_cons, e2] at k; omega
   ·have := k.1; simp only [List.length_cons, e2] at this; omega
  obtain ⟨l1, l2⟩ := down_least F hE (f x).toNat x q ha (by omega) hq.last hq.ties hl
  rcases k with k | k
  ·rw [e1] at k; simp only [List.length_cons, e2] at k; omega
  ·exact l2 k.2
theorem Far.conn {n a b : Int} {E : List Tie} {f : Int → Int} (F : Far n E b f) (hE : ∀ t ∈ E, inr n t) (ha : 0 ≤ a ∧ a < n) : 0 ≤ f a ↔ Conn E a b := by
 constructor
 ·intro h; exact allG_conn (n := n) (F.first hE ha h).1
 ·intro h
  refine h.symm.closed (fun x => 0 ≤ f x) (by rw [F.zero]; omega) (fun x y hx ht => (F.near x y ht hx).1)
theorem far_all {n a b : Int} {E : List Tie} {f : Int → Int} (F : Far n E b f) (h8 : n ≤ 8) (hE : ∀ t ∈ E, inr n t) (ha : 0 ≤ a ∧ a < n) (h : 0 ≤ f a) : ∃ r, allG n E a b = firstWay n E f a :: r :=
 allG_first h8 hE ha (F.first hE ha h).1 (F.first hE ha h).2
theorem far_none {n a b : Int} {E : List Tie} {f : Int → Int} (F : Far n E b f) (h8 : n ≤ 8) (hE : ∀ t ∈ E, inr n t) (ha : 0 ≤ a ∧ a < n) (h : ¬ 0 ≤ f a) : allG n E a b = [] := by
 rw [List.eq_nil_iff_forall_not_mem]
 intro p hp
 exact h ((F.conn hE ha).2 (allG_conn (n := n) ((mem_allG h8 hE ha).1 hp)))
end Go.Proofs.Ytddadihobjinhaa.G
namespace Go.Proofs.Ytddadihobjinhaa.P
open Go.RowKit Go.Proofs.YtddadihobjinhaaW.PrintWords Go.Proofs.YtddadihobjinhaaW.PrintLast Go.Proofs.YtddadihobjinhaaW.PrintMore
attribute [local go_sem] max2_int min2_int max_two min_two max_three min_three max_four min_four   -- for this text's walks alone
theorem caaV {p : Prop} (h : p := by first | rfl | (simp; done) | (simp [*]; done)) : p := h
def slices_Compare_int_int.l0 : Nat → List Int → List Int → List Int → Int → Int → Option (Int)
 | 0, _, _, _, _, _ => none
 | k + 1, x0, x1, x9, aJ, al => if al < aJ then (if 0 ≤ al then (if al < (x9.length : Int) then (if al ≥ (x1.length : Int) then (some 1) else (if al < (x1.length : Int) then ((cmp_Compare_int.f (rd x9 al) (rd x1 al)).bind fun ac => (if ac = 0 then (slices_Compare_int_int.l0 k x0 x1 x9 aJ (wrap64 (al + 1))) else (some ac))) else (none))) else (none)) else (none)) else (if (x0.length : Int) < (x1.length : Int) then (some (-1)) else (some 0))
def slices_Compare_int_int.f (k : Nat) (l0 : List Int) (l1 : List Int) : Option (Int) := slices_Compare_int_int.l0 k l0 l1 l0 (l0.length : Int) 0
set_option maxHeartbeats 8000000 in
set_option maxRecDepth 100000 in
theorem slices_Compare_int_int.calls (k : Nat) (A0 : Option Addr) (c0 : Nat) (l0 : List Int) (A1 : Option Addr) (c1 : Nat) (l1 : List Int) (r : Int) (w : World) (au : Kd.C (Kd.int .i64) w A0 l0.length l0) (av : l0.length ≤ c0) (hr1 : Kd.C (Kd.int .i64) w A1 l1.length l1) (aw : l1.length ≤ c1) (h : slices_Compare_int_int.f k l0 l1 = some r) :
  Calls Try.prog 91 #[.slice A0 l0.length c0, .slice A1 l1.length c1] w fun e w' => e = .returned (.int .i64 r) ∧ Drawn0 w w' := by
 have ax := G.m au; have aK := G.m av; clear au av; have aB := G.m hr1; have aL := G.m aw; clear hr1 aw; have H : (slices_Compare_int_int.l0 k l0 l1 l0 (l0.length : Int) 0) = some r := h; clear h; have H' := G.m H; clear H
 go_enter Try.func91, Try.ntmps91
 go_wp2
 go_loopg [11] k (fun kq aR w' => ∃ (aa : Int), aR = .int .i64 aa ∧ Aside0 (slices_Compare_int_int.l0 kq l0 l1 l0 (l0.length : Int) aa = some r) ∧ Aside0 (kq ≤ k) ∧ Drawn0 w w')
 case atStart => exact ⟨(0), (caaV), H', ⟨Nat.le_refl _⟩, by repeat (first | exact Drawn0.refl _ | apply Drawn0.step)⟩
 case round =>
  clear H'; obtain ⟨aa, rfl, HA, aM, ⟨m1, rfl⟩⟩ := hrel; cases gk with
  | zero => exact absurd HA.out (by simp [slices_Compare_int_int.l0])
  | succ k1 =>
   have H := HA.out; clear HA; simp only [slices_Compare_int_int.l0] at H
   by_cases c3 : aa < (l0.length : Int)
   ·rw [if_pos c3] at H; have aN : decide (aa < (l0.length : Int)) = true := decide_eq_true c3; clear c3
    by_cases c4 : 0 ≤ aa
    ·rw [if_pos c4] at H; have aV : decide (0 ≤ aa) = true := decide_eq_true c4; clear c4
     by_cases c5 : aa < (l0.length : Int)
     ·rw [if_pos c5] at H; have aW : decide (aa < (l0.length : Int)) = true := decide_eq_true c5; clear c5
      by_cases c6 : aa ≥ (l1.length : Int)
      ·rw [if_pos c6] at H; have aO : decide ((l1.length : Int) ≤ aa) = true := decide_eq_true c6; clear c6; obtain rfl := Option.some.inj H; have ag : 0 ≤ (aa : Int) := of_decide_eq_true (G.asm); have ah : aa < (l0.length : Int) := of_decide_eq_true (G.asm); obtain ⟨aC, am, ao⟩ := Kd.at_int ax.out aa ag ah; cases am; replace ag := eq_true ag; replace ah := eq_true ah
       go_wp2
       go_ret
       exact ⟨caaV, by repeat (first | exact Drawn0.refl _ | apply Drawn0.step)⟩
      ·rw [if_neg c6] at H; have aO : decide ((l1.length : Int) ≤ aa) = false := decide_eq_false c6; clear c6
       by_cases c7 : aa < (l1.length : Int)
       ·rw [if_pos c7] at H; have aX : decide (aa < (l1.length : Int)) = true := decide_eq_true c7; clear c7; obtain ⟨ac, A8, H⟩ := G.bi H; replace H : (if ac = 0 then (slices_Compare_int_int.l0 k1 l0 l1 l0 (l0.length : Int) (wrap64 (aa + 1))) else (some ac)) = some r := H
        by_cases c9 : ac = 0
        ·rw [if_pos c9] at H; have aP : (ac == 0) = true := beq_iff_eq.mpr c9; have aQ : (ac != 0) = false := bne_eq_false_iff_eq.mpr c9; clear c9; have H' := G.m H; clear H; have ag : 0 ≤ (aa : Int) := of_decide_eq_true (G.asm); have ah : aa < (l0.length : Int) := of_decide_eq_true (G.asm); obtain ⟨aC, am, ao⟩ := Kd.at_int ax.out aa ag ah; cases am; replace ag := eq_true ag; replace ah := eq_true ah; have ai : 0 ≤ (aa : Int) := of_decide_eq_true (G.asm); have aj : aa < (l1.length : Int) := of_decide_eq_true (G.asm); obtain ⟨aG, az, aE⟩ := Kd.at_int aB.out aa ai aj; cases az; replace ai := eq_true ai; replace aj := eq_true aj
         go_wp2_with (first | ((with_reducible refine G.f 90 rfl ?_); refine G.gL 26 Try.func90 #[.int .i64 (rd l0 aa), .int .i64 (rd l1 aa)] ?_; (with_reducible refine (cmp_Compare_int.calls (rd l0 aa) (rd l1 aa) ac _ A8.out).mono ?_); rintro e w' ⟨rfl, ⟨nd, rfl⟩⟩; refine ⟨_, rfl, ?_⟩))
         go_roundg k1
         case measure => have := aM.out; omega
         case rel => exact ⟨(wrap64 (aa + 1)), (caaV), H', ⟨by have := aM.out; omega⟩, by repeat (first | exact Drawn0.refl _ | apply Drawn0.step)⟩
        ·rw [if_neg c9] at H; have aP : (ac == 0) = false := beq_eq_false_iff_ne.mpr c9; have aQ : (ac != 0) = true := bne_iff_ne.mpr c9; obtain rfl := Option.some.inj H; have ag : 0 ≤ (aa : Int) := of_decide_eq_true (G.asm); have ah : aa < (l0.length : Int) := of_decide_eq_true (G.asm); obtain ⟨aC, am, ao⟩ := Kd.at_int ax.out aa ag ah; cases am; replace ag := eq_true ag; replace ah := eq_true ah; have ai : 0 ≤ (aa : Int) := of_decide_eq_true (G.asm); have aj : aa < (l1.length : Int) := of_decide_eq_true (G.asm); obtain ⟨aG, az, aE⟩ := Kd.at_int aB.out aa ai aj; cases az; replace ai := eq_true ai; replace aj := eq_true aj
         go_wp2_with (first | ((with_reducible refine G.f 90 rfl ?_); refine G.gL 26 Try.func90 #[.int .i64 (rd l0 aa), .int .i64 (rd l1 aa)] ?_; (with_reducible refine (cmp_Compare_int.calls (rd l0 aa) (rd l1 aa) ac _ A8.out).mono ?_); rintro e w' ⟨rfl, ⟨nd, rfl⟩⟩; refine ⟨_, rfl, ?_⟩))
         go_ret
         exact ⟨caaV, by repeat (first | exact Drawn0.refl _ | apply Drawn0.step)⟩
       ·rw [if_neg c7] at H; exact absurd H (by simp)
     ·rw [if_neg c5] at H; exact absurd H (by simp)
    ·rw [if_neg c4] at H; exact absurd H (by simp)
   ·rw [if_neg c3] at H; have aN : decide (aa < (l0.length : Int)) = false := decide_eq_false c3; clear c3
    by_cases c10 : (l0.length : Int) < (l1.length : Int)
    ·rw [if_pos c10] at H; have aH : decide ((l0.length : Int) < (l1.length : Int)) = true := decide_eq_true c10; have aI : decide (l0.length < l1.length) = true := decide_eq_true (Int.ofNat_lt.mp c10); clear c10; obtain rfl := Option.some.inj H
     go_wp2
     go_ret
     exact ⟨caaV, by repeat (first | exact Drawn0.refl _ | apply Drawn0.step)⟩
    ·rw [if_neg c10] at H; have aH : decide ((l0.length : Int) < (l1.length : Int)) = false := decide_eq_false c10; have aI : decide (l0.length < l1.length) = false := decide_eq_false (fun h => c10 (Int.ofNat_lt.mpr h)); clear c10; obtain rfl := Option.some.inj H
     go_wp2
     go_ret
     exact ⟨caaV, by repeat (first | exact Drawn0.refl _ | apply Drawn0.step)⟩
end Go.Proofs.Ytddadihobjinhaa.P
namespace Go.Proofs.Ytddadihobjinhaa.P
open Go.RowKit Go.Lib Go.Sort Go.Proofs.YtddadihobjinhaaW.PrintWords Go.Proofs.YtddadihobjinhaaW.PrintLast Go.Proofs.YtddadihobjinhaaW.PrintMore Go.Proofs.Ytddadihobjinhaa.G
def cmpL : List Int → List Int → Int
 | [], [] => 0
 | [], _ :: _ => -1
 | _ :: _, [] => 1
 | x :: a, y :: b => if cmp3 x y = 0 then cmpL a b else cmp3 x y
def cfW (a b : List Int) : Int := if cmp3 a.length b.length = 0 then cmpL a b else cmp3 a.length b.length
theorem cmp3_zero {x y : Int} : cmp3 x y = 0 ↔ x = y := by unfold cmp3; repeat' split <;> omega
theorem cmp3_neg {x y : Int} : cmp3 x y < 0 ↔ x < y := by unfold cmp3; repeat' split <;> omega
theorem cmpL_neg : ∀ a b : List Int, cmpL a b < 0 ↔ lexlt a b
 | [], [] => by simp [cmpL, lexlt]
 | [], _ :: _ => by simp [cmpL, lexlt]
 | _ :: _, [] => by simp [cmpL, lexlt]
 | x :: a, y :: b => by
  unfold cmpL lexlt
  by_cases c : cmp3 x y = 0
  ·rw [if_pos c, cmpL_neg a b]
   have := cmp3_zero.1 c
   constructor
   ·intro h; exact .inr ⟨this, h⟩
   ·rintro (h | h)
    ·omega
    ·exact h.2
  ·rw [if_neg c, cmp3_neg]
   constructor
   ·intro h; exact .inl h
   ·rintro (h | h)
    ·exact h
    ·exact absurd (cmp3_zero.2 h.1) c
theorem cfW_neg (a b : List Int) : cfW a b < 0 ↔ wlt a b := by
 unfold cfW wlt
 by_cases c : cmp3 (a.length : Int) b.length = 0
 ·rw [if_pos c, cmpL_neg]
  have := cmp3_zero.1 c
  constructor
  ·intro h; exact .inr ⟨by omega, h⟩
  ·rintro (h | h)
   ·omega
   ·exact h.2
 ·rw [if_neg c, cmp3_neg]
  constructor
  ·intro h; exact .inl (by omega)
  ·rintro (h | h)
   ·omega
   ·exact absurd (cmp3_zero.2 (by omega)) c
theorem cmpS_l0 : ∀ (a b p q : List Int), p.length = q.length → (p ++ a).length ≤ 9223372036854775807 →
  Ev (fun k => slices_Compare_int_int.l0 k (p ++ a) (q ++ b) (p ++ a) ((p ++ a).length : Int) (p.length : Int)) (cmpL a b)
 | [], b, p, q, h, hb => by
  refine Ev.step (fun k => by simp only [slices_Compare_int_int.l0, nlt_end, if_false] <;> exact rfl) ?_
  refine Ev.val ?_
  cases b with
  | nil => rw [if_neg (by simp; omega)]; rfl
  | cons y b => rw [if_pos (by simp; omega)]; rfl
 | x :: a, [], p, q, h, hb => by
  have h2 : (p.length : Int) ≥ ((q ++ []).length : Int) := by simp; omega
  refine Ev.step (fun k => by simp only [slices_Compare_int_int.l0, lt_mid, nn, if_true, if_pos h2] <;> exact rfl) ?_
  exact Ev.val rfl
 | x :: a, y :: b, p, q, h, hb => by
  have h2 : ¬ (p.length : Int) ≥ ((q ++ y :: b).length : Int) := by simp; omega
  have h3 : (p.length : Int) < ((q ++ y :: b).length : Int) := by simp; omega
  have e1 : rd (q ++ y :: b) (p.length : Int) = y := by rw [h]; exact rd_mid q y b
  have w : wrap64 ((p.length : Int) + 1) = ((p ++ [x]).length : Int) := by
   rw [List.length_append, List.length_cons] at hb
   rw [w64 (by omega) (by omega)]; simp
  refine Ev.step (fun k => by simp only [slices_Compare_int_int.l0, lt_mid, nn, if_true, if_neg h2, if_pos h3, rd_mid, e1, cmp_eq, Option.bind_some, w] <;> exact rfl) ?_
  unfold cmpL
  by_cases c : cmp3 x y = 0
  ·simp only [if_pos c]
   rw [app_one p x a, app_one q y b]
   exact cmpS_l0 a b (p ++ [x]) (q ++ [y]) (by simp [h]) (by rw [← app_one]; exact hb)
  ·simp only [if_neg c]
   exact Ev.val rfl
theorem cmpS_ev (a b : List Int) (ha : a.length ≤ 9223372036854775807) : Ev (fun k => slices_Compare_int_int.f k a b) (cmpL a b) := by
 unfold slices_Compare_int_int.f
 exact cmpS_l0 a b [] [] rfl ha
theorem lit2_grow {P : Program} {ops : Array Oper} {rest : List Oper} {o : Oper} {a : Act} {Q : Exit → Act → World → Prop} {W V : World} {x y : Int} {e : Nat} (hgd : o.guard = none)
  (hrun : (execOp a.eval o).run P V = .ok (.value (.slice (some ⟨V.heap.size, 0, none⟩) 2 2)) (V.alloc (.cells #[.int .i64 x, .int .i64 y] e))) (hV : ∃ q, V = W.drewN q)
  (h : ∀ ad w1, Kd.C (Kd.int .i64) w1 (some ad) [x, y].length [x, y] → (∃ q os, w1 = grow (W.drewN q) os) → wpList P ops Q rest (a.put o.dst (.slice (some ad) 2 2)) w1) : wpList P ops Q (o :: rest) a V := by
 refine Kd.event_run hgd hrun (h ⟨V.heap.size, 0, none⟩ _ ?_ ?_)
 ·have bn := blk_new V (.cells #[.int .i64 x, .int .i64 y] e (0, 0))
  refine Kd.C_of_reads (d := (0 : Int)) (h1 := fun _ => rfl) ⟨rfl, by simp, fun hn => ⟨_, rfl, fun j hj => ?_⟩⟩
  match j, hj with
  | 0, _ => exact (blk_cell bn 0).trans rfl
  | 1, _ => exact (blk_cell bn 1).trans rfl
 ·obtain ⟨q, rfl⟩ := hV
  exact ⟨q, _, alloc_eq_grow _ _⟩
set_option maxHeartbeats 4000000 in
set_option maxRecDepth 100000 in
theorem wayOrder_at (A0 : Option Addr) (c0 : Nat) (l0 : List Int) (A1 : Option Addr) (c1 : Nat) (l1 : List Int) (W : World) (hr0 : Kd.C (Kd.int .i64) W A0 l0.length l0) (hc0 : l0.length ≤ c0) (hr1 : Kd.C (Kd.int .i64) W A1 l1.length l1) (hc1 : l1.length ≤ c1) :
  Calls Try.prog 77 #[.slice A0 l0.length c0, .slice A1 l1.length c1] W fun e w' => e = .returned (.int .i64 (cfW l0 l1)) ∧ ∃ q os', w' = grow (W.drewN q) os' := by
 obtain ⟨k, hk⟩ := Ev.rounds (cmpS_ev l0 l1 hr0.2.1)
 obtain ⟨k2, hk2⟩ := Ev.rounds (or_two (cmp3 l0.length l1.length) (cmpL l0 l1))
 obtain ⟨r, hr⟩ : ∃ r : Int, (if cmp3 l0.length l1.length = 0 then cmpL l0 l1 else cmp3 l0.length l1.length) = r := ⟨_, rfl⟩
 rw [hr] at hk2
 have HR0 := Aside0.mk hr0
 have HC0 := Aside0.mk hc0
 have HR1 := Aside0.mk hr1
 have HC1 := Aside0.mk hc1
 have A3 := Aside0.mk (cmp_eq l0.length l1.length)
 have A4 := Aside0.mk hk
 have A5 := Aside0.mk hk2
 have HR := Aside0.mk hr
 clear hr0 hc0 hr1 hc1 hk hk2 hr
 go_enter Try.func77, Try.ntmps77
 go_wp2_with (first
  | ((with_reducible refine gate_callee (f := 90) rfl ?_); refine goesL_ (some 9) rfl rfl Try.func90 (by kernel_rfl) rfl #[.int .i64 (l0.length : Int), .int .i64 (l1.length : Int)] rfl (G.ar) ?_; (with_reducible refine (cmp_Compare_int.calls (l0.length : Int) (l1.length : Int) _ _ A3.out).mono ?_); rintro e w' ⟨rfl, ⟨nd, rfl⟩⟩; refine ⟨_, rfl, ?_⟩)
  | ((with_reducible refine gate_callee (f := 91) rfl ?_); refine goesL_ (some 12) rfl rfl Try.func91 (by kernel_rfl) rfl #[.slice A0 l0.length c0, .slice A1 l1.length c1] rfl (G.ar) ?_; (with_reducible refine (slices_Compare_int_int.calls k _ _ l0 _ _ l1 _ _ ?side1 ?side2 ?side3 ?side4 A4.out).mono ?_); (case side1 => repeat (first | exact HR0.out | (with_reducible refine Kd.C_alloc ?_ _) | (with_reducible refine Kd.C_drewN ?_ _) | (with_reducible refine Kd.C_drew ?_))); (case side2 => exact HC0.out); (case side3 => repeat (first | exact HR1.out | (with_reducible refine Kd.C_alloc ?_ _) | (with_reducible refine Kd.C_drewN ?_ _) | (with_reducible refine Kd.C_drew ?_))); (case side4 => exact HC1.out); rintro e w' ⟨rfl, ⟨nd2, rfl⟩⟩; refine ⟨_, rfl, ?_⟩)
  | ((with_reducible refine gate_dst (N := 13) rfl ?_); refine lit2_grow (W := W) (x := cmp3 l0.length l1.length) (y := cmpL l0 l1) (e := 3) rfl (by first | (go_simp; done) | (go_simp; rfl)) ⟨nd + nd2, by simp [World.drewN, Nat.add_assoc]⟩ ?_; intro ad w6 hl_ hg_; have HL := Aside0.mk hl_; have HG := Aside0.mk hg_; clear hl_ hg_)
  | ((with_reducible refine gate_callee (f := 89) rfl ?_); refine goesL_ (some 14) rfl rfl Try.func89 (by kernel_rfl) rfl #[.slice (some ad) 2 2] rfl (G.ar) ?_; (refine (cmp_Or_int.calls k2 (some ad) 2 [cmp3 l0.length l1.length, cmpL l0 l1] r _ ?side1 ?side2 A5.out).mono ?_); (case side1 => exact HL.out); (case side2 => exact Nat.le_refl _); rintro e w' ⟨rfl, ⟨nd3, rfl⟩⟩; refine ⟨_, rfl, ?_⟩))
 go_ret
 refine ⟨?_, ?_⟩
 ·rw [← HR.out]
  rfl
 ·obtain ⟨q, os, e⟩ := HG.out
  rw [e]
  refine ⟨q + nd3, os, ?_⟩
  show grow ((W.drewN q).drewN nd3) _ = _
  congr 1
  simp [World.drewN, Nat.add_assoc]
end Go.Proofs.Ytddadihobjinhaa.P
namespace Go.Proofs.Ytddadihobjinhaa.P
open Go.RowKit Go.Proofs.YtddadihobjinhaaW.PrintWords Go.Proofs.YtddadihobjinhaaW.PrintLast Go.Proofs.YtddadihobjinhaaW.PrintMore
attribute [local go_sem] max2_int min2_int max_two min_two max_three min_three max_four min_four   -- for this text's walks alone
def slices_Clone_int_int.f (l0 : List Int) : Option (List Int) := (some (([] : List Int) : List Int)).bind fun aa => (if aa.length + l0.length < 17592186044416 then (some (aa ++ l0)) else (none))
set_option maxHeartbeats 8000000 in
set_option maxRecDepth 100000 in
theorem slices_Clone_int_int.calls (A0 : Option Addr) (c0 : Nat) (l0 : List Int) (r : List Int) (w : World) (al : Kd.C (Kd.int .i64) w A0 l0.length l0) (am : l0.length ≤ c0) (h : slices_Clone_int_int.f l0 = some r) :
  Calls Try.prog 86 #[.slice A0 l0.length c0] w fun e w' => ∃ ao : Value, e = .returned (ao) ∧ Kd.R (Kd.int .i64) 3 w' w.heap.size (fun _ => True) ao r ∧ Below w.heap.size w w' := by
 have ap := G.m al; have aw := G.m am; clear al am; have HB := G.m (Below.refl w.heap.size w); have H : ((some (([] : List Int) : List Int)).bind fun aa => (if aa.length + l0.length < 17592186044416 then (some (aa ++ l0)) else (none))) = some r := h; clear h; obtain ⟨aa, ab⟩ : ∃ y_ : List Int, y_ = (([] : List Int)) := ⟨_, rfl⟩; replace H : (if aa.length + l0.length < 17592186044416 then (some (aa ++ l0)) else (none)) = some r := by first | (rw [ab]; with_reducible exact H) | (have ae := (Option.bind_some _ _).symm.trans H; rw [ab]; with_reducible exact ae) | (have ae := (Option.bind_some _ _).symm.trans H; with_reducible exact ae) | with_reducible exact H | (rw [ab]; exact H) | exact H
 have af := G.m ab; clear ab
 by_cases c2 : aa.length + l0.length < 17592186044416
 ·rw [if_pos c2] at H; have aq := G.m c2; clear c2; obtain ⟨aj, ac⟩ : ∃ y_ : List Int, y_ = (aa ++ l0) := ⟨_, rfl⟩; replace H : (some aj) = some r := by first | (rw [ac]; with_reducible exact H) | (have ae := (Option.bind_some _ _).symm.trans H; rw [ac]; with_reducible exact ae) | (have ae := (Option.bind_some _ _).symm.trans H; with_reducible exact ae) | with_reducible exact H | (rw [ac]; exact H) | exact H
  have ah := G.m ac; clear ac; obtain rfl := Option.some.inj H; have ax : ∀ (w : World) (a : Option Addr) (n c n' c' : Nat), (binOp .eql 25 (.slice a n c) (.slice none n' c')).run Try.prog w = .ok (.bool a.isNone) w := fun w a n c n' c' => Go.Lib.run_eql_slice_nil w _ _ a n c n' c' Try.underlying25
  rcases A0 with _ | ay
  ·have e0 : l0 = [] := by
    have h_ := ap.out
    rcases l0 with _ | ⟨q, r⟩
    ·rfl
    ·obtain ⟨ad, h, _⟩ := h_.2.2 (by simp); exact absurd h (by simp)
   subst e0; have ey : aj = [] := by rw [ah.out, af.out]; rfl
   subst ey
   go_enter Try.func86, Try.ntmps86
   go_wp2
   go_ret
   exact ⟨_, rfl, Kd.R_nil _ _ _ _ _, G.cB HB.out⟩
  go_enter Try.func86, Try.ntmps86
  go_wp2_with (first | ((with_reducible refine G.h 5 rfl ?_); refine Kd.R_lit (Kd.int .i64) _ 3 ?hg (N := 5) ?hd (xs := ([] : List Int)) (inner := []) (ok := fun _ => True) (okp := fun _ => True) ?hr ?hp (fun _ hk => hk) trivial (Below.refl _ _) (Nat.le_refl _) (by simp) ?_; (case hd => rfl); (case hg => rfl); (case hr => first | (go_simp; done) | (go_simp; rfl)); (case hp => exact (Reps.none _ _)); intro au w3 ag hb hg_ hnew_; clear hg_ hnew_; (first | rw [← af.out] at ag | (simp only [Int.reduceToNat] at ag; rw [← af.out] at ag)); have n0 := G.m (Kd.R_lower ag (below_size (G.cB HB.out))); have n1 := G.bs HB hb; clear HB; revert n0 n1; intro ai HB; clear hb ag) | ((with_reducible refine gate_builtin (b := .append) (xs := #[.tmp 5, .tmp 6]) rfl ?_); at_builtin; refine Kd.R_append_rows (Kd.int .i64) (w0 := w) w.heap.size rfl (.tmp 5) (.tmp 6) 25 3 (.int .i64 0) 8 rfl Try.underlying25 info3 rfl (by decide) (by omega) au aa l0 _ _ _ (fun _ => True) (fun _ => False) rfl rfl ?aO ?aR (fun _ _ h => h) (fun _ h => h.elim) ?aF ?aB ?aS ?aL ?_; (case aR => exact G.cC (Kd.C_below ap.out HB.out)); (case aB => exact (G.cB HB.out)); (case aF => exact (fun _ _ => trivial)); (case aO => exact (G.cR ai.out)); (case aS => exact (below_size (G.cB HB.out))); (case aL => have := aq.out; omega); intro av w5 ho hb hg hat; rw [← ah.out] at ho; have n0 := G.m (hb); have n1 := G.m (ho); clear HB ai; revert n0 n1; intro HB ak; clear ho hb hg hat))
  go_ret
  exact ⟨_, by first | rfl | (simp [errW_none, errW_some] <;> rfl) | (simp [*, errW_none, errW_some] <;> rfl), G.cR ak.out, G.cB HB.out⟩
 ·rw [if_neg c2] at H; exact absurd H (by simp)
end Go.Proofs.Ytddadihobjinhaa.P
namespace Go.Proofs.Ytddadihobjinhaa.P
open Go.RowKit Go.Proofs.YtddadihobjinhaaW.PrintWords
theorem grown_of_below {w w1 : World} (h : Below w.heap.size w w1) (row : Option Nat) : w.grownBy w1 row := ⟨h.os, h.tape, h.output, h.size, fun k hk _ => h.block k hk⟩
structure LX (w0 w : World) (A1 : Option Addr) (c1 : Nat) (l1 : List Int) (vo v : Value) (out : List (List Int)) (W : World) : Prop where
 b : Below w0.heap.size w0 W
 way : Kd.R (Kd.int .i64) 3 W w0.heap.size (fun _ => True) (.slice A1 l1.length c1) l1
 row : Kd.S (Kd.slice 3 (Kd.int .i64)) 25 W w0.heap.size (fun _ => True) v out
 g : w.grownBy W vo.ownBlock
 at_ : v.ownBlock = vo.ownBlock ∨ ∃ b, v.ownBlock = some b ∧ w.heap.size ≤ b
section
variable {w0 w W W' : World} {A1 : Option Addr} {c1 : Nat} {l1 : List Int} {vo v v1 : Value} {out out1 : List (List Int)}
theorem LX.start (hb : Below w0.heap.size w0 w) (h1 : Kd.R (Kd.int .i64) 3 w w0.heap.size (fun _ => True) (.slice A1 l1.length c1) l1) (h2 : Kd.S (Kd.slice 3 (Kd.int .i64)) 25 w w0.heap.size (fun _ => True) vo out) : LX w0 w A1 c1 l1 vo vo out w :=
 ⟨hb, h1, h2, grown_of_below (Below.refl _ _) _, .inl rfl⟩
theorem LX.below (h : LX w0 w A1 c1 l1 vo v out W) (hb : Below W.heap.size W W') : LX w0 w A1 c1 l1 vo v out W' :=
 ⟨below_step h.b hb, Kd.R_below h.way hb, Kd.S_below h.row hb, World.grownBy.trans h.g (grown_of_below hb _), h.at_⟩
theorem LX.fin (h : LX w0 w A1 c1 l1 vo v out W) : Kd.S (Kd.slice 3 (Kd.int .i64)) 25 W w0.heap.size (fun _ => True) v out ∧ Below w0.heap.size w0 W ∧ w.grownBy W vo.ownBlock ∧ (v.ownBlock = vo.ownBlock ∨ ∃ b, v.ownBlock = some b ∧ w.heap.size ≤ b) := ⟨h.row, h.b, h.g, h.at_⟩
theorem LX.step (h : LX w0 w A1 c1 l1 vo v out W) (hS : Kd.S (Kd.slice 3 (Kd.int .i64)) 25 W' w0.heap.size (fun _ => True) v1 out1) (hb : Below w0.heap.size w0 W') (hg : W.grownBy W' v.ownBlock) (hat : v1.ownBlock = v.ownBlock ∨ ∃ b, v1.ownBlock = some b ∧ W.heap.size ≤ b) : LX w0 w A1 c1 l1 vo v1 out1 W' := by
 refine ⟨hb, Kd.R_over' h.way (Kd.S_typed h.row) (by decide) hg, hS, ⟨hg.os.trans h.g.os, hg.tape.trans h.g.tape, hg.output.trans h.g.output, Nat.le_trans h.g.size hg.size, fun k hk hne => ?_⟩, ?_⟩
 ·refine (hg.block k (Nat.lt_of_lt_of_le hk h.g.size) (fun e => ?_)).trans (h.g.block k hk hne)
  rcases h.at_ with q | ⟨b, q, hb⟩
  ·exact hne (e.trans q)
  ·rw [q] at e
   injection e with e
   omega
 ·rcases hat with q | ⟨b, q, hb2⟩
  ·rw [q]; exact h.at_
  ·exact .inr ⟨b, q, Nat.le_trans h.g.size hb2⟩
theorem LX.app {w1 : World} (hB : Below w.heap.size w w1) (ho : Kd.S (Kd.slice 3 (Kd.int .i64)) 25 W w0.heap.size (fun _ => True) v out) (hb : Below w0.heap.size w0 W) (hg : w1.grownBy W vo.ownBlock) (hat : v.ownBlock = vo.ownBlock ∨ ∃ b, v.ownBlock = some b ∧ w1.heap.size ≤ b) : Kd.S (Kd.slice 3 (Kd.int .i64)) 25 W w0.heap.size (fun _ => True) v out ∧ Below w0.heap.size w0 W ∧ w.grownBy W vo.ownBlock ∧ (v.ownBlock = vo.ownBlock ∨ ∃ b, v.ownBlock = some b ∧ w.heap.size ≤ b) :=
 ⟨ho, hb, World.grownBy.trans (grown_of_below hB _) hg, hat.imp id (fun ⟨b, e1, e2⟩ => ⟨b, e1, Nat.le_trans hB.size e2⟩)⟩
end
end Go.Proofs.Ytddadihobjinhaa.P
