-- Printed by a program of this session (mp.py, over the kit's print). Not trusted: Lean checks it.
import Derived.Test.YtjkeagcenmmknaaF0
import Derived.Test.YtjkeagcenmmknaaF1
import Derived.Test.YtjkeagcenmmknaaF3
namespace Go.Proofs.Ytjkeagcenmmknaa.P
open Go.RowKit Go.Proofs.YtjkeagcenmmknaaW.PrintWords Go.Proofs.YtjkeagcenmmknaaW.PrintLast Go.Proofs.YtjkeagcenmmknaaW.PrintMore
attribute [local go_sem] max2_int min2_int max_two min_two max_three min_three max_four min_four   -- for this text's walks alone
set_option linter.unusedVariables false
set_option linter.unusedSimpArgs false

theorem caaA {p : Prop} (h : p := by (with_reducible repeat (first | refine blk_drewN ?_ _ | refine blk_drew ?_ | refine blk_alloc ?_ _)); refine blk_put (cs := #[.int .i64 ((rd_T40 l1 aj).f0), .int .i64 0]) ?_ 1 _ rfl; (with_reducible repeat (first | refine blk_drewN ?_ _ | refine blk_drew ?_ | refine blk_alloc ?_ _)); refine blk_put (cs := #[.int .i64 0, .int .i64 0]) ?_ 0 _ rfl; (with_reducible repeat (first | refine blk_drewN ?_ _ | refine blk_drew ?_ | refine blk_alloc ?_ _)); exact aS.out) : p := h
theorem caaB {p : Prop} (h : p := by (with_reducible repeat (first | refine blk_drewN ?_ _ | refine blk_drew ?_ | refine blk_alloc ?_ _)); refine blk_far ?_ aL.out _; (with_reducible repeat (first | refine blk_drewN ?_ _ | refine blk_drew ?_ | refine blk_alloc ?_ _)); refine blk_far ?_ aL.out _; (with_reducible repeat (first | refine blk_drewN ?_ _ | refine blk_drew ?_ | refine blk_alloc ?_ _)); exact al.out) : p := h
theorem caaC {p : Prop} (h : p := by (try simp only [List.map_toArray, List.map_cons, List.map_nil]); first | done | (simp only [bI]; rfl) | rfl | (simp only [List.length_drop, List.length_take]; rfl)) : p := h
theorem caay {p : Prop} (h : p := by rw [hg]; exact Nat.ne_of_lt (blk_lt (g := az) (o := .cells #[.int .i64 ac, .slice (some bx) aa.length ax] 30 (0, 0)) (G.cb ai.out))) : p := h
theorem caaz {p : Prop} (h : p := by rw [hg]; exact Nat.ne_of_gt (blk_lt (g := az) (o := .cells #[.int .i64 ac, .slice (some bx) aa.length ax] 30 (0, 0)) (G.cb ai.out))) : p := h
theorem caaD {p : Prop} (h : p := by rw [hg]; exact Nat.ne_of_lt (blk_lt (g := aI) (o := .cells #[.int .i64 ac, .slice aA aa.length ax] 30 (0, 0)) (G.cb al.out))) : p := h
theorem caaE {p : Prop} (h : p := by rw [hg]; exact Nat.ne_of_gt (blk_lt (g := aI) (o := .cells #[.int .i64 ac, .slice aA aa.length ax] 30 (0, 0)) (G.cb al.out))) : p := h
theorem caaw {p : Prop} (h : p := by first | rfl | (simp [errW_none, errW_some] <;> rfl) | (simp [*, errW_none, errW_some] <;> rfl)) : p := h
theorem caav {p : Prop} (h : p := by first | rfl | (simp; done) | (simp [*]; done)) : p := h
theorem caau {p : Prop} (h : p := by rw [hg]; exact (below_size (G.cB HB.out))) : p := h
theorem caax {p : Prop} (h : p := by kernel_rfl) : p := h
attribute [local go_sem high] eqA40
/-! ### impl_tieOrder: function 34 -/
def impl_tieOrder.f (k : Nat) (ac : Int) (aM : Int) (ah : Int) (ag : Int) : Option (Int) := (cmp_Compare_int.f ac ah).bind fun aN => ((cmp_Compare_int.f aM ag).bind fun aK => ((cmp_Or_int.f k (([aN, aK] : List Int))).bind fun aO => (some aO)))
theorem impl_tieOrder.mono : ∀ a0 a1 a2 a3 k, LeO (impl_tieOrder.f k a0 a1 a2 a3) (impl_tieOrder.f (k + 1) a0 a1 a2 a3) := by
 intro a0 a1 a2 a3 k; unfold impl_tieOrder.f
 repeat' first | (with_reducible first | exact cmp_Or_int.mono _ _ | exact LeO.refl _ | exact LeO.none _ | refine LeO.ite ?_ ?_ | refine LeO.bind ?_ (fun _ => ?_)) | exact cmp_Or_int.mono _ _ | exact LeO.none _ | refine LeO.ite ?_ ?_ | refine LeO.bind ?_ (fun _ => ?_)
def impl_tieOrder.T1 : Bool × List (List Nat × List Nat) := (true, [([], []), ([0], [0]), ([], []), ([2], [2]), ([1, 3], [1, 3]), ([], []), ([5], [5]), ([], []), ([7], [7]), ([6, 8, 4], [6, 8]), ([4, 9], [4, 9]), ([10, 9], [10]), ([11, 11, 0, 1, 2, 3, 4, 5, 6, 7, 8, 9, 10, 11], [11])])
def impl_tieOrder.B1 : List Nat := [0, 1, 0, 4, 15, 0, 32, 0, 128, 511, 1023, 2047, 4095]
theorem impl_tieOrder.tab1 : rtab .any (opsOf Try.f34 1) = impl_tieOrder.T1 := by kernel_rfl
theorem impl_tieOrder.bits1 : waitsOk impl_tieOrder.T1.2 impl_tieOrder.B1 = true := by kernel_rfl
set_option maxHeartbeats 8000000 in
set_option maxRecDepth 100000 in
theorem impl_tieOrder.calls (k : Nat) (ac : Int) (aM : Int) (ah : Int) (ag : Int) (r : Int) (w : World) (h : impl_tieOrder.f k ac aM ah ag = some r) :
  Calls Try.prog 34 #[.agg #[.int .i64 ac, .int .i64 aM], .agg #[.int .i64 ah, .int .i64 ag]] w fun e w' => e = .returned (.int .i64 r) ∧ Below w.heap.size w w' := by
 have bJ := Try.underlying40; have HB := G.m (Below.refl w.heap.size w); have H : ((cmp_Compare_int.f ac ah).bind fun aN => ((cmp_Compare_int.f aM ag).bind fun aK => ((cmp_Or_int.f k (([aN, aK] : List Int))).bind fun aO => (some aO)))) = some r := h; clear h; obtain ⟨aN, A3, H⟩ := G.bi H; replace H : ((cmp_Compare_int.f aM ag).bind fun aK => ((cmp_Or_int.f k (([aN, aK] : List Int))).bind fun aO => (some aO))) = some r := H; obtain ⟨aK, A4, H⟩ := G.bi H; replace H : ((cmp_Or_int.f k (([aN, aK] : List Int))).bind fun aO => (some aO)) = some r := H; obtain ⟨b7, bz⟩ : ∃ y_ : List Int, y_ = (([aN, aK] : List Int)) := ⟨_, rfl⟩; replace H : ((cmp_Or_int.f k b7).bind fun aO => (some aO)) = some r := by first | (rw [bz]; with_reducible exact H) | (have cm := (Option.bind_some _ _).symm.trans H; rw [bz]; with_reducible exact cm) | (have cm := (Option.bind_some _ _).symm.trans H; with_reducible exact cm) | with_reducible exact H | (rw [bz]; exact H) | exact H
 have cf := G.m bz; clear bz; obtain ⟨aO, A5, H⟩ := G.bi H; replace H : (some aO) = some r := H; obtain rfl := Option.some.inj H
 go_enter Try.func34, Try.ntmps34; try go_wp2_with (first | ((with_reducible refine G.h 2 rfl ?_); refine G.be 2 #[.int .i64 ac, .int .i64 aM] 40 ?_; intro aT hg w6 hbox hb; have n0 := G.bs HB hb; have n1 := G.m (hbox); have n2 := G.m (caau : w.heap.size ≤ aT); have n3 := G.m (caau : w.heap.size ≤ aT); clear HB; revert n0 n1 n2 n3; intro HB ak eo ep; clear hb hbox hg) | ((with_reducible refine G.h 3 rfl ?_); refine G.be 3 #[.int .i64 ah, .int .i64 ag] 40 ?_; intro bh hg w7 hbox hb; have n0 := G.bb ak hb; have n1 := G.bs HB hb; have n2 := G.m (hbox); have n3 := G.m (caau : w.heap.size ≤ bh); have n4 := G.m (caau : w.heap.size ≤ bh); have n5 := G.m ((by rw [hg]; exact Nat.ne_of_lt (blk_lt (g := aT) (o := .cells #[.int .i64 ac, .int .i64 aM] 40 (0, 0)) (G.cb ak.out)) : aT ≠ bh)); have n6 := G.m ((by rw [hg]; exact Nat.ne_of_gt (blk_lt (g := aT) (o := .cells #[.int .i64 ac, .int .i64 aM] 40 (0, 0)) (G.cb ak.out)) : bh ≠ aT)); clear ak HB; revert n0 n1 n2 n3 n4 n5 n6; intro ak HB ap eq er cG cH; clear hb hbox hg))
 have n0 := G.m (blk_drew ak.out); have n1 := G.m (blk_drew ap.out); have n2 := G.m (below_drew1 HB.out); clear ak ap HB; revert n0 n1 n2; intro ak ap HB; refine G.st 13 (S := fun w' => w'.cell? ⟨aT, 0, none⟩ = some (.int .i64 ac) ∧ w'.cell? ⟨aT, 1, none⟩ = some (.int .i64 aM) ∧ w'.cell? ⟨bh, 0, none⟩ = some (.int .i64 ah) ∧ w'.cell? ⟨bh, 1, none⟩ = some (.int .i64 ag)) [] ⟨G.z ak 0, G.z ak 1, G.z ap 0, G.z ap 1⟩ impl_tieOrder.tab1 impl_tieOrder.bits1 (fun hHeld HT_ HW_ => ?_); generalize w7.drew = w8 at ak ap HB hHeld ⊢; refine G.pu 0 5 1 ?_; refine G.pu 2 7 5 ?_; refine G.pu 5 10 37 ?_; refine G.pu 7 12 165 ?_; refine G.ta4 1 6 167 ?_; refine G.ta4 3 8 175 ?_; refine G.ta4 6 11 239 ?_; refine G.ta4 8 13 495 ?_; refine G.on 4 9 511 (fun K hK => ?_); refine G.gs Try.func42 #[.int .i64 ac, .int .i64 ah] ?_; with_reducible refine (cmp_Compare_int.calls ac ah aN _ A3.out).mono ?_
 rintro e w' ⟨rfl, ⟨nd, rfl⟩⟩; refine ⟨_, rfl, ?_⟩; refine hK.out _ _ ⟨G.z ak 0, G.z ak 1, G.z ap 0, G.z ap 1⟩ (fun hHeld => ?_); clear hK K; refine G.no 9 ?_; refine G.on 9 14 1023 (fun K hK => ?_); refine G.gs Try.func42 #[.int .i64 aM, .int .i64 ag] ?_; with_reducible refine (cmp_Compare_int.calls aM ag aK _ A4.out).mono ?_
 rintro e w' ⟨rfl, ⟨nd, rfl⟩⟩; refine ⟨_, rfl, ?_⟩; refine hK.out _ _ ⟨G.z ak 0, G.z ak 1, G.z ap 0, G.z ap 1⟩ (fun hHeld => ?_); clear hK K; refine G.no 14 ?_; refine G.on 10 15 2047 (fun K hK => ?_); refine Kd.R_lit_step (Kd.int .i64) _ 3 ?hg (N := 15) ?hd (xs := ([aN, aK] : List Int)) (inner := [.int .i64 aN, .int .i64 aK]) (ok := fun _ => True) (okp := fun _ => True) ?hr ?hp (fun _ hk => hk) trivial (Below.refl _ _) (Nat.le_refl _) (by simp) ?_; (case hd => rfl); (case hg => rfl); (case hr => first | (go_simp; done) | (go_simp; rfl)); (case hp => exact (Reps.one (show Kd.M (Kd.int .i64) _ _ _ aN [.int .i64 aN] from rfl) (Reps.one (show Kd.M (Kd.int .i64) _ _ _ aK [.int .i64 aK] from rfl) (Reps.none _ _)))); intro eN w9 bK hb hg_ hnew_; clear hg_ hnew_; (first | rw [← cf.out] at bK | (simp only [Int.reduceToNat] at bK; rw [← cf.out] at bK)); have n0 := G.m (Kd.R_lower bK (below_size (G.cB HB.out))); have n1 := G.bb ak hb; have n2 := G.bb ap hb; have n3 := G.bs HB hb; clear ak ap HB; revert n0 n1 n2 n3; intro bT ak ap HB; clear hb bK; obtain ⟨cU, cW, cn⟩ := Kd.R_slice bT.out; (first | subst cn | (injection cn with cI d7 cJ; have d8 := cI.symm; have d9 := cJ.symm; clear cI d7 cJ; subst d8; subst d9)); refine hK.out _ _ ⟨G.z ak 0, G.z ak 1, G.z ap 0, G.z ap 1⟩ (fun hHeld => ?_); clear hK K; refine G.no 15 ?_; refine G.on 11 16 4095 (fun K hK => ?_); refine G.gs Try.func41 #[.slice cU b7.length cW] ?_; with_reducible refine (cmp_Or_int.calls k _ _ b7 aO _ ?side1 ?side2 A5.out).mono ?_
 (case side1 => exact G.cC (Kd.R_reads' bT.out).2.2); (case side2 => exact (Kd.R_reads' bT.out).2.1); rintro e w' ⟨rfl, ⟨nd, rfl⟩⟩; refine ⟨_, rfl, ?_⟩; refine hK.out _ _ ⟨G.z ak 0, G.z ak 1, G.z ap 0, G.z ap 1⟩ (fun hHeld => ?_); clear hK K; refine G.no 16 ?_; refine G.pu 12 4 8191 ?_; refine done_ (done_of HT_.out (caax)) ?_; try go_wp2
 go_ret
 exact ⟨caaw, G.cB HB.out⟩

/-! ### impl_ascending: function 28 -/
def impl_ascending.l0 : Nat → List (S40) → Int → Option (Bool)
 | 0, _, _ => none
 | k + 1, x0, x3 => if x3 < (x0.length : Int) then (if 0 ≤ (wrap64 (x3 - 1)) then (if (wrap64 (x3 - 1)) < (x0.length : Int) then (if 0 ≤ x3 then ((impl_tieOrder.f k ((rd_T40 x0 (wrap64 (x3 - 1))).f0) ((rd_T40 x0 (wrap64 (x3 - 1))).f1) ((rd_T40 x0 x3).f0) ((rd_T40 x0 x3).f1)).bind fun aY => (if aY ≥ 0 then (some false) else (impl_ascending.l0 k x0 (wrap64 (x3 + 1))))) else (none)) else (none)) else (none)) else (some true)
def impl_ascending.f (k : Nat) (l0 : List (S40)) : Option (Bool) := impl_ascending.l0 k l0 1
theorem impl_ascending.mono_l : ∀ k, (∀ y0 y1, LeO (impl_ascending.l0 k y0 y1) (impl_ascending.l0 (k + 1) y0 y1))
 | 0 => fun _ _ r h => by simp [impl_ascending.l0] at h
 | k + 1 => by
  have aq := impl_ascending.mono_l k
  ·intro y0 y1; unfold impl_ascending.l0
   repeat' first
   | (with_reducible exact aq _ _)
   | (with_reducible exact impl_tieOrder.mono _ _ _ _ _)
   | (with_reducible exact LeO.refl _)
   | (with_reducible exact LeO.none _)
   | (with_reducible refine LeO.ite ?_ ?_)
   | (with_reducible refine LeO.bind ?_ (fun _ => ?_))
   | exact aq _ _
   | exact impl_tieOrder.mono _ _ _ _ _
   | exact LeO.none _
   | refine LeO.ite ?_ ?_
   | refine LeO.bind ?_ (fun _ => ?_)
theorem impl_ascending.mono : ∀ a0 k, LeO (impl_ascending.f k a0) (impl_ascending.f (k + 1) a0) := by
 intro a0 k; have aq := impl_ascending.mono_l k; unfold impl_ascending.f
 repeat' first | (with_reducible first | exact aq _ _ | exact impl_tieOrder.mono _ _ _ _ _ | exact LeO.refl _ | exact LeO.none _ | refine LeO.ite ?_ ?_ | refine LeO.bind ?_ (fun _ => ?_)) | exact aq _ _ | exact impl_tieOrder.mono _ _ _ _ _ | exact LeO.none _ | refine LeO.ite ?_ ?_ | refine LeO.bind ?_ (fun _ => ?_)
def impl_ascending.T4 : Bool × List (List Nat × List Nat) := (true, [([], []), ([], []), ([1], [1]), ([0, 2], [0, 2]), ([3], [3]), ([], []), ([], []), ([5, 6], [5, 6]), ([7], [7]), ([4, 8], [4, 8]), ([9], [9])])
def impl_ascending.B4 : List Nat := [0, 0, 2, 7, 15, 0, 0, 96, 224, 511, 1023]
theorem impl_ascending.tab4 : rtab .any (opsOf Try.f28 4) = impl_ascending.T4 := by kernel_rfl
theorem impl_ascending.bits4 : waitsOk impl_ascending.T4.2 impl_ascending.B4 = true := by kernel_rfl
set_option maxHeartbeats 8000000 in
set_option maxRecDepth 100000 in
theorem impl_ascending.calls (k : Nat) (A0 : Option Addr) (c0 : Nat) (l0 : List (S40)) (r : Bool) (w : World) (aU : Kd.C k40 w A0 l0.length l0) (aV : l0.length ≤ c0) (h : impl_ascending.f k l0 = some r) :
  Calls Try.prog 28 #[.slice A0 l0.length c0] w fun e w' => e = .returned (.bool r) ∧ Below w.heap.size w w' := by
 have bJ := Try.underlying40; have aW := G.m aU; have bL := G.m aV; clear aU aV; have HB := G.m (Below.refl w.heap.size w); have H : (impl_ascending.l0 k l0 1) = some r := h; clear h; have H' := G.m H; clear H
 go_enter Try.func28, Try.ntmps28
 go_wp2
 go_loopg [3] k (fun kq v3 w' => ∃ (af : Int), v3 = .int .i64 af ∧ Aside0 (impl_ascending.l0 kq l0 af = some r) ∧ Aside0 (kq ≤ k) ∧ Aside0 (Below w.heap.size w w'))
 case atStart => exact ⟨(1), (caav), H', ⟨Nat.le_refl _⟩, ⟨G.cB HB.out⟩⟩
 case round =>
  clear H'; obtain ⟨af, rfl, HA, bd, HB⟩ := hrel; cases gk with
  | zero => exact absurd HA.out (by simp [impl_ascending.l0])
  | succ k1 =>
   have H := HA.out; clear HA; simp only [impl_ascending.l0] at H
   by_cases c2 : af < (l0.length : Int)
   ·rw [if_pos c2] at H; have cX : decide (af < (l0.length : Int)) = true := decide_eq_true c2; clear c2; obtain ⟨am, bI⟩ : ∃ j_ : Int, (wrap64 (af - 1)) = j_ := ⟨_, rfl⟩; replace H : (if 0 ≤ (am) then (if (am) < (l0.length : Int) then (if 0 ≤ af then ((impl_tieOrder.f k1 ((rd_T40 l0 (am)).f0) ((rd_T40 l0 (am)).f1) ((rd_T40 l0 af).f0) ((rd_T40 l0 af).f1)).bind fun aY => (if aY ≥ 0 then (some false) else (impl_ascending.l0 k1 l0 (wrap64 (af + 1))))) else (none)) else (none)) else (none)) = some r := by first | (rw [bI] at H; exact H) | (simp only [bI] at H ⊢; exact H)
    have es : (IntKind.i64.wrap (af - 1)) = am := (i64_w _).trans bI
    by_cases c4 : 0 ≤ (am)
    ·rw [if_pos c4] at H; have aR : decide (0 ≤ (am)) = true := decide_eq_true c4; clear c4
     by_cases c5 : (am) < (l0.length : Int)
     ·rw [if_pos c5] at H; have b8 : decide ((am) < (l0.length : Int)) = true := decide_eq_true c5; clear c5
      by_cases c6 : 0 ≤ af
      ·rw [if_pos c6] at H; have bU : decide (0 ≤ af) = true := decide_eq_true c6; clear c6; obtain ⟨aY, A7, H⟩ := G.bi H; replace H : (if aY ≥ 0 then (some false) else (impl_ascending.l0 k1 l0 (wrap64 (af + 1)))) = some r := H
       by_cases c8 : aY ≥ 0
       ·rw [if_pos c8] at H; have cY : decide (0 ≤ aY) = true := decide_eq_true c8; clear c8; obtain rfl := Option.some.inj H; try go_wp2
        have n0 := G.m (below_drew1 HB.out); clear HB; revert n0; intro HB; have bk : 0 ≤ ((am) : Int) := of_decide_eq_true (G.asm); have bl : (am) < (l0.length : Int) := of_decide_eq_true (G.asm); obtain ⟨ay, b9, aC, aD⟩ := at_T40 aW.out (am) bk bl; have aZ := aD; have a4 := aC; cases b9; replace aC := G.hx HB aC; replace aD := G.hx HB aD; replace bk := eq_true bk; replace bl := eq_true bl; have bm : 0 ≤ (af : Int) := of_decide_eq_true (G.asm); have bn : af < (l0.length : Int) := of_decide_eq_true (G.asm); obtain ⟨bV, b_, aE, aF⟩ := at_T40 aW.out af bm bn; have a5 := aF; have a6 := aE; obtain rfl : ay = bV := (by injection b_); replace aE := G.hx HB aE; replace aF := G.hx HB aF; replace bm := eq_true bm; replace bn := eq_true bn; refine G.st 11 (S := fun w' => w'.cell? (ay.add (((am)).toNat * 2)) = some (.int .i64 ((rd_T40 l0 (am)).f0)) ∧ w'.cell? ⟨(ay.add (((am)).toNat * 2)).block, (ay.add (((am)).toNat * 2)).off + 1, none⟩ = some (.int .i64 ((rd_T40 l0 (am)).f1)) ∧ w'.cell? (ay.add ((af).toNat * 2)) = some (.int .i64 ((rd_T40 l0 af).f0)) ∧ w'.cell? ⟨(ay.add ((af).toNat * 2)).block, (ay.add ((af).toNat * 2)).off + 1, none⟩ = some (.int .i64 ((rd_T40 l0 af).f1))) [] ⟨(G.hx HB a4), (G.hx HB aZ), (G.hx HB a6), (G.hx HB a5)⟩ impl_ascending.tab4 impl_ascending.bits4 (fun hHeld HT_ HW_ => ?_); generalize wr.drew = w9 at HB aC aD aE aF hHeld ⊢; refine G.pu 0 10 1 ?_; refine G.pu 1 11 3 ?_; refine G.pu 2 12 7 ?_; refine G.pu 3 13 15 ?_; refine G.pu 5 15 47 ?_; refine G.pu 6 16 111 ?_; refine G.pu 7 17 239 ?_; refine G.ta4 4 14 255 ?_; refine G.ta4 8 18 511 ?_; refine G.on 9 19 1023 (fun K hK => ?_); refine goes_ Try.func34 (caax) rfl #[.agg #[.int .i64 ((rd_T40 l0 (am)).f0), .int .i64 ((rd_T40 l0 (am)).f1)], .agg #[.int .i64 ((rd_T40 l0 af).f0), .int .i64 ((rd_T40 l0 af).f1)]] (by rfl) rfl rfl (caaC) ?_; with_reducible refine (impl_tieOrder.calls k1 ((rd_T40 l0 (am)).f0) ((rd_T40 l0 (am)).f1) ((rd_T40 l0 af).f0) ((rd_T40 l0 af).f1) aY _ A7.out).mono ?_
        rintro e eP ⟨rfl, hb⟩; refine ⟨_, rfl, ?_⟩; have n0 := G.bs HB hb; clear HB; revert n0; intro HB; (try clear hb); refine hK.out _ _ ⟨(G.hx HB a4), (G.hx HB aZ), (G.hx HB a6), (G.hx HB a5)⟩ (fun hHeld => ?_); clear hK K; refine G.no 19 ?_; refine G.pu 10 20 2047 ?_; refine done_ (done_of HT_.out (caax)) ?_; try go_wp2
        go_ret
        exact ⟨by first | rfl | (simp [errW_none, errW_some] <;> rfl) | (simp only [← bI]; first | rfl | (simp [errW_none, errW_some] <;> rfl)) | (simp [*, errW_none, errW_some] <;> rfl), G.cB HB.out⟩
       ·rw [if_neg c8] at H; have cY : decide (0 ≤ aY) = false := decide_eq_false c8; clear c8; have H' := G.m H; clear H; try go_wp2
        have n0 := G.m (below_drew1 HB.out); clear HB; revert n0; intro HB; have bk : 0 ≤ ((am) : Int) := of_decide_eq_true (G.asm); have bl : (am) < (l0.length : Int) := of_decide_eq_true (G.asm); obtain ⟨ay, b9, aC, aD⟩ := at_T40 aW.out (am) bk bl; have aZ := aD; have a4 := aC; cases b9; replace aC := G.hx HB aC; replace aD := G.hx HB aD; replace bk := eq_true bk; replace bl := eq_true bl; have bm : 0 ≤ (af : Int) := of_decide_eq_true (G.asm); have bn : af < (l0.length : Int) := of_decide_eq_true (G.asm); obtain ⟨bV, b_, aE, aF⟩ := at_T40 aW.out af bm bn; have a5 := aF; have a6 := aE; obtain rfl : ay = bV := (by injection b_); replace aE := G.hx HB aE; replace aF := G.hx HB aF; replace bm := eq_true bm; replace bn := eq_true bn; refine G.st 11 (S := fun w' => w'.cell? (ay.add (((am)).toNat * 2)) = some (.int .i64 ((rd_T40 l0 (am)).f0)) ∧ w'.cell? ⟨(ay.add (((am)).toNat * 2)).block, (ay.add (((am)).toNat * 2)).off + 1, none⟩ = some (.int .i64 ((rd_T40 l0 (am)).f1)) ∧ w'.cell? (ay.add ((af).toNat * 2)) = some (.int .i64 ((rd_T40 l0 af).f0)) ∧ w'.cell? ⟨(ay.add ((af).toNat * 2)).block, (ay.add ((af).toNat * 2)).off + 1, none⟩ = some (.int .i64 ((rd_T40 l0 af).f1))) [] ⟨(G.hx HB a4), (G.hx HB aZ), (G.hx HB a6), (G.hx HB a5)⟩ impl_ascending.tab4 impl_ascending.bits4 (fun hHeld HT_ HW_ => ?_); generalize wr.drew = eQ at HB aC aD aE aF hHeld ⊢; refine G.pu 0 10 1 ?_; refine G.pu 1 11 3 ?_; refine G.pu 2 12 7 ?_; refine G.pu 3 13 15 ?_; refine G.pu 5 15 47 ?_; refine G.pu 6 16 111 ?_; refine G.pu 7 17 239 ?_; refine G.ta4 4 14 255 ?_; refine G.ta4 8 18 511 ?_; refine G.on 9 19 1023 (fun K hK => ?_); refine goes_ Try.func34 (caax) rfl #[.agg #[.int .i64 ((rd_T40 l0 (am)).f0), .int .i64 ((rd_T40 l0 (am)).f1)], .agg #[.int .i64 ((rd_T40 l0 af).f0), .int .i64 ((rd_T40 l0 af).f1)]] (by rfl) rfl rfl (caaC) ?_; with_reducible refine (impl_tieOrder.calls k1 ((rd_T40 l0 (am)).f0) ((rd_T40 l0 (am)).f1) ((rd_T40 l0 af).f0) ((rd_T40 l0 af).f1) aY _ A7.out).mono ?_
        rintro e eR ⟨rfl, hb⟩; refine ⟨_, rfl, ?_⟩; have n0 := G.bs HB hb; clear HB; revert n0; intro HB; (try clear hb); refine hK.out _ _ ⟨(G.hx HB a4), (G.hx HB aZ), (G.hx HB a6), (G.hx HB a5)⟩ (fun hHeld => ?_); clear hK K; refine G.no 19 ?_; refine G.pu 10 20 2047 ?_; refine done_ (done_of HT_.out (caax)) ?_; try go_wp2
        go_roundg k1
        case measure => have := bd.out; omega
        case rel => exact ⟨(wrap64 (af + 1)), (caav), H', ⟨by have := bd.out; omega⟩, ⟨G.cB HB.out⟩⟩
      ·rw [if_neg c6] at H; exact absurd H (by simp)
     ·rw [if_neg c5] at H; exact absurd H (by simp)
    ·rw [if_neg c4] at H; exact absurd H (by simp)
   ·rw [if_neg c2] at H; have cX : decide (af < (l0.length : Int)) = false := decide_eq_false c2; clear c2; obtain rfl := Option.some.inj H
    go_wp2
    go_ret
    exact ⟨caaw, G.cB HB.out⟩

/-! ### impl_NetOk: function 17 -/
mutual
def impl_NetOk.j0 : Nat → Bool → Int → List (S40) → Option (Bool)
 | 0, _, _, _ => none
 | k + 1, d_, bj, aQ => if d_ = true then (some false) else (impl_NetOk.l0 k aQ (aQ.length : Int) 0 bj aQ)
def impl_NetOk.l0 : Nat → List (S40) → Int → Int → Int → List (S40) → Option (Bool)
 | 0, _, _, _, _, _ => none
 | k + 1, bM, cL, bE, bj, aQ => if bE < cL then (if 0 ≤ bE then (if bE < (bM.length : Int) then (if ((rd_T40 bM bE).f0) < 0 then (some false) else (if ((rd_T40 bM bE).f0) ≥ ((rd_T40 bM bE).f1) then (some false) else (if ((rd_T40 bM bE).f1) ≥ bj then (some false) else (impl_NetOk.l0 k bM cL (wrap64 (bE + 1)) bj aQ)))) else (none)) else (none)) else ((impl_ascending.f k aQ).bind fun bW => (some bW))
end
def impl_NetOk.f (k : Nat) (ac : Int) (aa : List (S40)) : Option (Bool) := if ac < 0 then (impl_NetOk.j0 k true ac aa) else (impl_NetOk.j0 k (decide (ac > 8)) ac aa)
theorem impl_NetOk.mono_l : ∀ k, (∀ y0 y1 y2, LeO (impl_NetOk.j0 k y0 y1 y2) (impl_NetOk.j0 (k + 1) y0 y1 y2)) ∧ (∀ y0 y1 y2 y3 y4, LeO (impl_NetOk.l0 k y0 y1 y2 y3 y4) (impl_NetOk.l0 (k + 1) y0 y1 y2 y3 y4))
 | 0 => ⟨fun _ _ _ r h => by simp [impl_NetOk.j0] at h, fun _ _ _ _ _ r h => by simp [impl_NetOk.l0] at h⟩
 | k + 1 => by
  obtain ⟨aq, b2⟩ := impl_NetOk.mono_l k; refine ⟨?_, ?_⟩ <;> intros
  all_goals first | unfold impl_NetOk.j0 | unfold impl_NetOk.l0
  repeat' first | (with_reducible first | exact aq _ _ _ | exact b2 _ _ _ _ _ | exact impl_ascending.mono _ _ | exact LeO.refl _ | exact LeO.none _ | refine LeO.ite ?_ ?_ | refine LeO.bind ?_ (fun _ => ?_)) | exact aq _ _ _ | exact b2 _ _ _ _ _ | exact impl_ascending.mono _ _ | exact LeO.none _ | refine LeO.ite ?_ ?_ | refine LeO.bind ?_ (fun _ => ?_)
theorem impl_NetOk.mono : ∀ a0 a1 k, LeO (impl_NetOk.f k a0 a1) (impl_NetOk.f (k + 1) a0 a1) := by
 intro a0 a1 k; obtain ⟨aq, b2⟩ := impl_NetOk.mono_l k; unfold impl_NetOk.f
 repeat' first | (with_reducible first | exact aq _ _ _ | exact b2 _ _ _ _ _ | exact impl_ascending.mono _ _ | exact LeO.refl _ | exact LeO.none _ | refine LeO.ite ?_ ?_ | refine LeO.bind ?_ (fun _ => ?_)) | exact aq _ _ _ | exact b2 _ _ _ _ _ | exact impl_ascending.mono _ _ | exact LeO.none _ | refine LeO.ite ?_ ?_ | refine LeO.bind ?_ (fun _ => ?_)
set_option maxHeartbeats 8000000 in
set_option maxRecDepth 100000 in
theorem impl_NetOk.calls (k : Nat) (ac : Int) (aA : Option Addr) (ax : Nat) (aa : List (S40)) (r : Bool) (w : World) (bA : Kd.C k40 w aA aa.length aa) (bB : aa.length ≤ ax) (h : impl_NetOk.f k ac aa = some r) :
  Calls Try.prog 17 #[.agg #[.int .i64 ac, .slice aA aa.length ax]] w fun e w' => e = .returned (.bool r) ∧ Below w.heap.size w w' := by
 have cZ := Try.underlying30; have bJ := Try.underlying40; have aX := G.m bA; have bF := G.m bB; clear bA bB; have HB := G.m (Below.refl w.heap.size w); have H : (if ac < 0 then (impl_NetOk.j0 k true ac aa) else (impl_NetOk.j0 k (decide (ac > 8)) ac aa)) = some r := h; clear h; have co := G.m H; clear H
 go_enter Try.func17, Try.ntmps17
 go_upto_region 1 with (first | ((with_reducible refine G.h 1 rfl ?_); refine G.be 1 #[.int .i64 ac, .slice aA aa.length ax] 30 ?_; intro az hg w3 hbox hb; have n0 := G.bs HB hb; have n1 := G.m (hbox); have n2 := G.m (caau : w.heap.size ≤ az); have n3 := G.m (caau : w.heap.size ≤ az); clear HB; revert n0 n1 n2 n3; intro HB ai et eu; clear hb hbox hg))
 (try simp only [Act.put, List.setIfInBounds_toArray, List.set_cons_zero, List.set_cons_succ])
 go_cut [12] (fun ea wc => ∃ (kq : Nat) (bG : Bool), ea = .bool bG ∧ Aside0 (impl_NetOk.j0 kq bG ac aa = some r) ∧ Aside0 (kq ≤ k) ∧ Aside0 (wc.heap[az]? = some (.cells #[.int .i64 ac, (.slice aA aa.length ax)] 30 (0, 0))) ∧ Aside0 (Below w.heap.size w wc))
 case first =>
  have H := co.out; clear co
  by_cases c4 : ac < 0
  ·rw [if_pos c4] at H; have aR : decide (ac < 0) = true := decide_eq_true c4; clear c4; (first | rw [aR] | (simp only [i64_w, i32_w]; rw [aR]) | skip); have H' := G.m H; clear H; have ⟨cp, cq, cr, ct⟩ := G.d2 (w := w3) ai
   go_wp2
   go_meet
   case rel => exact ⟨_, (true), (caav), H', ⟨by first | omega | exact Nat.le_refl _⟩, ⟨G.cb ai.out⟩, ⟨G.cB HB.out⟩⟩
  ·rw [if_neg c4] at H; have aR : decide (ac < 0) = false := decide_eq_false c4; clear c4; (first | rw [aR] | (simp only [i64_w, i32_w]; rw [aR]) | skip); have H' := G.m H; clear H; have ⟨eb, ec, ed, ee⟩ := G.d2 (w := w3) ai
   go_wp2
   go_meet
   case rel => exact ⟨_, (decide (ac > 8)), (caav), H', ⟨by first | omega | exact Nat.le_refl _⟩, ⟨G.cb ai.out⟩, ⟨G.cB HB.out⟩⟩
 case rest =>
  clear co; obtain ⟨kq, bG, rfl, HA, cM, ai, HB⟩ := hcut; cases kq with
  | zero => exact absurd HA.out (by simp [impl_NetOk.j0])
  | succ cu =>
   have H := HA.out; clear HA; simp only [impl_NetOk.j0] at H
   by_cases c7 : bG = true
   ·subst c7; have H1 : (some false) = some r := by rw [if_pos rfl] at H; exact H
    clear H; have H := H1; clear H1; obtain rfl := Option.some.inj H
    go_wp2
    go_ret
    exact ⟨caaw, G.cB HB.out⟩
   ·replace c7 := Bool.eq_false_iff.mpr c7; subst c7; have H1 : (impl_NetOk.l0 cu aa (aa.length : Int) 0 ac aa) = some r := by rw [if_neg (show ¬ (false = true) by decide)] at H; exact H
    clear H; have H := H1; clear H1; have H' := G.m H; clear H; have ⟨b3, b4, b5, b6⟩ := G.d2 (w := wc) ai
    go_wp2
    go_loopg [16] cu (fun kq ef w' => ∃ (ae : Int), ef = .int .i64 ae ∧ Aside0 (impl_NetOk.l0 kq aa (aa.length : Int) ae ac aa = some r) ∧ Aside0 (kq ≤ cu) ∧ Aside0 (w'.heap[az]? = some (.cells #[.int .i64 ac, (.slice aA aa.length ax)] 30 (0, 0))) ∧ Aside0 (Below w.heap.size w w'))
    case atStart => exact ⟨(0), (caav), H', ⟨Nat.le_refl _⟩, ⟨G.cb ai.out⟩, ⟨G.cB HB.out⟩⟩
    case round =>
     clear H'; (try clear c7 b3 b4 b5 b6); obtain ⟨ae, rfl, HA, cN, ai, HB⟩ := hrel; cases gk with
     | zero => exact absurd HA.out (by simp [impl_NetOk.l0])
     | succ k2 =>
      have H := HA.out; clear HA; simp only [impl_NetOk.l0] at H
      by_cases c9 : ae < (aa.length : Int)
      ·rw [if_pos c9] at H; have c_ : decide (ae < (aa.length : Int)) = true := decide_eq_true c9; clear c9
       by_cases c10 : 0 ≤ ae
       ·rw [if_pos c10] at H; have ev : decide (0 ≤ ae) = true := decide_eq_true c10; clear c10
        by_cases cg : ae < (aa.length : Int)
        ·rw [if_pos cg] at H; have ew : decide (ae < (aa.length : Int)) = true := decide_eq_true cg; clear cg
         by_cases bN : ((rd_T40 aa ae).f0) < 0
         ·rw [if_pos bN] at H; have cw : decide (((rd_T40 aa ae).f0) < 0) = true := decide_eq_true bN; clear bN; obtain rfl := Option.some.inj H; have aG : 0 ≤ (ae : Int) := of_decide_eq_true (G.asm); have aH : ae < (aa.length : Int) := of_decide_eq_true (G.asm); obtain ⟨bx, bo, av, aw⟩ := at_T40 aX.out ae aG aH; cases bo; replace av := G.hx HB av; replace aw := G.hx HB aw; replace aG := eq_true aG; replace aH := eq_true aH
          go_wp2_with (first | ((with_reducible refine G.h 4 rfl ?_); refine G.be 4 #[.int .i64 0, .int .i64 0] 40 ?_; intro ao hg cO hbox hb; have n0 := G.bb ai hb; have n1 := G.bs HB hb; have n2 := G.m (hbox); have n3 := G.m (caau : w.heap.size ≤ ao); have n4 := G.m (caau : w.heap.size ≤ ao); have n5 := G.m (caay : az ≠ ao); have n6 := G.m (caaz : ao ≠ az); clear ai HB; revert n0 n1 n2 n3 n4 n5 n6; intro ai HB ba bX bY au aB; clear hb hbox hg; have ex := aB.out; have ey := au.out; have ⟨df, dg, dh, di⟩ := G.d2 (w := cO) ba))
          go_ret
          exact ⟨caaw, G.cB HB.out⟩
         ·rw [if_neg bN] at H; have cw : decide (((rd_T40 aa ae).f0) < 0) = false := decide_eq_false bN; clear bN
          by_cases bO : ((rd_T40 aa ae).f0) ≥ ((rd_T40 aa ae).f1)
          ·rw [if_pos bO] at H; have cx : decide (((rd_T40 aa ae).f1) ≤ ((rd_T40 aa ae).f0)) = true := decide_eq_true bO; clear bO; obtain rfl := Option.some.inj H; have aG : 0 ≤ (ae : Int) := of_decide_eq_true (G.asm); have aH : ae < (aa.length : Int) := of_decide_eq_true (G.asm); obtain ⟨bx, bo, av, aw⟩ := at_T40 aX.out ae aG aH; cases bo; replace av := G.hx HB av; replace aw := G.hx HB aw; replace aG := eq_true aG; replace aH := eq_true aH
           go_wp2_with (first | ((with_reducible refine G.h 4 rfl ?_); refine G.be 4 #[.int .i64 0, .int .i64 0] 40 ?_; intro ao hg eg hbox hb; have n0 := G.bb ai hb; have n1 := G.bs HB hb; have n2 := G.m (hbox); have n3 := G.m (caau : w.heap.size ≤ ao); have n4 := G.m (caau : w.heap.size ≤ ao); have n5 := G.m (caay : az ≠ ao); have n6 := G.m (caaz : ao ≠ az); clear ai HB; revert n0 n1 n2 n3 n4 n5 n6; intro ai HB ba bX bY au aB; clear hb hbox hg; have ez := aB.out; have eA := au.out; have ⟨dj, dk, dl, dn⟩ := G.d2 (w := eg) ba))
           go_ret
           exact ⟨caaw, G.cB HB.out⟩
          ·rw [if_neg bO] at H; have cx : decide (((rd_T40 aa ae).f1) ≤ ((rd_T40 aa ae).f0)) = false := decide_eq_false bO; clear bO
           by_cases bP : ((rd_T40 aa ae).f1) ≥ ac
           ·rw [if_pos bP] at H; have cy : decide (ac ≤ ((rd_T40 aa ae).f1)) = true := decide_eq_true bP; clear bP; obtain rfl := Option.some.inj H; have aG : 0 ≤ (ae : Int) := of_decide_eq_true (G.asm); have aH : ae < (aa.length : Int) := of_decide_eq_true (G.asm); obtain ⟨bx, bo, av, aw⟩ := at_T40 aX.out ae aG aH; cases bo; replace av := G.hx HB av; replace aw := G.hx HB aw; replace aG := eq_true aG; replace aH := eq_true aH
            go_wp2_with (first | ((with_reducible refine G.h 4 rfl ?_); refine G.be 4 #[.int .i64 0, .int .i64 0] 40 ?_; intro ao hg cP hbox hb; have n0 := G.bb ai hb; have n1 := G.bs HB hb; have n2 := G.m (hbox); have n3 := G.m (caau : w.heap.size ≤ ao); have n4 := G.m (caau : w.heap.size ≤ ao); have n5 := G.m (caay : az ≠ ao); have n6 := G.m (caaz : ao ≠ az); clear ai HB; revert n0 n1 n2 n3 n4 n5 n6; intro ai HB ba bX bY au aB; clear hb hbox hg; have eB := aB.out; have eC := au.out; have ⟨dp, dq, dr, dt⟩ := G.d2 (w := cP) ba; have ⟨du, dv, dw, dx⟩ := G.d2 (w := cP) ai))
            go_ret
            exact ⟨caaw, G.cB HB.out⟩
           ·rw [if_neg bP] at H; have cy : decide (ac ≤ ((rd_T40 aa ae).f1)) = false := decide_eq_false bP; clear bP; have H' := G.m H; clear H; have aG : 0 ≤ (ae : Int) := of_decide_eq_true (G.asm); have aH : ae < (aa.length : Int) := of_decide_eq_true (G.asm); obtain ⟨bx, bo, av, aw⟩ := at_T40 aX.out ae aG aH; cases bo; replace av := G.hx HB av; replace aw := G.hx HB aw; replace aG := eq_true aG; replace aH := eq_true aH
            go_wp2_with (first | ((with_reducible refine G.h 4 rfl ?_); refine G.be 4 #[.int .i64 0, .int .i64 0] 40 ?_; intro ao hg cQ hbox hb; have n0 := G.bb ai hb; have n1 := G.bs HB hb; have n2 := G.m (hbox); have n3 := G.m (caau : w.heap.size ≤ ao); have n4 := G.m (caau : w.heap.size ≤ ao); have n5 := G.m (caay : az ≠ ao); have n6 := G.m (caaz : ao ≠ az); clear ai HB; revert n0 n1 n2 n3 n4 n5 n6; intro ai HB ba bX bY au aB; clear hb hbox hg; have eD := aB.out; have eE := au.out; have ⟨dy, dz, dA, dB⟩ := G.d2 (w := cQ) ba; have ⟨dC, dD, dE, dF⟩ := G.d2 (w := cQ) ai))
            go_roundg k2
            case measure => have := cM.out; have := cN.out; omega
            case rel => exact ⟨(wrap64 (ae + 1)), (caav), H', ⟨by have := cM.out; have := cN.out; omega⟩, ⟨by (with_reducible repeat (first | refine blk_drewN ?_ _ | refine blk_drew ?_ | refine blk_alloc ?_ _)); refine blk_far ?_ au.out _; (with_reducible repeat (first | refine blk_drewN ?_ _ | refine blk_drew ?_ | refine blk_alloc ?_ _)); refine blk_far ?_ au.out _; (with_reducible repeat (first | refine blk_drewN ?_ _ | refine blk_drew ?_ | refine blk_alloc ?_ _)); exact ai.out⟩, ⟨G.cB HB.out⟩⟩
        ·rw [if_neg cg] at H; exact absurd H (by simp)
       ·rw [if_neg c10] at H; exact absurd H (by simp)
      ·rw [if_neg c9] at H; have c_ : decide (ae < (aa.length : Int)) = false := decide_eq_false c9; clear c9; obtain ⟨bW, eh, H⟩ := G.bi H; replace H : (some bW) = some r := H; obtain rfl := Option.some.inj H; have ⟨dG, dH, dI, dJ⟩ := G.d2 (w := wr) ai
       go_wp2_with (first | ((with_reducible refine G.f 28 rfl ?_); refine G.gL 40 Try.func28 #[.slice aA aa.length ax] ?_; (with_reducible refine (impl_ascending.calls k2 _ _ aa bW _ ?side1 ?side2 eh.out).mono ?_); (case side1 => exact G.cC (Kd.C_below aX.out HB.out)); (case side2 => exact bF.out); rintro e eS ⟨rfl, hb⟩; refine ⟨_, rfl, ?_⟩; have n0 := G.bb ai hb; have n1 := G.bs HB hb; clear ai HB; revert n0 n1; intro ai HB; (try clear hb)))
       go_ret
       exact ⟨caaw, G.cB HB.out⟩

/-! ### slices_Index_impl_Tie_impl_Tie: function 35 -/
def slices_Index_impl_Tie_impl_Tie.l0 : Nat → List (S40) → Int → Int → Int → Int → Option (Int)
 | 0, _, _, _, _, _ => none
 | k + 1, x0, x7, x8, bQ, bR => if x8 < x7 then (if 0 ≤ x8 then (if x8 < (x0.length : Int) then (if (bQ == ((rd_T40 x0 x8).f0) && (bR == ((rd_T40 x0 x8).f1))) = true then (some x8) else (slices_Index_impl_Tie_impl_Tie.l0 k x0 x7 (wrap64 (x8 + 1)) bQ bR)) else (none)) else (none)) else (some (-1))
def slices_Index_impl_Tie_impl_Tie.f (k : Nat) (l0 : List (S40)) (ah : Int) (ag : Int) : Option (Int) := slices_Index_impl_Tie_impl_Tie.l0 k l0 (l0.length : Int) 0 ah ag
theorem slices_Index_impl_Tie_impl_Tie.mono_l : ∀ k, (∀ y0 y1 y2 y3 y4, LeO (slices_Index_impl_Tie_impl_Tie.l0 k y0 y1 y2 y3 y4) (slices_Index_impl_Tie_impl_Tie.l0 (k + 1) y0 y1 y2 y3 y4))
 | 0 => fun _ _ _ _ _ r h => by simp [slices_Index_impl_Tie_impl_Tie.l0] at h
 | k + 1 => by
  have aq := slices_Index_impl_Tie_impl_Tie.mono_l k
  ·intro y0 y1 y2 y3 y4; unfold slices_Index_impl_Tie_impl_Tie.l0
   repeat' first
   | (with_reducible exact aq _ _ _ _ _)
   | (with_reducible exact LeO.refl _)
   | (with_reducible exact LeO.none _)
   | (with_reducible refine LeO.ite ?_ ?_)
   | (with_reducible refine LeO.bind ?_ (fun _ => ?_))
   | exact aq _ _ _ _ _
   | exact LeO.none _
   | refine LeO.ite ?_ ?_
   | refine LeO.bind ?_ (fun _ => ?_)
theorem slices_Index_impl_Tie_impl_Tie.mono : ∀ a0 a1 a2 k, LeO (slices_Index_impl_Tie_impl_Tie.f k a0 a1 a2) (slices_Index_impl_Tie_impl_Tie.f (k + 1) a0 a1 a2) := by
 intro a0 a1 a2 k; have aq := slices_Index_impl_Tie_impl_Tie.mono_l k; unfold slices_Index_impl_Tie_impl_Tie.f
 repeat' first | (with_reducible first | exact aq _ _ _ _ _ | exact LeO.refl _ | exact LeO.none _ | refine LeO.ite ?_ ?_ | refine LeO.bind ?_ (fun _ => ?_)) | exact aq _ _ _ _ _ | exact LeO.none _ | refine LeO.ite ?_ ?_ | refine LeO.bind ?_ (fun _ => ?_)
set_option maxHeartbeats 8000000 in
set_option maxRecDepth 100000 in
theorem slices_Index_impl_Tie_impl_Tie.calls (k : Nat) (A0 : Option Addr) (c0 : Nat) (l0 : List (S40)) (ah : Int) (ag : Int) (r : Int) (w : World) (aU : Kd.C k40 w A0 l0.length l0) (aV : l0.length ≤ c0) (h : slices_Index_impl_Tie_impl_Tie.f k l0 ah ag = some r) :
  Calls Try.prog 35 #[.slice A0 l0.length c0, .agg #[.int .i64 ah, .int .i64 ag]] w fun e w' => e = .returned (.int .i64 r) ∧ Below w.heap.size w w' := by
 have bJ := Try.underlying40; have aW := G.m aU; have bL := G.m aV; clear aU aV; have HB := G.m (Below.refl w.heap.size w); have H : (slices_Index_impl_Tie_impl_Tie.l0 k l0 (l0.length : Int) 0 ah ag) = some r := h; clear h; have H' := G.m H; clear H
 go_enter Try.func35, Try.ntmps35
 go_wp2_with (first | ((with_reducible refine G.h 3 rfl ?_); refine G.be 3 #[.int .i64 ah, .int .i64 ag] 40 ?_; intro aP hg w3 hbox hb; have n0 := G.bs HB hb; have n1 := G.m (hbox); have n2 := G.m (caau : w.heap.size ≤ aP); have n3 := G.m (caau : w.heap.size ≤ aP); clear HB; revert n0 n1 n2 n3; intro HB bc ch ci; clear hb hbox hg))
 repeat (go_quiet (first | ((with_reducible refine G.h 3 rfl ?_); refine G.be 3 #[.int .i64 ah, .int .i64 ag] 40 ?_; intro aP hg w3 hbox hb; have n0 := G.bs HB hb; have n1 := G.m (hbox); have n2 := G.m (caau : w.heap.size ≤ aP); have n3 := G.m (caau : w.heap.size ≤ aP); clear HB; revert n0 n1 n2 n3; intro HB bc ch ci; clear hb hbox hg)); try go_wp2_with (first | ((with_reducible refine G.h 3 rfl ?_); refine G.be 3 #[.int .i64 ah, .int .i64 ag] 40 ?_; intro aP hg w3 hbox hb; have n0 := G.bs HB hb; have n1 := G.m (hbox); have n2 := G.m (caau : w.heap.size ≤ aP); have n3 := G.m (caau : w.heap.size ≤ aP); clear HB; revert n0 n1 n2 n3; intro HB bc ch ci; clear hb hbox hg)))
 go_loopg [8] k (fun kq v8 w' => ∃ (ab : Int), v8 = .int .i64 ab ∧ Aside0 (slices_Index_impl_Tie_impl_Tie.l0 kq l0 (l0.length : Int) ab ah ag = some r) ∧ Aside0 (kq ≤ k) ∧ Aside0 (w'.heap[aP]? = some (.cells #[.int .i64 ah, .int .i64 ag] 40 (0, 0))) ∧ Aside0 (Below w.heap.size w w'))
 case atStart => exact ⟨(0), (caav), H', ⟨Nat.le_refl _⟩, ⟨G.cb bc.out⟩, ⟨G.cB HB.out⟩⟩
 case round =>
  clear H'; obtain ⟨ab, rfl, HA, bd, bc, HB⟩ := hrel; cases gk with
  | zero => exact absurd HA.out (by simp [slices_Index_impl_Tie_impl_Tie.l0])
  | succ k1 =>
   have H := HA.out; clear HA; simp only [slices_Index_impl_Tie_impl_Tie.l0] at H
   by_cases c4 : ab < (l0.length : Int)
   ·rw [if_pos c4] at H; have aR : decide (ab < (l0.length : Int)) = true := decide_eq_true c4; clear c4
    by_cases c5 : 0 ≤ ab
    ·rw [if_pos c5] at H; have b8 : decide (0 ≤ ab) = true := decide_eq_true c5; clear c5
     by_cases c6 : ab < (l0.length : Int)
     ·rw [if_pos c6] at H; have bU : decide (ab < (l0.length : Int)) = true := decide_eq_true c6; clear c6
      by_cases c7 : (ah == ((rd_T40 l0 ab).f0) && (ag == ((rd_T40 l0 ab).f1))) = true
      ·rw [if_pos c7] at H; have da : (ah == ((rd_T40 l0 ab).f0) && (ag == ((rd_T40 l0 ab).f1))) = true := c7; (try (have db : decide (ah = ((rd_T40 l0 ab).f0) && (ag == ((rd_T40 l0 ab).f1))) = true := by simpa using c7)); (try (have dc : (ah == ((rd_T40 l0 ab).f0) && (ag == ((rd_T40 l0 ab).f1))) = true := by simpa using c7)); clear c7; obtain rfl := Option.some.inj H; have ⟨b3, b4, b5, b6⟩ := G.d2 (w := wr) bc; have bp : 0 ≤ (ab : Int) := of_decide_eq_true (G.asm); have bq : ab < (l0.length : Int) := of_decide_eq_true (G.asm); obtain ⟨cz, ca, a7, a8⟩ := at_T40 aW.out ab bp bq; cases ca; replace a7 := G.hx HB a7; replace a8 := G.hx HB a8; replace bp := eq_true bp; replace bq := eq_true bq
       go_wp2
       repeat (go_quiet (fail); try go_wp2)
       go_ret
       exact ⟨caaw, G.cB HB.out⟩
      ·rw [if_neg c7] at H; have da : (ah == ((rd_T40 l0 ab).f0) && (ag == ((rd_T40 l0 ab).f1))) = false := by simpa using c7
       (try (have db : decide (ah = ((rd_T40 l0 ab).f0) && (ag == ((rd_T40 l0 ab).f1))) = false := by simpa using c7)); (try (have dc : (ah == ((rd_T40 l0 ab).f0) && (ag == ((rd_T40 l0 ab).f1))) = false := by simpa using c7)); (try (have eO : ¬ (ah = ((rd_T40 l0 ab).f0) && (ag == ((rd_T40 l0 ab).f1))) := by simpa using c7)); clear c7; have H' := G.m H; clear H; have ⟨ei, ej, ek, el⟩ := G.d2 (w := wr) bc; have bp : 0 ≤ (ab : Int) := of_decide_eq_true (G.asm); have bq : ab < (l0.length : Int) := of_decide_eq_true (G.asm); obtain ⟨cz, ca, a7, a8⟩ := at_T40 aW.out ab bp bq; cases ca; replace a7 := G.hx HB a7; replace a8 := G.hx HB a8; replace bp := eq_true bp; replace bq := eq_true bq
       go_wp2
       repeat (go_quiet (fail); try go_wp2)
       go_roundg k1
       case measure => have := bd.out; omega
       case rel => exact ⟨(wrap64 (ab + 1)), (caav), H', ⟨by have := bd.out; omega⟩, ⟨G.cb bc.out⟩, ⟨G.cB HB.out⟩⟩
     ·rw [if_neg c6] at H; exact absurd H (by simp)
    ·rw [if_neg c5] at H; exact absurd H (by simp)
   ·rw [if_neg c4] at H; have aR : decide (ab < (l0.length : Int)) = false := decide_eq_false c4; clear c4; obtain rfl := Option.some.inj H
    go_wp2
    repeat (go_quiet (fail); try go_wp2)
    go_ret
    exact ⟨caaw, G.cB HB.out⟩

/-! ### slices_Contains_impl_Tie_impl_Tie: function 29 -/
def slices_Contains_impl_Tie_impl_Tie.f (k : Nat) (l0 : List (S40)) (ah : Int) (ag : Int) : Option (Bool) := (slices_Index_impl_Tie_impl_Tie.f k l0 ah ag).bind fun bC => (some (decide (bC ≥ 0)))
theorem slices_Contains_impl_Tie_impl_Tie.mono : ∀ a0 a1 a2 k, LeO (slices_Contains_impl_Tie_impl_Tie.f k a0 a1 a2) (slices_Contains_impl_Tie_impl_Tie.f (k + 1) a0 a1 a2) := by
 intro a0 a1 a2 k; unfold slices_Contains_impl_Tie_impl_Tie.f
 repeat' first | (with_reducible first | exact slices_Index_impl_Tie_impl_Tie.mono _ _ _ _ | exact LeO.refl _ | exact LeO.none _ | refine LeO.ite ?_ ?_ | refine LeO.bind ?_ (fun _ => ?_)) | exact slices_Index_impl_Tie_impl_Tie.mono _ _ _ _ | exact LeO.none _ | refine LeO.ite ?_ ?_ | refine LeO.bind ?_ (fun _ => ?_)
set_option maxHeartbeats 8000000 in
set_option maxRecDepth 100000 in
theorem slices_Contains_impl_Tie_impl_Tie.calls (k : Nat) (A0 : Option Addr) (c0 : Nat) (l0 : List (S40)) (ah : Int) (ag : Int) (r : Bool) (w : World) (aU : Kd.C k40 w A0 l0.length l0) (aV : l0.length ≤ c0) (h : slices_Contains_impl_Tie_impl_Tie.f k l0 ah ag = some r) :
  Calls Try.prog 29 #[.slice A0 l0.length c0, .agg #[.int .i64 ah, .int .i64 ag]] w fun e w' => e = .returned (.bool r) ∧ Below w.heap.size w w' := by
 have bJ := Try.underlying40; have aW := G.m aU; have bL := G.m aV; clear aU aV; have HB := G.m (Below.refl w.heap.size w); have H : ((slices_Index_impl_Tie_impl_Tie.f k l0 ah ag).bind fun bC => (some (decide (bC ≥ 0)))) = some r := h; clear h; obtain ⟨bC, A3, H⟩ := G.bi H; replace H : (some (decide (bC ≥ 0))) = some r := H; obtain rfl := Option.some.inj H
 go_enter Try.func29, Try.ntmps29
 go_wp2_with (first | ((with_reducible refine G.h 3 rfl ?_); refine G.be 3 #[.int .i64 ah, .int .i64 ag] 40 ?_; intro cj hg w4 hbox hb; have n0 := G.bs HB hb; have n1 := G.m (hbox); have n2 := G.m (caau : w.heap.size ≤ cj); have n3 := G.m (caau : w.heap.size ≤ cj); clear HB; revert n0 n1 n2 n3; intro HB bH eF eG; clear hb hbox hg; have ⟨cp, cq, cr, ct⟩ := G.d2 (w := w4) bH) | ((with_reducible refine G.f 35 rfl ?_); refine G.gL 7 Try.func35 #[.slice A0 l0.length c0, .agg #[.int .i64 ah, .int .i64 ag]] ?_; (with_reducible refine (slices_Index_impl_Tie_impl_Tie.calls k _ _ l0 ah ag bC _ ?side1 ?side2 A3.out).mono ?_); (case side1 => exact G.cC (Kd.C_below aW.out HB.out)); (case side2 => exact bL.out); rintro e w6 ⟨rfl, hb⟩; refine ⟨_, rfl, ?_⟩; have n0 := G.bb bH hb; have n1 := G.bs HB hb; clear bH HB; revert n0 n1; intro bH HB; (try clear hb)))
 go_ret
 exact ⟨caaw, G.cB HB.out⟩

/-! ### impl_Net_own: function 18 -/
def impl_Net_own.l0 : Nat → List (S40) → List (S40) → Int → Int → Int → List (S40) → Option (Bool)
 | 0, _, _, _, _, _, _ => none
 | k + 1, x1, x7, x8, x9, ck, bS => if x9 < x8 then (if 0 ≤ x9 then (if x9 < (x7.length : Int) then ((slices_Contains_impl_Tie_impl_Tie.f k bS ((rd_T40 x7 x9).f0) ((rd_T40 x7 x9).f1)).bind fun bZ => (if bZ = true then (impl_Net_own.l0 k x1 x7 x8 (wrap64 (x9 + 1)) ck bS) else (some false))) else (none)) else (none)) else ((impl_ascending.f k x1).bind fun b1 => (some b1))
def impl_Net_own.f (k : Nat) (ac : Int) (aa : List (S40)) (l1 : List (S40)) : Option (Bool) := impl_Net_own.l0 k l1 l1 (l1.length : Int) 0 ac aa
theorem impl_Net_own.mono_l : ∀ k, (∀ y0 y1 y2 y3 y4 y5, LeO (impl_Net_own.l0 k y0 y1 y2 y3 y4 y5) (impl_Net_own.l0 (k + 1) y0 y1 y2 y3 y4 y5))
 | 0 => fun _ _ _ _ _ _ r h => by simp [impl_Net_own.l0] at h
 | k + 1 => by
  have aq := impl_Net_own.mono_l k
  ·intro y0 y1 y2 y3 y4 y5; unfold impl_Net_own.l0
   repeat' first
   | (with_reducible exact aq _ _ _ _ _ _)
   | (with_reducible exact impl_ascending.mono _ _)
   | (with_reducible exact slices_Contains_impl_Tie_impl_Tie.mono _ _ _ _)
   | (with_reducible exact LeO.refl _)
   | (with_reducible exact LeO.none _)
   | (with_reducible refine LeO.ite ?_ ?_)
   | (with_reducible refine LeO.bind ?_ (fun _ => ?_))
   | exact aq _ _ _ _ _ _
   | exact impl_ascending.mono _ _
   | exact slices_Contains_impl_Tie_impl_Tie.mono _ _ _ _
   | exact LeO.none _
   | refine LeO.ite ?_ ?_
   | refine LeO.bind ?_ (fun _ => ?_)
theorem impl_Net_own.mono : ∀ a0 a1 a2 k, LeO (impl_Net_own.f k a0 a1 a2) (impl_Net_own.f (k + 1) a0 a1 a2) := by
 intro a0 a1 a2 k; have aq := impl_Net_own.mono_l k; unfold impl_Net_own.f
 repeat' first | (with_reducible first | exact aq _ _ _ _ _ _ | exact impl_ascending.mono _ _ | exact slices_Contains_impl_Tie_impl_Tie.mono _ _ _ _ | exact LeO.refl _ | exact LeO.none _ | refine LeO.ite ?_ ?_ | refine LeO.bind ?_ (fun _ => ?_)) | exact aq _ _ _ _ _ _ | exact impl_ascending.mono _ _ | exact slices_Contains_impl_Tie_impl_Tie.mono _ _ _ _ | exact LeO.none _ | refine LeO.ite ?_ ?_ | refine LeO.bind ?_ (fun _ => ?_)
set_option maxHeartbeats 8000000 in
set_option maxRecDepth 100000 in
theorem impl_Net_own.calls (k : Nat) (ac : Int) (aA : Option Addr) (ax : Nat) (aa : List (S40)) (A1 : Option Addr) (c1 : Nat) (l1 : List (S40)) (r : Bool) (w : World) (bA : Kd.C k40 w aA aa.length aa) (bB : aa.length ≤ ax) (hr1 : Kd.C k40 w A1 l1.length l1) (cS : l1.length ≤ c1) (h : impl_Net_own.f k ac aa l1 = some r) :
  Calls Try.prog 18 #[.agg #[.int .i64 ac, .slice aA aa.length ax], .slice A1 l1.length c1] w fun e w' => e = .returned (.bool r) ∧ Below w.heap.size w w' := by
 have cZ := Try.underlying30; have bJ := Try.underlying40; have aX := G.m bA; have bF := G.m bB; clear bA bB; have cv := G.m hr1; have em := G.m cS; clear hr1 cS; have HB := G.m (Below.refl w.heap.size w); have H : (impl_Net_own.l0 k l1 l1 (l1.length : Int) 0 ac aa) = some r := h; clear h; have H' := G.m H; clear H
 go_enter Try.func18, Try.ntmps18
 go_wp2_with (first | ((with_reducible refine G.h 2 rfl ?_); refine G.be 2 #[.int .i64 ac, .slice aA aa.length ax] 30 ?_; intro aI hg w3 hbox hb; have n0 := G.bs HB hb; have n1 := G.m (hbox); have n2 := G.m (caau : w.heap.size ≤ aI); have n3 := G.m (caau : w.heap.size ≤ aI); clear HB; revert n0 n1 n2 n3; intro HB al eH eI; clear hb hbox hg))
 go_loopg [9] k (fun kq v9 w' => ∃ (aj : Int), v9 = .int .i64 aj ∧ Aside0 (impl_Net_own.l0 kq l1 l1 (l1.length : Int) aj ac aa = some r) ∧ Aside0 (kq ≤ k) ∧ Aside0 (w'.heap[aI]? = some (.cells #[.int .i64 ac, (.slice aA aa.length ax)] 30 (0, 0))) ∧ Aside0 (Below w.heap.size w w'))
 case atStart => exact ⟨(0), (caav), H', ⟨Nat.le_refl _⟩, ⟨G.cb al.out⟩, ⟨G.cB HB.out⟩⟩
 case round =>
  clear H'; obtain ⟨aj, rfl, HA, bd, al, HB⟩ := hrel; cases gk with
  | zero => exact absurd HA.out (by simp [impl_Net_own.l0])
  | succ k1 =>
   have H := HA.out; clear HA; simp only [impl_Net_own.l0] at H
   by_cases c4 : aj < (l1.length : Int)
   ·rw [if_pos c4] at H; have aR : decide (aj < (l1.length : Int)) = true := decide_eq_true c4; clear c4
    by_cases c5 : 0 ≤ aj
    ·rw [if_pos c5] at H; have b8 : decide (0 ≤ aj) = true := decide_eq_true c5; clear c5
     by_cases c6 : aj < (l1.length : Int)
     ·rw [if_pos c6] at H; have bU : decide (aj < (l1.length : Int)) = true := decide_eq_true c6; clear c6; obtain ⟨bZ, A7, H⟩ := G.bi H; replace H : (if bZ = true then (impl_Net_own.l0 k1 l1 l1 (l1.length : Int) (wrap64 (aj + 1)) ac aa) else (some false)) = some r := H
      by_cases c8 : bZ = true
      ·subst c8; have H1 : (impl_Net_own.l0 k1 l1 l1 (l1.length : Int) (wrap64 (aj + 1)) ac aa) = some r := by rw [if_pos rfl] at H; exact H
       clear H; have H := H1; clear H1; have H' := G.m H; clear H; have br : 0 ≤ (aj : Int) := of_decide_eq_true (G.asm); have bu : aj < (l1.length : Int) := of_decide_eq_true (G.asm); obtain ⟨cA, cd, a9, a_⟩ := at_T40 cv.out aj br bu; cases cd; replace a9 := G.hx HB a9; replace a_ := G.hx HB a_; replace br := eq_true br; replace bu := eq_true bu
       go_wp2_with (first | ((with_reducible refine G.h 6 rfl ?_); refine G.be 6 #[.int .i64 0, .int .i64 0] 40 ?_; intro aJ hg w9 hbox hb; have n0 := G.bb al hb; have n1 := G.bs HB hb; have n2 := G.m (hbox); have n3 := G.m (caau : w.heap.size ≤ aJ); have n4 := G.m (caau : w.heap.size ≤ aJ); have n5 := G.m (caaD : aI ≠ aJ); have n6 := G.m (caaE : aJ ≠ aI); clear al HB; revert n0 n1 n2 n3 n4 n5 n6; intro al HB aS cD cE aL bf; clear hb hbox hg; have eJ := bf.out; have eK := aL.out; have ⟨dK, dL, dM, dN⟩ := G.d2 (w := w9) aS; have ⟨dO, dP, dQ, dR⟩ := G.d2 (w := w9) al) | ((with_reducible refine G.f 29 rfl ?_); refine G.gL 16 Try.func29 #[.slice aA aa.length ax, .agg #[.int .i64 ((rd_T40 l1 aj).f0), .int .i64 ((rd_T40 l1 aj).f1)]] ?_; (with_reducible refine (slices_Contains_impl_Tie_impl_Tie.calls k1 _ _ aa ((rd_T40 l1 aj).f0) ((rd_T40 l1 aj).f1) true _ ?side1 ?side2 A7.out).mono ?_); (case side1 => exact Kd.C_below aX.out (G.cB HB.out)); (case side2 => exact bF.out); rintro e cO ⟨rfl, hb⟩; refine ⟨_, rfl, ?_⟩; have n0 := G.m (blk_below (g := aI) (o := .cells #[.int .i64 ac, .slice aA aa.length ax] 30 (0, 0)) (caaB) hb); have n1 := G.m (blk_below (g := aJ) (o := .cells #[.int .i64 ((rd_T40 l1 aj).f0), .int .i64 ((rd_T40 l1 aj).f1)] 40 (0, 0)) (caaA) hb); have n2 := G.bs HB hb; clear al aS HB; revert n0 n1 n2; intro al aS HB; (try clear hb)))
       go_roundg k1
       case measure => have := bd.out; omega
       case rel => exact ⟨(wrap64 (aj + 1)), (caav), H', ⟨by have := bd.out; omega⟩, ⟨G.cb al.out⟩, ⟨G.cB HB.out⟩⟩
      ·replace c8 := Bool.eq_false_iff.mpr c8; subst c8; have H1 : (some false) = some r := by rw [if_neg (show ¬ (false = true) by decide)] at H; exact H
       clear H; have H := H1; clear H1; obtain rfl := Option.some.inj H; have br : 0 ≤ (aj : Int) := of_decide_eq_true (G.asm); have bu : aj < (l1.length : Int) := of_decide_eq_true (G.asm); obtain ⟨cA, cd, a9, a_⟩ := at_T40 cv.out aj br bu; cases cd; replace a9 := G.hx HB a9; replace a_ := G.hx HB a_; replace br := eq_true br; replace bu := eq_true bu
       go_wp2_with (first | ((with_reducible refine G.h 6 rfl ?_); refine G.be 6 #[.int .i64 0, .int .i64 0] 40 ?_; intro aJ hg cT hbox hb; have n0 := G.bb al hb; have n1 := G.bs HB hb; have n2 := G.m (hbox); have n3 := G.m (caau : w.heap.size ≤ aJ); have n4 := G.m (caau : w.heap.size ≤ aJ); have n5 := G.m (caaD : aI ≠ aJ); have n6 := G.m (caaE : aJ ≠ aI); clear al HB; revert n0 n1 n2 n3 n4 n5 n6; intro al HB aS cD cE aL bf; clear hb hbox hg; have eL := bf.out; have eM := aL.out; have ⟨dS, dT, dU, dV⟩ := G.d2 (w := cT) aS; have ⟨dW, dX, dY, dZ⟩ := G.d2 (w := cT) al) | ((with_reducible refine G.f 29 rfl ?_); refine G.gL 16 Try.func29 #[.slice aA aa.length ax, .agg #[.int .i64 ((rd_T40 l1 aj).f0), .int .i64 ((rd_T40 l1 aj).f1)]] ?_; (with_reducible refine (slices_Contains_impl_Tie_impl_Tie.calls k1 _ _ aa ((rd_T40 l1 aj).f0) ((rd_T40 l1 aj).f1) false _ ?side1 ?side2 A7.out).mono ?_); (case side1 => exact Kd.C_below aX.out (G.cB HB.out)); (case side2 => exact bF.out); rintro e eT ⟨rfl, hb⟩; refine ⟨_, rfl, ?_⟩; have n0 := G.m (blk_below (g := aI) (o := .cells #[.int .i64 ac, .slice aA aa.length ax] 30 (0, 0)) (caaB) hb); have n1 := G.m (blk_below (g := aJ) (o := .cells #[.int .i64 ((rd_T40 l1 aj).f0), .int .i64 ((rd_T40 l1 aj).f1)] 40 (0, 0)) (caaA) hb); have n2 := G.bs HB hb; clear al aS HB; revert n0 n1 n2; intro al aS HB; (try clear hb)))
       go_ret
       exact ⟨caaw, G.cB HB.out⟩
     ·rw [if_neg c6] at H; exact absurd H (by simp)
    ·rw [if_neg c5] at H; exact absurd H (by simp)
   ·rw [if_neg c4] at H; have aR : decide (aj < (l1.length : Int)) = false := decide_eq_false c4; clear c4; obtain ⟨b1, en, H⟩ := G.bi H; replace H : (some b1) = some r := H; obtain rfl := Option.some.inj H
    go_wp2_with (first | ((with_reducible refine G.f 28 rfl ?_); refine G.gL 20 Try.func28 #[.slice A1 l1.length c1] ?_; (with_reducible refine (impl_ascending.calls k1 _ _ l1 b1 _ ?side1 ?side2 en.out).mono ?_); (case side1 => exact G.cC (Kd.C_below cv.out HB.out)); (case side2 => exact em.out); rintro e eU ⟨rfl, hb⟩; refine ⟨_, rfl, ?_⟩; have n0 := G.bb al hb; have n1 := G.bs HB hb; clear al HB; revert n0 n1; intro al HB; (try clear hb)))
    go_ret
    exact ⟨caaw, G.cB HB.out⟩

/-! ### slices_Index_int_int: function 36 -/
def slices_Index_int_int.l0 : Nat → List Int → Int → Int → Int → Option (Int)
 | 0, _, _, _, _ => none
 | k + 1, x0, x1, x7, x8 => if x8 < x7 then (if 0 ≤ x8 then (if x8 < (x0.length : Int) then (if x1 = (rd x0 x8) then (some x8) else (slices_Index_int_int.l0 k x0 x1 x7 (wrap64 (x8 + 1)))) else (none)) else (none)) else (some (-1))
def slices_Index_int_int.f (k : Nat) (l0 : List Int) (a1 : Int) : Option (Int) := slices_Index_int_int.l0 k l0 a1 (l0.length : Int) 0
theorem slices_Index_int_int.mono_l : ∀ k, (∀ y0 y1 y2 y3, LeO (slices_Index_int_int.l0 k y0 y1 y2 y3) (slices_Index_int_int.l0 (k + 1) y0 y1 y2 y3))
 | 0 => fun _ _ _ _ r h => by simp [slices_Index_int_int.l0] at h
 | k + 1 => by
  have aq := slices_Index_int_int.mono_l k
  ·intro y0 y1 y2 y3; unfold slices_Index_int_int.l0
   repeat' first
   | (with_reducible exact aq _ _ _ _)
   | (with_reducible exact LeO.refl _)
   | (with_reducible exact LeO.none _)
   | (with_reducible refine LeO.ite ?_ ?_)
   | (with_reducible refine LeO.bind ?_ (fun _ => ?_))
   | exact aq _ _ _ _
   | exact LeO.none _
   | refine LeO.ite ?_ ?_
   | refine LeO.bind ?_ (fun _ => ?_)
theorem slices_Index_int_int.mono : ∀ a0 a1 k, LeO (slices_Index_int_int.f k a0 a1) (slices_Index_int_int.f (k + 1) a0 a1) := by
 intro a0 a1 k; have aq := slices_Index_int_int.mono_l k; unfold slices_Index_int_int.f
 repeat' first | (with_reducible first | exact aq _ _ _ _ | exact LeO.refl _ | exact LeO.none _ | refine LeO.ite ?_ ?_ | refine LeO.bind ?_ (fun _ => ?_)) | exact aq _ _ _ _ | exact LeO.none _ | refine LeO.ite ?_ ?_ | refine LeO.bind ?_ (fun _ => ?_)
set_option maxHeartbeats 8000000 in
set_option maxRecDepth 100000 in
theorem slices_Index_int_int.calls (k : Nat) (A0 : Option Addr) (c0 : Nat) (l0 : List Int) (a1 : Int) (r : Int) (w : World) (aU : Kd.C (Kd.int .i64) w A0 l0.length l0) (aV : l0.length ≤ c0) (h : slices_Index_int_int.f k l0 a1 = some r) :
  Calls Try.prog 36 #[.slice A0 l0.length c0, .int .i64 a1] w fun e w' => e = .returned (.int .i64 r) ∧ Drawn0 w w' := by
 have aW := G.m aU; have bL := G.m aV; clear aU aV; have H : (slices_Index_int_int.l0 k l0 a1 (l0.length : Int) 0) = some r := h; clear h; have H' := G.m H; clear H
 go_enter Try.func36, Try.ntmps36
 go_wp2
 go_loopg [8] k (fun kq v8 w' => ∃ (ab : Int), v8 = .int .i64 ab ∧ Aside0 (slices_Index_int_int.l0 kq l0 a1 (l0.length : Int) ab = some r) ∧ Aside0 (kq ≤ k) ∧ Drawn0 w w')
 case atStart => exact ⟨(0), (caav), H', ⟨Nat.le_refl _⟩, by repeat (first | exact Drawn0.refl _ | apply Drawn0.step)⟩
 case round =>
  clear H'; try clear p2
  obtain ⟨ab, rfl, HA, bd, ⟨m1, rfl⟩⟩ := hrel; cases gk with
  | zero => exact absurd HA.out (by simp [slices_Index_int_int.l0])
  | succ k1 =>
   have H := HA.out; clear HA; simp only [slices_Index_int_int.l0] at H
   by_cases c3 : ab < (l0.length : Int)
   ·rw [if_pos c3] at H; have dd : decide (ab < (l0.length : Int)) = true := decide_eq_true c3; clear c3
    by_cases c4 : 0 ≤ ab
    ·rw [if_pos c4] at H; have aR : decide (0 ≤ ab) = true := decide_eq_true c4; clear c4
     by_cases c5 : ab < (l0.length : Int)
     ·rw [if_pos c5] at H; have b8 : decide (ab < (l0.length : Int)) = true := decide_eq_true c5; clear c5
      by_cases c6 : a1 = (rd l0 ab)
      ·rw [if_pos c6] at H; have bU : (a1 == (rd l0 ab)) = true := beq_iff_eq.mpr c6; have de : (a1 != (rd l0 ab)) = false := bne_eq_false_iff_eq.mpr c6; clear c6; obtain rfl := Option.some.inj H; have bv : 0 ≤ (ab : Int) := of_decide_eq_true (G.asm); have bw : ab < (l0.length : Int) := of_decide_eq_true (G.asm); obtain ⟨cF, ce, cl⟩ := Kd.at_int aW.out ab bv bw; cases ce; replace bv := eq_true bv; replace bw := eq_true bw
       go_wp2
       go_ret
       exact ⟨caav, by repeat (first | exact Drawn0.refl _ | apply Drawn0.step)⟩
      ·rw [if_neg c6] at H; have bU : (a1 == (rd l0 ab)) = false := beq_eq_false_iff_ne.mpr c6; have de : (a1 != (rd l0 ab)) = true := bne_iff_ne.mpr c6; have H' := G.m H; clear H; have bv : 0 ≤ (ab : Int) := of_decide_eq_true (G.asm); have bw : ab < (l0.length : Int) := of_decide_eq_true (G.asm); obtain ⟨cF, ce, cl⟩ := Kd.at_int aW.out ab bv bw; cases ce; replace bv := eq_true bv; replace bw := eq_true bw
       go_wp2
       go_roundg k1
       case measure => have := bd.out; omega
       case rel => exact ⟨(wrap64 (ab + 1)), (caav), H', ⟨by have := bd.out; omega⟩, by repeat (first | exact Drawn0.refl _ | apply Drawn0.step)⟩
     ·rw [if_neg c5] at H; exact absurd H (by simp)
    ·rw [if_neg c4] at H; exact absurd H (by simp)
   ·rw [if_neg c3] at H; have dd : decide (ab < (l0.length : Int)) = false := decide_eq_false c3; clear c3; obtain rfl := Option.some.inj H
    go_wp2
    go_ret
    exact ⟨caav, by repeat (first | exact Drawn0.refl _ | apply Drawn0.step)⟩

/-! ### slices_Contains_int_int: function 30 -/
def slices_Contains_int_int.f (k : Nat) (l0 : List Int) (a1 : Int) : Option (Bool) := (slices_Index_int_int.f k l0 a1).bind fun bD => (some (decide (bD ≥ 0)))
theorem slices_Contains_int_int.mono : ∀ a0 a1 k, LeO (slices_Contains_int_int.f k a0 a1) (slices_Contains_int_int.f (k + 1) a0 a1) := by
 intro a0 a1 k; unfold slices_Contains_int_int.f
 repeat' first | (with_reducible first | exact slices_Index_int_int.mono _ _ _ | exact LeO.refl _ | exact LeO.none _ | refine LeO.ite ?_ ?_ | refine LeO.bind ?_ (fun _ => ?_)) | exact slices_Index_int_int.mono _ _ _ | exact LeO.none _ | refine LeO.ite ?_ ?_ | refine LeO.bind ?_ (fun _ => ?_)
set_option maxHeartbeats 8000000 in
set_option maxRecDepth 100000 in
theorem slices_Contains_int_int.calls (k : Nat) (A0 : Option Addr) (c0 : Nat) (l0 : List Int) (a1 : Int) (r : Bool) (w : World) (aU : Kd.C (Kd.int .i64) w A0 l0.length l0) (aV : l0.length ≤ c0) (h : slices_Contains_int_int.f k l0 a1 = some r) :
  Calls Try.prog 30 #[.slice A0 l0.length c0, .int .i64 a1] w fun e w' => e = .returned (.bool r) ∧ Drawn0 w w' := by
 have aW := G.m aU; have bL := G.m aV; clear aU aV; have H : ((slices_Index_int_int.f k l0 a1).bind fun bD => (some (decide (bD ≥ 0)))) = some r := h; clear h; obtain ⟨bD, A3, H⟩ := G.bi H; replace H : (some (decide (bD ≥ 0))) = some r := H; obtain rfl := Option.some.inj H
 go_enter Try.func30, Try.ntmps30
 go_wp2_with (first | ((with_reducible refine G.f 36 rfl ?_); refine G.gL 7 Try.func36 #[.slice A0 l0.length c0, .int .i64 a1] ?_; (with_reducible refine (slices_Index_int_int.calls k _ _ l0 a1 bD _ ?side1 ?side2 A3.out).mono ?_); (case side1 => exact G.cC aW.out); (case side2 => exact bL.out); rintro e w' ⟨rfl, ⟨nd, rfl⟩⟩; refine ⟨_, rfl, ?_⟩))
 go_ret
 exact ⟨caav, by repeat (first | exact Drawn0.refl _ | apply Drawn0.step)⟩

end Go.Proofs.Ytjkeagcenmmknaa.P
