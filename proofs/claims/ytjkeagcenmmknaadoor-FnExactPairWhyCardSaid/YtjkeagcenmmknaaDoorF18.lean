-- Printed by a program of this session (mp.py, over the kit's print). Not trusted: Lean checks it.
import Derived.Test.YtjkeagcenmmknaaDoorF0
namespace Go.Proofs.YtjkeagcenmmknaaDoor.P
open Go.RowKit Go.Proofs.YtjkeagcenmmknaaDoorW.PrintWords Go.Proofs.YtjkeagcenmmknaaDoorW.PrintLast Go.Proofs.YtjkeagcenmmknaaDoorW.PrintMore
attribute [local go_sem] max2_int min2_int max_two min_two max_three min_three max_four min_four   -- for this text's walks alone
set_option linter.unusedVariables false
set_option linter.unusedSimpArgs false

theorem cabY {p : Prop} (h : p := by rw [hg]; exact Nat.ne_of_lt (blk_lt (g := aM) (o := .cells #[.int .i64 aa, .slice ai ac.length aj] 24 (0, 0)) (G.cb ay.out))) : p := h
theorem cabZ {p : Prop} (h : p := by rw [hg]; exact Nat.ne_of_gt (blk_lt (g := aM) (o := .cells #[.int .i64 aa, .slice ai ac.length aj] 24 (0, 0)) (G.cb ay.out))) : p := h
theorem cabU {p : Prop} (h : p := by rw [hg]; exact Nat.ne_of_lt (blk_lt (g := ak) (o := .cells #[.int .i64 aa, .slice ai ac.length aj] 29 (0, 0)) (G.cb af.out))) : p := h
theorem cabV {p : Prop} (h : p := by rw [hg]; exact Nat.ne_of_gt (blk_lt (g := ak) (o := .cells #[.int .i64 aa, .slice ai ac.length aj] 29 (0, 0)) (G.cb af.out))) : p := h
theorem cabW {p : Prop} (h : p := by rw [hg]; exact Nat.ne_of_lt (blk_lt (g := al) (o := .cells #[.int .i64 aa, .int .i64 ag] 51 (0, 0)) (G.cb am.out))) : p := h
theorem cabX {p : Prop} (h : p := by rw [hg]; exact Nat.ne_of_gt (blk_lt (g := al) (o := .cells #[.int .i64 aa, .int .i64 ag] 51 (0, 0)) (G.cb am.out))) : p := h
theorem cabS {p : Prop} (h : p := by first | rfl | (simp [errW_none, errW_some] <;> rfl) | (simp [*, errW_none, errW_some] <;> rfl)) : p := h
theorem cabT {p : Prop} (h : p := by first | rfl | (simp; done) | (simp [*]; done)) : p := h
theorem cabR {p : Prop} (h : p := by rw [hg]; exact (below_size (G.cB HB.out))) : p := h
/-! ### laws_szTieS: function 45 -/
def laws_szTieS.f (l0 : List (S82)) (a1 : Int) : Option (Int) := if (wrap64 (a1 - (l0.length : Int))) < 0 then (some (-1)) else (some (wrap64 (a1 - (l0.length : Int))))
set_option maxHeartbeats 8000000 in
set_option maxRecDepth 100000 in
theorem laws_szTieS.calls (A0 : Option Addr) (c0 : Nat) (l0 : List (S82)) (a1 : Int) (r : Int) (w : World) (bw : Kd.C k82 w A0 l0.length l0) (bx : l0.length ≤ c0) (h : laws_szTieS.f l0 a1 = some r) :
  Calls Tryd.prog 45 #[.slice A0 l0.length c0, .int .i64 a1] w fun e w' => e = .returned (.int .i64 r) ∧ Drawn0 w w' := by
 have bP := G.m bw; have dk := G.m bx; clear bw bx; have H : (if (wrap64 (a1 - (l0.length : Int))) < 0 then (some (-1)) else (some (wrap64 (a1 - (l0.length : Int))))) = some r := h; clear h
 by_cases c3 : (wrap64 (a1 - (l0.length : Int))) < 0
 ·rw [if_pos c3] at H; have aS : decide ((wrap64 (a1 - (l0.length : Int))) < 0) = true := decide_eq_true c3; clear c3; obtain rfl := Option.some.inj H
  go_enter Tryd.func45, Tryd.ntmps45
  go_wp2
  go_ret
  exact ⟨cabT, by repeat (first | exact Drawn0.refl _ | apply Drawn0.step)⟩
 ·rw [if_neg c3] at H; have aS : decide ((wrap64 (a1 - (l0.length : Int))) < 0) = false := decide_eq_false c3; clear c3; obtain rfl := Option.some.inj H
  go_enter Tryd.func45, Tryd.ntmps45
  go_wp2
  go_ret
  exact ⟨cabT, by repeat (first | exact Drawn0.refl _ | apply Drawn0.step)⟩

/-! ### laws_szNet: function 14 -/
def laws_szNet.f (aa : Int) (ac : List (S82)) (a1 : Int) : Option (Int) := (laws_szTieS.f ac a1).bind fun aE => (if aE < 0 then (some (-1)) else (some aE))
set_option maxHeartbeats 8000000 in
set_option maxRecDepth 100000 in
theorem laws_szNet.calls (aa : Int) (ai : Option Addr) (aj : Nat) (ac : List (S82)) (a1 : Int) (r : Int) (w : World) (aP : Kd.C k82 w ai ac.length ac) (aQ : ac.length ≤ aj) (h : laws_szNet.f aa ac a1 = some r) :
  Calls Tryd.prog 14 #[.agg #[.int .i64 aa, .slice ai ac.length aj], .int .i64 a1] w fun e w' => e = .returned (.int .i64 r) ∧ Below w.heap.size w w' := by
 have dv := Tryd.underlying24; have aX := G.m aP; have aY := G.m aQ; clear aP aQ; have HB := G.m (Below.refl w.heap.size w); have H : ((laws_szTieS.f ac a1).bind fun aE => (if aE < 0 then (some (-1)) else (some aE))) = some r := h; clear h; obtain ⟨aE, A3, H⟩ := G.bi H; replace H : (if aE < 0 then (some (-1)) else (some aE)) = some r := H
 by_cases c4 : aE < 0
 ·rw [if_pos c4] at H; have bB : decide (aE < 0) = true := decide_eq_true c4; clear c4; obtain rfl := Option.some.inj H
  go_enter Tryd.func14, Tryd.ntmps14
  go_wp2_with (first | ((with_reducible refine G.h 2 rfl ?_); refine G.be 2 #[.int .i64 aa, .slice ai ac.length aj] 24 ?_; intro bp hg w5 hbox hb; have n0 := G.bs HB hb; have n1 := G.m (hbox); have n2 := G.m (cabR : w.heap.size ≤ bp); have n3 := G.m (cabR : w.heap.size ≤ bp); clear HB; revert n0 n1 n2 n3; intro HB bK de df; clear hb hbox hg; have ⟨ef, eg, eh, ei⟩ := G.d2 (w := w5) bK) | ((with_reducible refine G.f 45 rfl ?_); refine G.gL 8 Tryd.func45 #[.slice ai ac.length aj, .int .i64 a1] ?_; (with_reducible refine (laws_szTieS.calls _ _ ac a1 aE _ ?side1 ?side2 A3.out).mono ?_); (case side1 => exact G.cC (Kd.C_below aX.out HB.out)); (case side2 => exact aY.out); rintro e w' ⟨rfl, ⟨nd, rfl⟩⟩; refine ⟨_, rfl, ?_⟩))
  go_ret
  exact ⟨cabS, G.cB HB.out⟩
 ·rw [if_neg c4] at H; have bB : decide (aE < 0) = false := decide_eq_false c4; clear c4; obtain rfl := Option.some.inj H
  go_enter Tryd.func14, Tryd.ntmps14
  go_wp2_with (first | ((with_reducible refine G.h 2 rfl ?_); refine G.be 2 #[.int .i64 aa, .slice ai ac.length aj] 24 ?_; intro bp hg w7 hbox hb; have n0 := G.bs HB hb; have n1 := G.m (hbox); have n2 := G.m (cabR : w.heap.size ≤ bp); have n3 := G.m (cabR : w.heap.size ≤ bp); clear HB; revert n0 n1 n2 n3; intro HB bK de df; clear hb hbox hg; have ⟨bQ, bR, bS, bT⟩ := G.d2 (w := w7) bK) | ((with_reducible refine G.f 45 rfl ?_); refine G.gL 8 Tryd.func45 #[.slice ai ac.length aj, .int .i64 a1] ?_; (with_reducible refine (laws_szTieS.calls _ _ ac a1 aE _ ?side1 ?side2 A3.out).mono ?_); (case side1 => exact G.cC (Kd.C_below aX.out HB.out)); (case side2 => exact aY.out); rintro e w' ⟨rfl, ⟨nd, rfl⟩⟩; refine ⟨_, rfl, ?_⟩))
  go_ret
  exact ⟨cabS, G.cB HB.out⟩

/-! ### laws_toTie: function 72 -/
def laws_toTie.f (aa : Int) (ag : Int) : Option (Int × Int) := some (aa, ag)
set_option maxHeartbeats 8000000 in
set_option maxRecDepth 100000 in
theorem laws_toTie.calls (aa : Int) (ag : Int) (r1 : Int) (r2 : Int) (w : World) (h : laws_toTie.f aa ag = some (r1, r2)) :
  Calls Tryd.prog 72 #[.agg #[.int .i64 aa, .int .i64 ag]] w fun e w' => e = .returned (.agg #[.int .i64 r1, .int .i64 r2]) ∧ Below w.heap.size w w' := by
 have dw := Tryd.underlying82; have b_ := Tryd.underlying51; have HB := G.m (Below.refl w.heap.size w); have H : (some (aa, ag)) = some (r1, r2) := h; clear h; simp only [Option.some.injEq, Prod.mk.injEq] at H; obtain ⟨rfl, rfl⟩ := H
 go_enter Tryd.func72, Tryd.ntmps72
 go_wp2_with (first | ((with_reducible refine G.h 1 rfl ?_); refine G.be 1 #[.int .i64 aa, .int .i64 ag] 82 ?_; intro aG hg w2 hbox hb; have n0 := G.bs HB hb; have n1 := G.m (hbox); have n2 := G.m (cabR : w.heap.size ≤ aG); have n3 := G.m (cabR : w.heap.size ≤ aG); clear HB; revert n0 n1 n2 n3; intro HB aB et eu; clear hb hbox hg) | ((with_reducible refine G.h 2 rfl ?_); refine G.be 2 #[.int .i64 0, .int .i64 0] 51 ?_; intro aN hg w3 hbox hb; have n0 := G.bb aB hb; have n1 := G.bs HB hb; have n2 := G.m (hbox); have n3 := G.m (cabR : w.heap.size ≤ aN); have n4 := G.m (cabR : w.heap.size ≤ aN); have n5 := G.m ((by rw [hg]; exact Nat.ne_of_lt (blk_lt (g := aG) (o := .cells #[.int .i64 aa, .int .i64 ag] 82 (0, 0)) (G.cb aB.out)) : aG ≠ aN)); have n6 := G.m ((by rw [hg]; exact Nat.ne_of_gt (blk_lt (g := aG) (o := .cells #[.int .i64 aa, .int .i64 ag] 82 (0, 0)) (G.cb aB.out)) : aN ≠ aG)); clear aB HB; revert n0 n1 n2 n3 n4 n5 n6; intro aB HB aZ ev ew bU bV; clear hb hbox hg) | ((with_reducible refine G.h 3 rfl ?_); refine G.be 3 #[.int .i64 0, .int .i64 0] 51 ?_; intro bc hg w4 hbox hb; have n0 := G.bb aB hb; have n1 := G.bb aZ hb; have n2 := G.bs HB hb; have n3 := G.m (hbox); have n4 := G.m (cabR : w.heap.size ≤ bc); have n5 := G.m (cabR : w.heap.size ≤ bc); have n6 := G.m ((by rw [hg]; exact Nat.ne_of_lt (blk_lt (g := aG) (o := .cells #[.int .i64 aa, .int .i64 ag] 82 (0, 0)) (G.cb aB.out)) : aG ≠ bc)); have n7 := G.m ((by rw [hg]; exact Nat.ne_of_gt (blk_lt (g := aG) (o := .cells #[.int .i64 aa, .int .i64 ag] 82 (0, 0)) (G.cb aB.out)) : bc ≠ aG)); have n8 := G.m ((by rw [hg]; exact Nat.ne_of_lt (blk_lt (g := aN) (o := .cells #[.int .i64 0, .int .i64 0] 51 (0, 0)) (G.cb aZ.out)) : aN ≠ bc)); have n9 := G.m ((by rw [hg]; exact Nat.ne_of_gt (blk_lt (g := aN) (o := .cells #[.int .i64 0, .int .i64 0] 51 (0, 0)) (G.cb aZ.out)) : bc ≠ aN)); clear aB aZ HB; revert n0 n1 n2 n3 n4 n5 n6 n7 n8 n9; intro aB aZ HB dg ex ey bW bX a8 bY; clear hb hbox hg; have eO := bU.out; have eP := bV.out; have dx := bW.out; have dy := bX.out; have ⟨ej, ek, el, em⟩ := G.d2 (w := w4) aB; have dz := bY.out; have dA := a8.out; have ⟨bZ, b1, b2, b3⟩ := G.d2 (w := w4) dg; have ⟨bD, bE, bF, bG⟩ := G.d2 (w := w4) aZ))
 refine bodyPost_ret (results_cell_row rfl _ _ aN 51 #[.int .i64 aa, .int .i64 ag] (0, 0) _ rfl (by (with_reducible repeat (first | refine blk_drewN ?_ _ | refine blk_drew ?_ | refine blk_alloc ?_ _)); refine blk_put (cs := #[.int .i64 aa, .int .i64 0]) ?_ 1 _ rfl; (with_reducible repeat (first | refine blk_drewN ?_ _ | refine blk_drew ?_ | refine blk_alloc ?_ _)); refine blk_put (cs := #[.int .i64 0, .int .i64 0]) ?_ 0 _ rfl; (with_reducible repeat (first | refine blk_drewN ?_ _ | refine blk_drew ?_ | refine blk_alloc ?_ _)); refine blk_far ?_ a8.out _; (with_reducible repeat (first | refine blk_drewN ?_ _ | refine blk_drew ?_ | refine blk_alloc ?_ _)); refine blk_far ?_ a8.out _; (with_reducible repeat (first | refine blk_drewN ?_ _ | refine blk_drew ?_ | refine blk_alloc ?_ _)); exact aZ.out) Tryd.underlying51 rfl (by kernel_rfl)) rfl ?_; exact ⟨cabS, G.cB HB.out⟩

/-! ### laws_toTieS: function 47 -/
def laws_toTieS.l0 : Nat → List (S82) → List (S51) → Int → Option ((List (S51)))
 | 0, _, _, _ => none
 | k + 1, x0, x3, x4 => if x4 < (x0.length : Int) then (if 0 ≤ x4 then ((laws_toTie.f ((rd_T82 x0 x4).f0) ((rd_T82 x0 x4).f1)).bind fun ck => (if x4 < (x3.length : Int) then (laws_toTieS.l0 k x0 (x3.set (x4 : Int).toNat (⟨ck.1, ck.2⟩ : S51)) (wrap64 (x4 + 1))) else (none))) else (none)) else (some x3)
def laws_toTieS.f (k : Nat) (l0 : List (S82)) : Option ((List (S51))) := if 0 ≤ (l0.length : Int) then (if ((l0.length : Int) : Int).toNat ≤ 17592186044416 then (laws_toTieS.l0 k l0 (List.replicate ((l0.length : Int) : Int).toNat z51) 0) else (none)) else (none)
theorem laws_toTieS.mono_l : ∀ k, (∀ y0 y1 y2, LeO (laws_toTieS.l0 k y0 y1 y2) (laws_toTieS.l0 (k + 1) y0 y1 y2))
 | 0 => fun _ _ _ r h => by simp [laws_toTieS.l0] at h
 | k + 1 => by
  have a9 := laws_toTieS.mono_l k
  ·intro y0 y1 y2; unfold laws_toTieS.l0
   repeat' first
   | (with_reducible exact a9 _ _ _)
   | (with_reducible exact LeO.refl _)
   | (with_reducible exact LeO.none _)
   | (with_reducible refine LeO.ite ?_ ?_)
   | (with_reducible refine LeO.bind ?_ (fun _ => ?_))
   | exact a9 _ _ _
   | exact LeO.none _
   | refine LeO.ite ?_ ?_
   | refine LeO.bind ?_ (fun _ => ?_)
theorem laws_toTieS.mono : ∀ a0 k, LeO (laws_toTieS.f k a0) (laws_toTieS.f (k + 1) a0) := by
 intro a0 k; have a9 := laws_toTieS.mono_l k; unfold laws_toTieS.f
 repeat' first | (with_reducible first | exact a9 _ _ _ | exact LeO.refl _ | exact LeO.none _ | refine LeO.ite ?_ ?_ | refine LeO.bind ?_ (fun _ => ?_)) | exact a9 _ _ _ | exact LeO.none _ | refine LeO.ite ?_ ?_ | refine LeO.bind ?_ (fun _ => ?_)
set_option maxHeartbeats 8000000 in
set_option maxRecDepth 100000 in
theorem laws_toTieS.calls (k : Nat) (A0 : Option Addr) (c0 : Nat) (l0 : List (S82)) (r : List (S51)) (w : World) (bw : Kd.C k82 w A0 l0.length l0) (bx : l0.length ≤ c0) (h : laws_toTieS.f k l0 = some r) :
  Calls Tryd.prog 47 #[.slice A0 l0.length c0] w fun e w' => ∃ dl : Value, e = .returned (dl) ∧ Kd.R k51 51 w' w.heap.size (fun _ => True) dl r ∧ Below w.heap.size w w' := by
 have dw := Tryd.underlying82; have b_ := Tryd.underlying51; have bP := G.m bw; have dk := G.m bx; clear bw bx; have HB := G.m (Below.refl w.heap.size w); have H : (if 0 ≤ (l0.length : Int) then (if ((l0.length : Int) : Int).toNat ≤ 17592186044416 then (laws_toTieS.l0 k l0 (List.replicate ((l0.length : Int) : Int).toNat z51) 0) else (none)) else (none)) = some r := h; clear h
 by_cases c2 : 0 ≤ (l0.length : Int)
 ·rw [if_pos c2] at H; have dB := eq_true c2; have dC : decide (0 ≤ (l0.length : Int)) = true := decide_eq_true c2; clear c2
  by_cases c3 : ((l0.length : Int) : Int).toNat ≤ 17592186044416
  ·rw [if_pos c3] at H; have aS := eq_true c3; have a_ : decide (((l0.length : Int) : Int).toNat ≤ 17592186044416) = true := decide_eq_true c3; clear c3; obtain ⟨cM, bq⟩ : ∃ y_ : List (S51), y_ = (List.replicate ((l0.length : Int) : Int).toNat z51) := ⟨_, rfl⟩; replace H : (laws_toTieS.l0 k l0 cM 0) = some r := by first | (rw [bq]; with_reducible exact H) | (have bC := (Option.bind_some _ _).symm.trans H; rw [bq]; with_reducible exact bC) | (have bC := (Option.bind_some _ _).symm.trans H; with_reducible exact bC) | with_reducible exact H | (rw [bq]; exact H) | exact H
   have cl := G.m bq; clear bq; have H' := G.m H; clear H
   go_enter Tryd.func47, Tryd.ntmps47
   go_wp2_with (first | ((with_reducible refine G.h 7 rfl ?_); refine Kd.R_make k51 _ 51 rfl (N := 7) rfl 27 _ _ rfl (l0.length : Int) rfl rfl Tryd.underlying27 (.agg #[(.int .i64 0), (.int .i64 0)]) 16 info51 rfl (by decide) (by omega) z51 (ok := fun _ => True) (okp := fun _ => True) (k51_mkM _ _ _ z51 ) (fun _ hk => hk) trivial (of_decide_eq_true (G.asm)) (Nat.le_trans (Nat.mul_le_mul_right _ (of_decide_eq_true (G.asm) : (l0.length : Int).toNat ≤ 17592186044416)) (by omega)) (Below.refl _ _) (Nat.le_refl _) ?_; intro dD w4 b4 hb hg_ hnew_; clear hg_ hnew_; (first | rw [← cl.out] at b4 | (simp only [Int.reduceToNat] at b4; rw [← cl.out] at b4)); have n0 := G.m (Kd.R_lower b4 (below_size (G.cB HB.out))); have n1 := G.bs HB hb; clear HB; revert n0 n1; intro dh HB; clear hb b4))
   go_loopg [4] k (fun kq v4 w' => ∃ (ax : List (S51)) (ae : Int), v4 = .int .i64 ae ∧ Aside0 (laws_toTieS.l0 kq l0 ax ae = some r) ∧ Aside0 (kq ≤ k) ∧ Aside0 (Kd.R k51 51 w' w.heap.size (fun _ => True) dD ax) ∧ Aside0 (Below w.heap.size w w'))
   case atStart => exact ⟨(cM), (0), (cabT), H', ⟨Nat.le_refl _⟩, ⟨G.cR dh.out⟩, ⟨G.cB HB.out⟩⟩
   case round =>
    clear H'; (try clear dB dC aS a_); obtain ⟨ax, ae, rfl, HA, b5, aL, HB⟩ := hrel; cases gk with
    | zero => exact absurd HA.out (by simp [laws_toTieS.l0])
    | succ k1 =>
     have H := HA.out; clear HA; simp only [laws_toTieS.l0] at H
     by_cases c6 : ae < (l0.length : Int)
     ·rw [if_pos c6] at H; have cN : decide (ae < (l0.length : Int)) = true := decide_eq_true c6; clear c6
      by_cases c7 : 0 ≤ ae
      ·rw [if_pos c7] at H; have eQ : decide (0 ≤ ae) = true := decide_eq_true c7; clear c7; obtain ⟨⟨bf, bh⟩, A8, H⟩ := G.bi H; replace H : (if ae < (ax.length : Int) then (laws_toTieS.l0 k1 l0 (ax.set (ae : Int).toNat (⟨bf, bh⟩ : S51)) (wrap64 (ae + 1))) else (none)) = some r := H
       by_cases c9 : ae < (ax.length : Int)
       ·rw [if_pos c9] at H; have eR : decide (ae < (ax.length : Int)) = true := decide_eq_true c9; clear c9; obtain ⟨ca, br⟩ : ∃ y_ : List (S51), y_ = (ax.set (ae : Int).toNat (⟨bf, bh⟩ : S51)) := ⟨_, rfl⟩; replace H : (laws_toTieS.l0 k1 l0 ca (wrap64 (ae + 1))) = some r := by first | (rw [br]; with_reducible exact H) | (have bC := (Option.bind_some _ _).symm.trans H; rw [br]; with_reducible exact bC) | (have bC := (Option.bind_some _ _).symm.trans H; with_reducible exact bC) | with_reducible exact H | (rw [br]; exact H) | exact H
        have di := G.m br; clear br; have H' := G.m H; clear H; have cd : 0 ≤ (ae : Int) := of_decide_eq_true (G.asm); have ce : ae < (l0.length : Int) := of_decide_eq_true (G.asm); obtain ⟨ez, dE, bH, bI⟩ := at_T82 bP.out ae cd ce; cases dE; replace bH := G.hx HB bH; replace bI := G.hx HB bI; replace cd := eq_true cd; replace ce := eq_true ce
        go_wp2_with (first | ((with_reducible refine G.f 72 rfl ?_); refine G.gL 20 Tryd.func72 #[.agg #[.int .i64 ((rd_T82 l0 ae).f0), .int .i64 ((rd_T82 l0 ae).f1)]] ?_; (with_reducible refine (laws_toTie.calls ((rd_T82 l0 ae).f0) ((rd_T82 l0 ae).f1) bf bh _ A8.out).mono ?_); rintro e aO ⟨rfl, hb⟩; refine ⟨_, rfl, ?_⟩; have n0 := G.rb aL hb; have n1 := G.bs HB hb; clear aL HB; revert n0 n1; intro aL HB; (try clear hb); have cO : 0 ≤ (ae : Int) := of_decide_eq_true (G.asm); have cP : (ae : Int) < ((ax.length : Int) : Int) := of_decide_eq_true (G.asm); obtain ⟨a4, cQ, cS, cT, dF, eS, cU⟩ := Kd.R_form aL.out (by omega); (first | cases cS | (injection cS with ea_ en_ ec_; (first | subst ea_ | (injection ea_ with ea_; subst ea_)); subst ec_; clear en_)); have cW := G.m cT; have eT := G.m cU; clear cT dF cU; obtain ⟨eU, dj, cX, bL, bM⟩ := Kd.R_elem aL.out z51 (ae : Int) cO cP; obtain rfl := k51_openM cX; have en : aO.cell? ⟨a4, (ae : Int).toNat * 2, none⟩ = some (.int .i64 ((rd_T51 ax ae).f0)) := bL 0 _ rfl; have eo : aO.cell? ⟨a4, (ae : Int).toNat * 2 + 1, none⟩ = some (.int .i64 ((rd_T51 ax ae).f1)) := bL 1 _ rfl; have ep : aO.frozen? ⟨a4, (ae : Int).toNat * 2, none⟩ = false := bM 0; have eq : aO.frozen? ⟨a4, (ae : Int).toNat * 2 + 1, none⟩ = false := bM 1; clear dj bL bM cX; replace cO := eq_true cO; replace cP := eq_true cP; have cY := G.m (show Kd.R k51 51 aO w.heap.size (fun _ => True) (.slice (some ⟨a4, 0, none⟩) ax.length cQ) ax from (G.cR aL.out)); obtain ⟨eV, cm, cZ, bA, bN⟩ := Kd.R_elem cY.out z51 (ae : Int) (of_decide_eq_true (G.asm)) (by have h_ : (ae : Int) < ((ax.length : Int) : Int) := of_decide_eq_true (G.asm); first | exact h_ | (have e_ := (Kd.R_reads' aL.out).1; omega) | simpa using h_); obtain rfl := k51_openM cZ; have cf := Kd.R_seg cY.out (ae : Int) (of_decide_eq_true (G.asm)) (by have h_ : (ae : Int) < ((ax.length : Int) : Int) := of_decide_eq_true (G.asm); first | exact h_ | (have e_ := (Kd.R_reads' aL.out).1; omega) | simpa using h_) (seg := [.int .i64 bf, .int .i64 bh]) (j := 0) cm bA (show 2 ≤ 2 from by decide) (x' := (⟨bf, bh⟩ : S51)) (k51_mkM _ _ _ (⟨bf, bh⟩ : S51) ) (fun _ hk => hk); have c_ := bA 0 _ rfl; (try simp only [show (k51).sz = 2 from rfl, Nat.mul_one, Nat.add_zero] at c_); have da := bN 0; (try simp only [show (k51).sz = 2 from rfl, Nat.mul_one, Nat.add_zero] at da); have db := bA 1 _ rfl; (try simp only [show (k51).sz = 2 from rfl, Nat.mul_one, Nat.add_zero] at db); have dc := bN 1; (try simp only [show (k51).sz = 2 from rfl, Nat.mul_one, Nat.add_zero] at dc); clear cm bA bN cZ) | ((with_reducible refine gate_store (t := 51) (p := 21) rfl ?_); refine store_event (t := 51) (p := 21) (v := ?vo_w13) (w1 := ((aO.setCell ⟨a4, (ae : Int).toNat * 2, none⟩ (.int .i64 bf)).setCell ⟨a4, (ae : Int).toNat * 2 + 1, none⟩ (.int .i64 bh))) ?hg ?ho ?hn ?hr ?_; (case ho => rfl); (case hg => rfl); (case hn => rfl); (case hr => first | (go_simp; done) | (go_simp; rfl)); intro bJ hw; have hg : aO.grownBy bJ (some a4) := (by rw [hw]; exact cf.2); have hp_ : Kd.R k51 51 bJ w.heap.size (fun _ => True) (.slice (some ⟨a4, 0, none⟩) ax.length cQ) ca := (by rw [hw, di.out]; exact cf.1); clear cf; have n0 := G.m (hp_); have n1 := G.m ((by rw [hw]; exact below_set (below_set (HB.out) cW.out) cW.out : Below w.heap.size w bJ)); clear aL HB; revert n0 n1; intro aL HB; clear hg hw hp_))
        go_roundg k1
        case measure => have := b5.out; omega
        case rel => exact ⟨(ca), (wrap64 (ae + 1)), (cabT), H', ⟨by have := b5.out; omega⟩, ⟨G.cR aL.out⟩, ⟨G.cB HB.out⟩⟩
       ·rw [if_neg c9] at H; exact absurd H (by simp)
      ·rw [if_neg c7] at H; exact absurd H (by simp)
     ·rw [if_neg c6] at H; have cN : decide (ae < (l0.length : Int)) = false := decide_eq_false c6; clear c6; obtain rfl := Option.some.inj H
      go_wp2
      go_ret
      exact ⟨_, by first | rfl | (simp [errW_none, errW_some] <;> rfl) | (simp [*, errW_none, errW_some] <;> rfl), G.cR aL.out, G.cB HB.out⟩
  ·rw [if_neg c3] at H; exact absurd H (by simp)
 ·rw [if_neg c2] at H; exact absurd H (by simp)

/-! ### laws_toNet: function 16 -/
def laws_toNet.f (k : Nat) (aa : Int) (ac : List (S82)) : Option (Int × (List (S51))) := (laws_toTieS.f k ac).bind fun a5 => (some (aa, a5))
theorem laws_toNet.mono : ∀ a0 a1 k, LeO (laws_toNet.f k a0 a1) (laws_toNet.f (k + 1) a0 a1) := by
 intro a0 a1 k; unfold laws_toNet.f
 repeat' first | (with_reducible first | exact laws_toTieS.mono _ _ | exact LeO.refl _ | exact LeO.none _ | refine LeO.ite ?_ ?_ | refine LeO.bind ?_ (fun _ => ?_)) | exact laws_toTieS.mono _ _ | exact LeO.none _ | refine LeO.ite ?_ ?_ | refine LeO.bind ?_ (fun _ => ?_)
set_option maxHeartbeats 8000000 in
set_option maxRecDepth 100000 in
theorem laws_toNet.calls (k : Nat) (aa : Int) (ai : Option Addr) (aj : Nat) (ac : List (S82)) (r1 : Int) (r2 : List (S51)) (w : World) (aP : Kd.C k82 w ai ac.length ac) (aQ : ac.length ≤ aj) (h : laws_toNet.f k aa ac = some (r1, r2)) :
  Calls Tryd.prog 16 #[.agg #[.int .i64 aa, .slice ai ac.length aj]] w fun e w' => ∃ dn : Value, e = .returned (.agg #[.int .i64 r1, dn]) ∧ Kd.R k51 51 w' w.heap.size (fun _ => True) dn r2 ∧ Below w.heap.size w w' := by
 have dv := Tryd.underlying24; have dG := Tryd.underlying29; have aX := G.m aP; have aY := G.m aQ; clear aP aQ; have HB := G.m (Below.refl w.heap.size w); have H : ((laws_toTieS.f k ac).bind fun a5 => (some (aa, a5))) = some (r1, r2) := h; clear h; obtain ⟨a5, A2, H⟩ := G.bi H; replace H : (some (aa, a5)) = some (r1, r2) := H; simp only [Option.some.injEq, Prod.mk.injEq] at H; obtain ⟨rfl, rfl⟩ := H
 go_enter Tryd.func16, Tryd.ntmps16
 go_wp2_with (first | ((with_reducible refine G.h 1 rfl ?_); refine G.be 1 #[.int .i64 aa, .slice ai ac.length aj] 24 ?_; intro aM hg w3 hbox hb; have n0 := G.bs HB hb; have n1 := G.m (hbox); have n2 := G.m (cabR : w.heap.size ≤ aM); have n3 := G.m (cabR : w.heap.size ≤ aM); clear HB; revert n0 n1 n2 n3; intro HB ay eA eB; clear hb hbox hg) | ((with_reducible refine G.h 2 rfl ?_); refine G.be 2 #[.int .i64 0, .slice none 0 0] 29 ?_; intro az hg w4 hbox hb; have n0 := G.bb ay hb; have n1 := G.bs HB hb; have n2 := G.m (hbox); have n3 := G.m (cabR : w.heap.size ≤ az); have n4 := G.m (cabR : w.heap.size ≤ az); have n5 := G.m (cabY : aM ≠ az); have n6 := G.m (cabZ : az ≠ aM); clear ay HB; revert n0 n1 n2 n3 n4 n5 n6; intro ay HB aC eC eD b6 b7; clear hb hbox hg) | ((with_reducible refine G.h 3 rfl ?_); refine G.be 3 #[.int .i64 0, .slice none 0 0] 29 ?_; intro aR hg w5 hbox hb; have n0 := G.bb ay hb; have n1 := G.bb aC hb; have n2 := G.bs HB hb; have n3 := G.m (hbox); have n4 := G.m (cabR : w.heap.size ≤ aR); have n5 := G.m (cabR : w.heap.size ≤ aR); have n6 := G.m (cabY : aM ≠ aR); have n7 := G.m (cabZ : aR ≠ aM); have n8 := G.m ((by rw [hg]; exact Nat.ne_of_lt (blk_lt (g := az) (o := .cells #[.int .i64 0, .slice none 0 0] 29 (0, 0)) (G.cb aC.out)) : az ≠ aR)); have n9 := G.m ((by rw [hg]; exact Nat.ne_of_gt (blk_lt (g := az) (o := .cells #[.int .i64 0, .slice none 0 0] 29 (0, 0)) (G.cb aC.out)) : aR ≠ az)); clear ay aC HB; revert n0 n1 n2 n3 n4 n5 n6 n7 n8 n9; intro ay aC HB bd eE eF bz b8 ba b9; clear hb hbox hg; have dx := b6.out; have dy := b7.out; have dH := bz.out; have dI := b8.out; have ⟨bQ, bR, bS, bT⟩ := G.d2 (w := w5) ay; have eW := b9.out; have eX := ba.out; have ⟨bD, bE, bF, bG⟩ := G.d2 (w := w5) bd) | ((with_reducible refine G.f 47 rfl ?_); refine G.gL 9 Tryd.func47 #[.slice ai ac.length aj] ?_; (with_reducible refine (laws_toTieS.calls k _ _ ac a5 _ ?side1 ?side2 A2.out).mono ?_); (case side1 => exact Kd.C_below aX.out (G.cB HB.out)); (case side2 => exact aY.out); rintro e aO ⟨eY, rfl, dp, hb⟩; refine ⟨_, rfl, ?_⟩; have n0 := G.m (Kd.R_lower dp (below_size (G.cB HB.out))); have n1 := G.m (blk_below (g := aM) (o := .cells #[.int .i64 aa, .slice ai ac.length aj] 24 (0, 0)) (by (with_reducible repeat (first | refine blk_drewN ?_ _ | refine blk_drew ?_ | refine blk_alloc ?_ _)); refine blk_far ?_ bz.out _; (with_reducible repeat (first | refine blk_drewN ?_ _ | refine blk_drew ?_ | refine blk_alloc ?_ _)); exact ay.out) hb); have n2 := G.m (blk_below (g := az) (o := .cells #[.int .i64 0, .slice none 0 0] 29 (0, 0)) (by (with_reducible repeat (first | refine blk_drewN ?_ _ | refine blk_drew ?_ | refine blk_alloc ?_ _)); refine blk_far ?_ ba.out _; (with_reducible repeat (first | refine blk_drewN ?_ _ | refine blk_drew ?_ | refine blk_alloc ?_ _)); exact aC.out) hb); have n3 := G.m (blk_below (g := aR) (o := .cells #[.int .i64 aa, .slice none 0 0] 29 (0, 0)) (by (with_reducible repeat (first | refine blk_drewN ?_ _ | refine blk_drew ?_ | refine blk_alloc ?_ _)); refine blk_put (cs := #[.int .i64 0, .slice none 0 0]) ?_ 0 _ rfl; (with_reducible repeat (first | refine blk_drewN ?_ _ | refine blk_drew ?_ | refine blk_alloc ?_ _)); exact bd.out) hb); have n4 := G.bs HB hb; clear ay aC bd HB; revert n0 n1 n2 n3 n4; intro cn ay aC bd HB; (try clear hb dp); obtain ⟨cg, ch, dJ⟩ := Kd.R_slice cn.out; subst dJ; have ⟨cD, cE, cF, cG⟩ := G.d2 (w := aO) bd; have ⟨cH, cI, cJ, cL⟩ := G.d2 (w := aO) aC))
 refine bodyPost_ret (results_cell_row rfl _ _ az 29 #[.int .i64 aa, .slice cg a5.length ch] (0, 0) _ rfl (by (with_reducible repeat (first | refine blk_drewN ?_ _ | refine blk_drew ?_ | refine blk_alloc ?_ _)); refine blk_put (cs := #[.int .i64 aa, .slice none 0 0]) ?_ 1 _ rfl; (with_reducible repeat (first | refine blk_drewN ?_ _ | refine blk_drew ?_ | refine blk_alloc ?_ _)); refine blk_put (cs := #[.int .i64 0, .slice none 0 0]) ?_ 0 _ rfl; (with_reducible repeat (first | refine blk_drewN ?_ _ | refine blk_drew ?_ | refine blk_alloc ?_ _)); refine blk_far ?_ ba.out _; (with_reducible repeat (first | refine blk_drewN ?_ _ | refine blk_drew ?_ | refine blk_alloc ?_ _)); exact aC.out) Tryd.underlying29 rfl (by kernel_rfl)) rfl ?_; exact ⟨_, by first | rfl | (simp [errW_none, errW_some] <;> rfl) | (simp [*, errW_none, errW_some] <;> rfl), by (with_reducible repeat (first | apply Kd.R_alloc | apply Kd.R_drewN | apply Kd.R_drew)); exact Kd.R_mono (Kd.R_far (p := ⟨az, 1, none⟩) (Kd.R_far (p := ⟨az, 0, none⟩) (Kd.R_far (p := ⟨aR, 1, none⟩) (Kd.R_types (Kd.R_types cn.out bd.out (by decide)) aC.out (by decide)) (fun _ hk => hk.1.2) (.slice cg a5.length ch)) (fun _ hk => hk.2) (.int .i64 aa)) (fun _ hk => hk.2) (.slice cg a5.length ch)) (fun _ hk => trivial), G.cB HB.out⟩

/-! ### laws_eqTie: function 53 -/
def laws_eqTie.f (aa : Int) (ag : Int) (ah : Int) (aF : Int) : Option (Bool) := if aa = ah then (if ag = aF then (some true) else (some false)) else (some false)
set_option maxHeartbeats 8000000 in
set_option maxRecDepth 100000 in
theorem laws_eqTie.calls (aa : Int) (ag : Int) (ah : Int) (aF : Int) (r : Bool) (w : World) (h : laws_eqTie.f aa ag ah aF = some r) :
  Calls Tryd.prog 53 #[.agg #[.int .i64 aa, .int .i64 ag], .agg #[.int .i64 ah, .int .i64 aF]] w fun e w' => e = .returned (.bool r) ∧ Below w.heap.size w w' := by
 have b_ := Tryd.underlying51; have HB := G.m (Below.refl w.heap.size w); have H : (if aa = ah then (if ag = aF then (some true) else (some false)) else (some false)) = some r := h; clear h
 by_cases c3 : aa = ah
 ·rw [if_pos c3] at H; have aS : (aa == ah) = true := beq_iff_eq.mpr c3; have a_ : (aa != ah) = false := bne_eq_false_iff_eq.mpr c3; clear c3
  by_cases c4 : ag = aF
  ·rw [if_pos c4] at H; have bB : (ag == aF) = true := beq_iff_eq.mpr c4; have dK : (ag != aF) = false := bne_eq_false_iff_eq.mpr c4; clear c4; obtain rfl := Option.some.inj H
   go_enter Tryd.func53, Tryd.ntmps53
   go_wp2_with (first | ((with_reducible refine G.h 2 rfl ?_); refine G.be 2 #[.int .i64 aa, .int .i64 ag] 51 ?_; intro al hg w5 hbox hb; have n0 := G.bs HB hb; have n1 := G.m (hbox); have n2 := G.m (cabR : w.heap.size ≤ al); have n3 := G.m (cabR : w.heap.size ≤ al); clear HB; revert n0 n1 n2 n3; intro HB am co cp; clear hb hbox hg) | ((with_reducible refine G.h 3 rfl ?_); refine G.be 3 #[.int .i64 ah, .int .i64 aF] 51 ?_; intro ao hg w6 hbox hb; have n0 := G.bb am hb; have n1 := G.bs HB hb; have n2 := G.m (hbox); have n3 := G.m (cabR : w.heap.size ≤ ao); have n4 := G.m (cabR : w.heap.size ≤ ao); have n5 := G.m (cabW : al ≠ ao); have n6 := G.m (cabX : ao ≠ al); clear am HB; revert n0 n1 n2 n3 n4 n5 n6; intro am HB bu cq cr aH aI; clear hb hbox hg; have dH := aH.out; have dI := aI.out; have ⟨bQ, bR, bS, bT⟩ := G.d2 (w := w6) am; have ⟨bZ, b1, b2, b3⟩ := G.d2 (w := w6) bu))
   go_ret
   exact ⟨cabS, G.cB HB.out⟩
  ·rw [if_neg c4] at H; have bB : (ag == aF) = false := beq_eq_false_iff_ne.mpr c4; have dK : (ag != aF) = true := bne_iff_ne.mpr c4; obtain rfl := Option.some.inj H
   go_enter Tryd.func53, Tryd.ntmps53
   go_wp2_with (first | ((with_reducible refine G.h 2 rfl ?_); refine G.be 2 #[.int .i64 aa, .int .i64 ag] 51 ?_; intro al hg er hbox hb; have n0 := G.bs HB hb; have n1 := G.m (hbox); have n2 := G.m (cabR : w.heap.size ≤ al); have n3 := G.m (cabR : w.heap.size ≤ al); clear HB; revert n0 n1 n2 n3; intro HB am co cp; clear hb hbox hg) | ((with_reducible refine G.h 3 rfl ?_); refine G.be 3 #[.int .i64 ah, .int .i64 aF] 51 ?_; intro ao hg aO hbox hb; have n0 := G.bb am hb; have n1 := G.bs HB hb; have n2 := G.m (hbox); have n3 := G.m (cabR : w.heap.size ≤ ao); have n4 := G.m (cabR : w.heap.size ≤ ao); have n5 := G.m (cabW : al ≠ ao); have n6 := G.m (cabX : ao ≠ al); clear am HB; revert n0 n1 n2 n3 n4 n5 n6; intro am HB bu cq cr aH aI; clear hb hbox hg; have eG := aH.out; have eH := aI.out; have ⟨cD, cE, cF, cG⟩ := G.d2 (w := aO) am; have ⟨cH, cI, cJ, cL⟩ := G.d2 (w := aO) bu))
   go_ret
   exact ⟨cabS, G.cB HB.out⟩
 ·rw [if_neg c3] at H; have aS : (aa == ah) = false := beq_eq_false_iff_ne.mpr c3; have a_ : (aa != ah) = true := bne_iff_ne.mpr c3; obtain rfl := Option.some.inj H
  go_enter Tryd.func53, Tryd.ntmps53
  go_wp2_with (first | ((with_reducible refine G.h 2 rfl ?_); refine G.be 2 #[.int .i64 aa, .int .i64 ag] 51 ?_; intro al hg e2 hbox hb; have n0 := G.bs HB hb; have n1 := G.m (hbox); have n2 := G.m (cabR : w.heap.size ≤ al); have n3 := G.m (cabR : w.heap.size ≤ al); clear HB; revert n0 n1 n2 n3; intro HB am co cp; clear hb hbox hg) | ((with_reducible refine G.h 3 rfl ?_); refine G.be 3 #[.int .i64 ah, .int .i64 aF] 51 ?_; intro ao hg dq hbox hb; have n0 := G.bb am hb; have n1 := G.bs HB hb; have n2 := G.m (hbox); have n3 := G.m (cabR : w.heap.size ≤ ao); have n4 := G.m (cabR : w.heap.size ≤ ao); have n5 := G.m (cabW : al ≠ ao); have n6 := G.m (cabX : ao ≠ al); clear am HB; revert n0 n1 n2 n3 n4 n5 n6; intro am HB bu cq cr aH aI; clear hb hbox hg; have eI := aH.out; have eJ := aI.out; have ⟨dL, dM, dN, dO⟩ := G.d2 (w := dq) am; have ⟨dP, dQ, dR, dS⟩ := G.d2 (w := dq) bu))
  go_ret
  exact ⟨cabS, G.cB HB.out⟩

/-! ### laws_eqTieS: function 21 -/
def laws_eqTieS.l0 : Nat → List (S51) → List (S51) → Int → Option (Bool)
 | 0, _, _, _ => none
 | k + 1, x0, x1, x5 => if x5 < (x0.length : Int) then (if 0 ≤ x5 then (if x5 < (x1.length : Int) then ((laws_eqTie.f ((rd_T51 x0 x5).f0) ((rd_T51 x0 x5).f1) ((rd_T51 x1 x5).f0) ((rd_T51 x1 x5).f1)).bind fun bO => (if bO = true then (laws_eqTieS.l0 k x0 x1 (wrap64 (x5 + 1))) else (some false))) else (none)) else (none)) else (some true)
def laws_eqTieS.f (k : Nat) (l0 : List (S51)) (l1 : List (S51)) : Option (Bool) := if (l0.length : Int) = (l1.length : Int) then (laws_eqTieS.l0 k l0 l1 0) else (some false)
theorem laws_eqTieS.mono_l : ∀ k, (∀ y0 y1 y2, LeO (laws_eqTieS.l0 k y0 y1 y2) (laws_eqTieS.l0 (k + 1) y0 y1 y2))
 | 0 => fun _ _ _ r h => by simp [laws_eqTieS.l0] at h
 | k + 1 => by
  have a9 := laws_eqTieS.mono_l k
  ·intro y0 y1 y2; unfold laws_eqTieS.l0
   repeat' first
   | (with_reducible exact a9 _ _ _)
   | (with_reducible exact LeO.refl _)
   | (with_reducible exact LeO.none _)
   | (with_reducible refine LeO.ite ?_ ?_)
   | (with_reducible refine LeO.bind ?_ (fun _ => ?_))
   | exact a9 _ _ _
   | exact LeO.none _
   | refine LeO.ite ?_ ?_
   | refine LeO.bind ?_ (fun _ => ?_)
theorem laws_eqTieS.mono : ∀ a0 a1 k, LeO (laws_eqTieS.f k a0 a1) (laws_eqTieS.f (k + 1) a0 a1) := by
 intro a0 a1 k; have a9 := laws_eqTieS.mono_l k; unfold laws_eqTieS.f
 repeat' first | (with_reducible first | exact a9 _ _ _ | exact LeO.refl _ | exact LeO.none _ | refine LeO.ite ?_ ?_ | refine LeO.bind ?_ (fun _ => ?_)) | exact a9 _ _ _ | exact LeO.none _ | refine LeO.ite ?_ ?_ | refine LeO.bind ?_ (fun _ => ?_)
def laws_eqTieS.T6 : Bool × List (List Nat × List Nat) := (true, [([], []), ([], []), ([0, 1], [0, 1]), ([2], [2]), ([], []), ([], []), ([4, 5], [4, 5]), ([6], [6]), ([3, 7], [3, 7]), ([8], [8])])
def laws_eqTieS.B6 : List Nat := [0, 0, 3, 7, 0, 0, 48, 112, 255, 511]
theorem laws_eqTieS.tab6 : rtab .any (opsOf Tryd.f21 6) = laws_eqTieS.T6 := by kernel_rfl
theorem laws_eqTieS.bits6 : waitsOk laws_eqTieS.T6.2 laws_eqTieS.B6 = true := by kernel_rfl
set_option maxHeartbeats 8000000 in
set_option maxRecDepth 100000 in
theorem laws_eqTieS.calls (k : Nat) (A0 : Option Addr) (c0 : Nat) (l0 : List (S51)) (A1 : Option Addr) (c1 : Nat) (l1 : List (S51)) (r : Bool) (w : World) (bw : Kd.C k51 w A0 l0.length l0) (bx : l0.length ≤ c0) (hr1 : Kd.C k51 w A1 l1.length l1) (dr : l1.length ≤ c1) (h : laws_eqTieS.f k l0 l1 = some r) :
  Calls Tryd.prog 21 #[.slice A0 l0.length c0, .slice A1 l1.length c1] w fun e w' => e = .returned (.bool r) ∧ Below w.heap.size w w' := by
 have b_ := Tryd.underlying51; have bP := G.m bw; have dk := G.m bx; clear bw bx; have dt := G.m hr1; have e3 := G.m dr; clear hr1 dr; have HB := G.m (Below.refl w.heap.size w); have H : (if (l0.length : Int) = (l1.length : Int) then (laws_eqTieS.l0 k l0 l1 0) else (some false)) = some r := h; clear h
 by_cases c3 : (l0.length : Int) = (l1.length : Int)
 ·rw [if_pos c3] at H; have aS : ((l0.length : Int) == (l1.length : Int)) = true := beq_iff_eq.mpr c3; have a_ : ((l0.length : Int) != (l1.length : Int)) = false := bne_eq_false_iff_eq.mpr c3; have dd : (l0.length == l1.length) = true := by first | simpa using c3 | (simp at c3 ⊢; omega)
  clear c3; have H' := G.m H; clear H
  go_enter Tryd.func21, Tryd.ntmps21
  go_wp2
  go_loopg [5] k (fun kq v5 w' => ∃ (ab : Int), v5 = .int .i64 ab ∧ Aside0 (laws_eqTieS.l0 kq l0 l1 ab = some r) ∧ Aside0 (kq ≤ k) ∧ Aside0 (Below w.heap.size w w'))
  case atStart => exact ⟨(0), (cabT), H', ⟨Nat.le_refl _⟩, ⟨G.cB HB.out⟩⟩
  case round =>
   clear H'; (try clear aS a_ dd); obtain ⟨ab, rfl, HA, b5, HB⟩ := hrel; cases gk with
   | zero => exact absurd HA.out (by simp [laws_eqTieS.l0])
   | succ k1 =>
    have H := HA.out; clear HA; simp only [laws_eqTieS.l0] at H
    by_cases c4 : ab < (l0.length : Int)
    ·rw [if_pos c4] at H; have bB : decide (ab < (l0.length : Int)) = true := decide_eq_true c4; clear c4
     by_cases c5 : 0 ≤ ab
     ·rw [if_pos c5] at H; have eZ : decide (0 ≤ ab) = true := decide_eq_true c5; clear c5
      by_cases c6 : ab < (l1.length : Int)
      ·rw [if_pos c6] at H; have cN : decide (ab < (l1.length : Int)) = true := decide_eq_true c6; clear c6; obtain ⟨bO, A7, H⟩ := G.bi H; replace H : (if bO = true then (laws_eqTieS.l0 k1 l0 l1 (wrap64 (ab + 1))) else (some false)) = some r := H
       by_cases c8 : bO = true
       ·subst c8; have H1 : (laws_eqTieS.l0 k1 l0 l1 (wrap64 (ab + 1))) = some r := by rw [if_pos rfl] at H; exact H
        clear H; have H := H1; clear H1; have H' := G.m H; clear H; try go_wp2
        have n0 := G.m (below_drew1 HB.out); clear HB; revert n0; intro HB; have bj : 0 ≤ (ab : Int) := of_decide_eq_true (G.asm); have bk : ab < (l0.length : Int) := of_decide_eq_true (G.asm); obtain ⟨a6, ci, aq, au⟩ := at_T51 bP.out ab bj bk; have aT := au; have aU := aq; cases ci; replace aq := G.hx HB aq; replace au := G.hx HB au; replace bj := eq_true bj; replace bk := eq_true bk; have bl : 0 ≤ (ab : Int) := of_decide_eq_true (G.asm); have bm : ab < (l1.length : Int) := of_decide_eq_true (G.asm); obtain ⟨a7, cj, av, aw⟩ := at_T51 dt.out ab bl bm; have aV := aw; have aW := av; cases cj; replace av := G.hx HB av; replace aw := G.hx HB aw; replace bl := eq_true bl; replace bm := eq_true bm; refine G.st 10 (S := fun w' => w'.cell? (a6.add ((ab).toNat * 2)) = some (.int .i64 ((rd_T51 l0 ab).f0)) ∧ w'.cell? ⟨(a6.add ((ab).toNat * 2)).block, (a6.add ((ab).toNat * 2)).off + 1, none⟩ = some (.int .i64 ((rd_T51 l0 ab).f1)) ∧ w'.cell? (a7.add ((ab).toNat * 2)) = some (.int .i64 ((rd_T51 l1 ab).f0)) ∧ w'.cell? ⟨(a7.add ((ab).toNat * 2)).block, (a7.add ((ab).toNat * 2)).off + 1, none⟩ = some (.int .i64 ((rd_T51 l1 ab).f1))) [] ⟨(G.hx HB aU), (G.hx HB aT), (G.hx HB aW), (G.hx HB aV)⟩ laws_eqTieS.tab6 laws_eqTieS.bits6 (fun hHeld HT_ HW_ => ?_); generalize wr.drew = w9 at HB aq au av aw hHeld ⊢; refine G.pu 0 17 1 ?_; refine G.pu 1 18 3 ?_; refine G.pu 2 19 7 ?_; refine G.pu 4 21 23 ?_; refine G.pu 5 22 55 ?_; refine G.pu 6 23 119 ?_; refine G.ta4 3 20 127 ?_; refine G.ta4 7 24 255 ?_; refine G.on 8 25 511 (fun K hK => ?_); refine G.gs Tryd.func53 #[.agg #[.int .i64 ((rd_T51 l0 ab).f0), .int .i64 ((rd_T51 l0 ab).f1)], .agg #[.int .i64 ((rd_T51 l1 ab).f0), .int .i64 ((rd_T51 l1 ab).f1)]] ?_; with_reducible refine (laws_eqTie.calls ((rd_T51 l0 ab).f0) ((rd_T51 l0 ab).f1) ((rd_T51 l1 ab).f0) ((rd_T51 l1 ab).f1) true _ A7.out).mono ?_
        rintro e er ⟨rfl, hb⟩; refine ⟨_, rfl, ?_⟩; have n0 := G.bs HB hb; clear HB; revert n0; intro HB; (try clear hb); refine hK.out _ _ ⟨(G.hx HB aU), (G.hx HB aT), (G.hx HB aW), (G.hx HB aV)⟩ (fun hHeld => ?_); clear hK K; refine G.no 25 ?_; refine G.pu 9 26 1023 ?_; refine done_ (done_of HT_.out (by kernel_rfl)) ?_; try go_wp2
        go_roundg k1
        case measure => have := b5.out; omega
        case rel => exact ⟨(wrap64 (ab + 1)), (cabT), H', ⟨by have := b5.out; omega⟩, ⟨G.cB HB.out⟩⟩
       ·replace c8 := Bool.eq_false_iff.mpr c8; subst c8; have H1 : (some false) = some r := by rw [if_neg (show ¬ (false = true) by decide)] at H; exact H
        clear H; have H := H1; clear H1; obtain rfl := Option.some.inj H; try go_wp2
        have n0 := G.m (below_drew1 HB.out); clear HB; revert n0; intro HB; have bj : 0 ≤ (ab : Int) := of_decide_eq_true (G.asm); have bk : ab < (l0.length : Int) := of_decide_eq_true (G.asm); obtain ⟨a6, ci, aq, au⟩ := at_T51 bP.out ab bj bk; have aT := au; have aU := aq; cases ci; replace aq := G.hx HB aq; replace au := G.hx HB au; replace bj := eq_true bj; replace bk := eq_true bk; have bl : 0 ≤ (ab : Int) := of_decide_eq_true (G.asm); have bm : ab < (l1.length : Int) := of_decide_eq_true (G.asm); obtain ⟨a7, cj, av, aw⟩ := at_T51 dt.out ab bl bm; have aV := aw; have aW := av; cases cj; replace av := G.hx HB av; replace aw := G.hx HB aw; replace bl := eq_true bl; replace bm := eq_true bm; refine G.st 10 (S := fun w' => w'.cell? (a6.add ((ab).toNat * 2)) = some (.int .i64 ((rd_T51 l0 ab).f0)) ∧ w'.cell? ⟨(a6.add ((ab).toNat * 2)).block, (a6.add ((ab).toNat * 2)).off + 1, none⟩ = some (.int .i64 ((rd_T51 l0 ab).f1)) ∧ w'.cell? (a7.add ((ab).toNat * 2)) = some (.int .i64 ((rd_T51 l1 ab).f0)) ∧ w'.cell? ⟨(a7.add ((ab).toNat * 2)).block, (a7.add ((ab).toNat * 2)).off + 1, none⟩ = some (.int .i64 ((rd_T51 l1 ab).f1))) [] ⟨(G.hx HB aU), (G.hx HB aT), (G.hx HB aW), (G.hx HB aV)⟩ laws_eqTieS.tab6 laws_eqTieS.bits6 (fun hHeld HT_ HW_ => ?_); generalize wr.drew = aO at HB aq au av aw hHeld ⊢; refine G.pu 0 17 1 ?_; refine G.pu 1 18 3 ?_; refine G.pu 2 19 7 ?_; refine G.pu 4 21 23 ?_; refine G.pu 5 22 55 ?_; refine G.pu 6 23 119 ?_; refine G.ta4 3 20 127 ?_; refine G.ta4 7 24 255 ?_; refine G.on 8 25 511 (fun K hK => ?_); refine G.gs Tryd.func53 #[.agg #[.int .i64 ((rd_T51 l0 ab).f0), .int .i64 ((rd_T51 l0 ab).f1)], .agg #[.int .i64 ((rd_T51 l1 ab).f0), .int .i64 ((rd_T51 l1 ab).f1)]] ?_; with_reducible refine (laws_eqTie.calls ((rd_T51 l0 ab).f0) ((rd_T51 l0 ab).f1) ((rd_T51 l1 ab).f0) ((rd_T51 l1 ab).f1) false _ A7.out).mono ?_
        rintro e es ⟨rfl, hb⟩; refine ⟨_, rfl, ?_⟩; have n0 := G.bs HB hb; clear HB; revert n0; intro HB; (try clear hb); refine hK.out _ _ ⟨(G.hx HB aU), (G.hx HB aT), (G.hx HB aW), (G.hx HB aV)⟩ (fun hHeld => ?_); clear hK K; refine G.no 25 ?_; refine G.pu 9 26 1023 ?_; refine done_ (done_of HT_.out (by kernel_rfl)) ?_; try go_wp2
        go_ret
        exact ⟨cabS, G.cB HB.out⟩
      ·rw [if_neg c6] at H; exact absurd H (by simp)
     ·rw [if_neg c5] at H; exact absurd H (by simp)
    ·rw [if_neg c4] at H; have bB : decide (ab < (l0.length : Int)) = false := decide_eq_false c4; clear c4; obtain rfl := Option.some.inj H
     go_wp2
     go_ret
     exact ⟨cabS, G.cB HB.out⟩
 ·rw [if_neg c3] at H; have aS : ((l0.length : Int) == (l1.length : Int)) = false := beq_eq_false_iff_ne.mpr c3; have a_ : ((l0.length : Int) != (l1.length : Int)) = true := bne_iff_ne.mpr c3; have dd : (l0.length == l1.length) = false := by first | simpa using c3 | (simp at c3 ⊢; omega)
  obtain rfl := Option.some.inj H
  go_enter Tryd.func21, Tryd.ntmps21
  go_wp2
  go_ret
  exact ⟨cabS, G.cB HB.out⟩

/-! ### laws_eqNet: function 18 -/
def laws_eqNet.f (k : Nat) (aa : Int) (ac : List (S51)) (ah : Int) (aA : List (S51)) : Option (Bool) := if aa = ah then ((laws_eqTieS.f k ac aA).bind fun bv => (if bv = true then (some true) else (some false))) else (some false)
theorem laws_eqNet.mono : ∀ a0 a1 a2 a3 k, LeO (laws_eqNet.f k a0 a1 a2 a3) (laws_eqNet.f (k + 1) a0 a1 a2 a3) := by
 intro a0 a1 a2 a3 k; unfold laws_eqNet.f
 repeat' first | (with_reducible first | exact laws_eqTieS.mono _ _ _ | exact LeO.refl _ | exact LeO.none _ | refine LeO.ite ?_ ?_ | refine LeO.bind ?_ (fun _ => ?_)) | exact laws_eqTieS.mono _ _ _ | exact LeO.none _ | refine LeO.ite ?_ ?_ | refine LeO.bind ?_ (fun _ => ?_)
set_option maxHeartbeats 8000000 in
set_option maxRecDepth 100000 in
theorem laws_eqNet.calls (k : Nat) (aa : Int) (ai : Option Addr) (aj : Nat) (ac : List (S51)) (ah : Int) (bn : Option Addr) (bo : Nat) (aA : List (S51)) (r : Bool) (w : World) (aP : Kd.C k51 w ai ac.length ac) (aQ : ac.length ≤ aj) (ct : Kd.C k51 w bn aA.length aA) (cu : aA.length ≤ bo) (h : laws_eqNet.f k aa ac ah aA = some r) :
  Calls Tryd.prog 18 #[.agg #[.int .i64 aa, .slice ai ac.length aj], .agg #[.int .i64 ah, .slice bn aA.length bo]] w fun e w' => e = .returned (.bool r) ∧ Below w.heap.size w w' := by
 have dG := Tryd.underlying29; have aX := G.m aP; have aY := G.m aQ; clear aP aQ; have cv := G.m ct; have cw := G.m cu; clear ct cu; have HB := G.m (Below.refl w.heap.size w); have H : (if aa = ah then ((laws_eqTieS.f k ac aA).bind fun bv => (if bv = true then (some true) else (some false))) else (some false)) = some r := h; clear h
 by_cases c3 : aa = ah
 ·rw [if_pos c3] at H; have aS : (aa == ah) = true := beq_iff_eq.mpr c3; have a_ : (aa != ah) = false := bne_eq_false_iff_eq.mpr c3; clear c3; obtain ⟨bv, A4, H⟩ := G.bi H; replace H : (if bv = true then (some true) else (some false)) = some r := H
  by_cases c5 : bv = true
  ·subst c5; have H1 : (some true) = some r := by rw [if_pos rfl] at H; exact H
   clear H; have H := H1; clear H1; obtain rfl := Option.some.inj H
   go_enter Tryd.func18, Tryd.ntmps18
   go_wp2_with (first | ((with_reducible refine G.h 2 rfl ?_); refine G.be 2 #[.int .i64 aa, .slice ai ac.length aj] 29 ?_; intro ak hg w6 hbox hb; have n0 := G.bs HB hb; have n1 := G.m (hbox); have n2 := G.m (cabR : w.heap.size ≤ ak); have n3 := G.m (cabR : w.heap.size ≤ ak); clear HB; revert n0 n1 n2 n3; intro HB af cx cy; clear hb hbox hg) | ((with_reducible refine G.h 3 rfl ?_); refine G.be 3 #[.int .i64 ah, .slice bn aA.length bo] 29 ?_; intro ap hg w7 hbox hb; have n0 := G.bb af hb; have n1 := G.bs HB hb; have n2 := G.m (hbox); have n3 := G.m (cabR : w.heap.size ≤ ap); have n4 := G.m (cabR : w.heap.size ≤ ap); have n5 := G.m (cabU : ak ≠ ap); have n6 := G.m (cabV : ap ≠ ak); clear af HB; revert n0 n1 n2 n3 n4 n5 n6; intro af HB aD cz cA aJ aK; clear hb hbox hg; have dz := aJ.out; have dA := aK.out; have ⟨bZ, b1, b2, b3⟩ := G.d2 (w := w7) af; have ⟨bD, bE, bF, bG⟩ := G.d2 (w := w7) aD) | ((with_reducible refine G.f 21 rfl ?_); refine G.gL 14 Tryd.func21 #[.slice ai ac.length aj, .slice bn aA.length bo] ?_; (with_reducible refine (laws_eqTieS.calls k _ _ ac _ _ aA true _ ?side1 ?side2 ?side3 ?side4 A4.out).mono ?_); (case side1 => exact G.cC (Kd.C_below aX.out HB.out)); (case side2 => exact aY.out); (case side3 => exact G.cC (Kd.C_below cv.out HB.out)); (case side4 => exact cw.out); rintro e aO ⟨rfl, hb⟩; refine ⟨_, rfl, ?_⟩; have n0 := G.bb af hb; have n1 := G.bb aD hb; have n2 := G.bs HB hb; clear af aD HB; revert n0 n1 n2; intro af aD HB; (try clear hb)))
   go_ret
   exact ⟨cabS, G.cB HB.out⟩
  ·replace c5 := Bool.eq_false_iff.mpr c5; subst c5; have H1 : (some false) = some r := by rw [if_neg (show ¬ (false = true) by decide)] at H; exact H
   clear H; have H := H1; clear H1; obtain rfl := Option.some.inj H
   go_enter Tryd.func18, Tryd.ntmps18
   go_wp2_with (first | ((with_reducible refine G.h 2 rfl ?_); refine G.be 2 #[.int .i64 aa, .slice ai ac.length aj] 29 ?_; intro ak hg es hbox hb; have n0 := G.bs HB hb; have n1 := G.m (hbox); have n2 := G.m (cabR : w.heap.size ≤ ak); have n3 := G.m (cabR : w.heap.size ≤ ak); clear HB; revert n0 n1 n2 n3; intro HB af cx cy; clear hb hbox hg) | ((with_reducible refine G.h 3 rfl ?_); refine G.be 3 #[.int .i64 ah, .slice bn aA.length bo] 29 ?_; intro ap hg bJ hbox hb; have n0 := G.bb af hb; have n1 := G.bs HB hb; have n2 := G.m (hbox); have n3 := G.m (cabR : w.heap.size ≤ ap); have n4 := G.m (cabR : w.heap.size ≤ ap); have n5 := G.m (cabU : ak ≠ ap); have n6 := G.m (cabV : ap ≠ ak); clear af HB; revert n0 n1 n2 n3 n4 n5 n6; intro af HB aD cz cA aJ aK; clear hb hbox hg; have eK := aJ.out; have eL := aK.out; have ⟨dT, dU, dV, dW⟩ := G.d2 (w := bJ) af; have ⟨dX, dY, dZ, d7⟩ := G.d2 (w := bJ) aD) | ((with_reducible refine G.f 21 rfl ?_); refine G.gL 14 Tryd.func21 #[.slice ai ac.length aj, .slice bn aA.length bo] ?_; (with_reducible refine (laws_eqTieS.calls k _ _ ac _ _ aA false _ ?side1 ?side2 ?side3 ?side4 A4.out).mono ?_); (case side1 => exact G.cC (Kd.C_below aX.out HB.out)); (case side2 => exact aY.out); (case side3 => exact G.cC (Kd.C_below cv.out HB.out)); (case side4 => exact cw.out); rintro e e4 ⟨rfl, hb⟩; refine ⟨_, rfl, ?_⟩; have n0 := G.bb af hb; have n1 := G.bb aD hb; have n2 := G.bs HB hb; clear af aD HB; revert n0 n1 n2; intro af aD HB; (try clear hb)))
   go_ret
   exact ⟨cabS, G.cB HB.out⟩
 ·rw [if_neg c3] at H; have aS : (aa == ah) = false := beq_eq_false_iff_ne.mpr c3; have a_ : (aa != ah) = true := bne_iff_ne.mpr c3; obtain rfl := Option.some.inj H
  go_enter Tryd.func18, Tryd.ntmps18
  go_wp2_with (first | ((with_reducible refine G.h 2 rfl ?_); refine G.be 2 #[.int .i64 aa, .slice ai ac.length aj] 29 ?_; intro ak hg e5 hbox hb; have n0 := G.bs HB hb; have n1 := G.m (hbox); have n2 := G.m (cabR : w.heap.size ≤ ak); have n3 := G.m (cabR : w.heap.size ≤ ak); clear HB; revert n0 n1 n2 n3; intro HB af cx cy; clear hb hbox hg) | ((with_reducible refine G.h 3 rfl ?_); refine G.be 3 #[.int .i64 ah, .slice bn aA.length bo] 29 ?_; intro ap hg du hbox hb; have n0 := G.bb af hb; have n1 := G.bs HB hb; have n2 := G.m (hbox); have n3 := G.m (cabR : w.heap.size ≤ ap); have n4 := G.m (cabR : w.heap.size ≤ ap); have n5 := G.m (cabU : ak ≠ ap); have n6 := G.m (cabV : ap ≠ ak); clear af HB; revert n0 n1 n2 n3 n4 n5 n6; intro af HB aD cz cA aJ aK; clear hb hbox hg; have eM := aJ.out; have eN := aK.out; have ⟨d8, d9, d_, ea⟩ := G.d2 (w := du) af; have ⟨eb, ec, ed, ee⟩ := G.d2 (w := du) aD))
  go_ret
  exact ⟨cabS, G.cB HB.out⟩

end Go.Proofs.YtjkeagcenmmknaaDoor.P
