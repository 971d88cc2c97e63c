-- Printed by a program of this session (mp.py, over the kit's print). Not trusted: Lean checks it.
import Derived.Test.YtbkdpnfjcnkoeaaF0
import Derived.Test.YtbkdpnfjcnkoeaaF18
import Derived.Test.YtbkdpnfjcnkoeaaF22
import Derived.Test.YtbkdpnfjcnkoeaaF23
import Derived.Test.YtbkdpnfjcnkoeaaF24
import Derived.Test.YtbkdpnfjcnkoeaaF30
namespace Go.Proofs.Ytbkdpnfjcnkoeaa.P
open Go.RowKit Go.Proofs.YtbkdpnfjcnkoeaaW.PrintWords Go.Proofs.YtbkdpnfjcnkoeaaW.PrintLast Go.Proofs.YtbkdpnfjcnkoeaaW.PrintMore
attribute [local go_sem] max2_int min2_int max_two min_two max_three min_three max_four min_four   -- for this text's walks alone
set_option linter.unusedVariables false
set_option linter.unusedSimpArgs false

theorem c31_0 {p : Prop} (h : p := by (try simp only [List.map_toArray, List.map_cons, List.map_nil]); first | done | (rw [show t475.length = t461.length from (Kd.R_reads' HO_9.out).1.symm] <;> rfl) | rfl | (simp only [List.length_drop, List.length_take]; rfl)) : p := h
theorem c31_1 {p : Prop} (h : p := by (try simp only [hl461001_39]); (with_reducible repeat (first | apply Kd.R_alloc | apply Kd.R_drewN | apply Kd.R_drew)); exact Kd.R_mono HO_461001.out (fun _ hk => trivial)) : p := h
theorem c31_2 {p : Prop} (h : p := by (try simp only [hl461001_39]); (with_reducible repeat (first | apply Kd.R_alloc | apply Kd.R_drewN | apply Kd.R_drew)); exact Kd.R_mono HO_9.out (fun _ hk => trivial)) : p := h
theorem c31_3 {p : Prop} (h : p := by (try simp only [hl461001_39]); (with_reducible repeat (first | refine blk_drewN ?_ _ | refine blk_drew ?_ | refine blk_alloc ?_ _)); exact BK446.out) : p := h
theorem c31_4 {p : Prop} (h : p := by (try simp only [hl461001_39]); (with_reducible repeat (first | refine blk_drewN ?_ _ | refine blk_drew ?_ | refine blk_alloc ?_ _)); exact BK460.out) : p := h
theorem c31_5 {p : Prop} (h : p := by (with_reducible repeat (first | apply Kd.R_alloc | apply Kd.R_drewN | apply Kd.R_drew)); exact Kd.R_mono HO_461001.out (fun _ hk => trivial)) : p := h
theorem c31_6 {p : Prop} (h : p := by (with_reducible repeat (first | apply Kd.R_alloc | apply Kd.R_drewN | apply Kd.R_drew)); exact Kd.R_mono HO459.out (fun _ hk => trivial)) : p := h
theorem c31_7 {p : Prop} (h : p := by (with_reducible repeat (first | apply Kd.R_alloc | apply Kd.R_drewN | apply Kd.R_drew)); exact Kd.R_mono HO454.out (fun _ hk => hk.2)) : p := h
theorem c31_8 {p : Prop} (h : p := by (with_reducible repeat (first | apply Kd.R_alloc | apply Kd.R_drewN | apply Kd.R_drew)); exact Kd.R_mono HO463.out (fun _ hk => hk.2)) : p := h
theorem c31_9 {p : Prop} (h : p := by first | rfl | (simp [errW_none, errW_some] <;> rfl) | (simp [*, errW_none, errW_some] <;> rfl)) : p := h
theorem c31_10 {p : Prop} (h : p := by first | rfl | (simp; done) | (simp [*]; done)) : p := h
theorem c31_11 {p : Prop} (h : p := by rw [hg]; exact (below_size (G.cB HB.out))) : p := h
theorem c31_12 {p : Prop} (h : p := by kernel_rfl) : p := h
/-! ### laws_FnExactTrailOf: function 5 -/
mutual
def laws_FnExactTrailOf.j0 : Nat → Int → List Int → Bool → List Int → Bool → Bool → Int → List (S76) → Int → List (S63) → Option (Bool)
 | 0, _, _, _, _, _, _, _, _, _, _ => none
 | k + 1, x1, x6, x7, x9, x10, x44, x447000, x447001, x461000, x461001 => if x44 = true then (some false) else ((laws_toNet.f k x447000 x447001).bind fun bt466 => ((laws_eqNet.f k x461000 x461001 bt466.1 bt466.2).bind fun t470 => (if t470 = true then ((laws_markNet.f k x461000 x461001 1).bind fun bt471 => (if bt471.1 < 0 then (laws_FnExactTrailOf.j1 k x1 x6 x7 x9 true x447000 x447001) else ((laws_eqIntS.f k x9 x6).bind fun t473 => (if t473 = true then (laws_FnExactTrailOf.j1 k x1 x6 x7 x9 (x10 != x7) x447000 x447001) else (laws_FnExactTrailOf.j1 k x1 x6 x7 x9 true x447000 x447001))))) else (some false))))
def laws_FnExactTrailOf.j1 : Nat → Int → List Int → Bool → List Int → Bool → Int → List (S76) → Option (Bool)
 | 0, _, _, _, _, _, _, _ => none
 | k + 1, x1, x6, x7, x9, x65, x447000, x447001 => if x65 = true then (some false) else ((laws_markIntS.f k x9 1).bind fun bt474 => ((laws_heldIntS.f k bt474.2 1).bind fun t476 => (if t476 < 0 then (some false) else (if t476 = bt474.1 then ((laws_toNet.f k x447000 x447001).bind fun bt477 => ((impl_TrailOf.f k bt477.1 bt477.2 x1).bind fun bt481 => ((laws_eqIntS.f k bt481.1 x6).bind fun t485 => (if t485 = true then (laws_FnExactTrailOf.j2 k bt474.2 bt474.1 (bt481.2 != x7)) else (laws_FnExactTrailOf.j2 k bt474.2 bt474.1 true))))) else (some false)))))
def laws_FnExactTrailOf.j2 : Nat → List Int → Int → Bool → Option (Bool)
 | 0, _, _, _ => none
 | k + 1, x9, x12, x92 => if x92 = true then (some false) else ((laws_heldIntS.f k x9 1).bind fun t486 => (if t486 < 0 then (some false) else (if t486 = x12 then (some true) else (some false))))
end
def laws_FnExactTrailOf.f (k : Nat) (a0_0 : Int) (l0_1 : List (S76)) (a1 : Int) : Option (Bool) := (laws_szNet.f a0_0 l0_1 1048576).bind fun t447 => (if t447 < 0 then (some true) else ((laws_toNet.f k a0_0 l0_1).bind fun bt448 => ((spec_TrailOf.f k bt448.1 bt448.2 a1).bind fun bt452 => ((laws_toNet.f k a0_0 l0_1).bind fun bt456 => ((impl_TrailOf.f k bt456.1 bt456.2 a1).bind fun bt461 => ((laws_eqIntS.f k bt461.1 bt452.1).bind fun t465 => (if t465 = true then (laws_FnExactTrailOf.j0 k a1 bt452.1 bt452.2 bt461.1 bt461.2 (bt461.2 != bt452.2) a0_0 l0_1 bt456.1 bt456.2) else (laws_FnExactTrailOf.j0 k a1 bt452.1 bt452.2 bt461.1 bt461.2 true a0_0 l0_1 bt456.1 bt456.2))))))))
theorem laws_FnExactTrailOf.mono_l : ∀ k, (∀ y0 y1 y2 y3 y4 y5 y6 y7 y8 y9, LeO (laws_FnExactTrailOf.j0 k y0 y1 y2 y3 y4 y5 y6 y7 y8 y9) (laws_FnExactTrailOf.j0 (k + 1) y0 y1 y2 y3 y4 y5 y6 y7 y8 y9)) ∧ (∀ y0 y1 y2 y3 y4 y5 y6, LeO (laws_FnExactTrailOf.j1 k y0 y1 y2 y3 y4 y5 y6) (laws_FnExactTrailOf.j1 (k + 1) y0 y1 y2 y3 y4 y5 y6)) ∧ (∀ y0 y1 y2, LeO (laws_FnExactTrailOf.j2 k y0 y1 y2) (laws_FnExactTrailOf.j2 (k + 1) y0 y1 y2))
 | 0 => ⟨fun _ _ _ _ _ _ _ _ _ _ r h => by simp [laws_FnExactTrailOf.j0] at h, fun _ _ _ _ _ _ _ r h => by simp [laws_FnExactTrailOf.j1] at h, fun _ _ _ r h => by simp [laws_FnExactTrailOf.j2] at h⟩
 | k + 1 => by
  obtain ⟨ih0, ih1, ih2⟩ := laws_FnExactTrailOf.mono_l k
  refine ⟨?_, ?_, ?_⟩
  ·intro y0 y1 y2 y3 y4 y5 y6 y7 y8 y9
   unfold laws_FnExactTrailOf.j0
   repeat' first
   | (with_reducible exact ih0 _ _ _ _ _ _ _ _ _ _)
   | (with_reducible exact ih1 _ _ _ _ _ _ _)
   | (with_reducible exact ih2 _ _ _)
   | (with_reducible exact impl_TrailOf.mono _ _ _ _)
   | (with_reducible exact laws_eqIntS.mono _ _ _)
   | (with_reducible exact laws_eqNet.mono _ _ _ _ _)
   | (with_reducible exact laws_heldIntS.mono _ _ _)
   | (with_reducible exact laws_markIntS.mono _ _ _)
   | (with_reducible exact laws_markNet.mono _ _ _ _)
   | (with_reducible exact laws_toNet.mono _ _ _)
   | (with_reducible exact spec_TrailOf.mono _ _ _ _)
   | (with_reducible exact LeO.refl _)
   | (with_reducible exact LeO.none _)
   | (with_reducible refine LeO.ite ?_ ?_)
   | (with_reducible refine LeO.bind ?_ (fun _ => ?_))
   | exact ih0 _ _ _ _ _ _ _ _ _ _
   | exact ih1 _ _ _ _ _ _ _
   | exact ih2 _ _ _
   | exact impl_TrailOf.mono _ _ _ _
   | exact laws_eqIntS.mono _ _ _
   | exact laws_eqNet.mono _ _ _ _ _
   | exact laws_heldIntS.mono _ _ _
   | exact laws_markIntS.mono _ _ _
   | exact laws_markNet.mono _ _ _ _
   | exact laws_toNet.mono _ _ _
   | exact spec_TrailOf.mono _ _ _ _
   | exact LeO.none _
   | refine LeO.ite ?_ ?_
   | refine LeO.bind ?_ (fun _ => ?_)
  ·intro y0 y1 y2 y3 y4 y5 y6
   unfold laws_FnExactTrailOf.j1
   repeat' first
   | (with_reducible exact ih0 _ _ _ _ _ _ _ _ _ _)
   | (with_reducible exact ih1 _ _ _ _ _ _ _)
   | (with_reducible exact ih2 _ _ _)
   | (with_reducible exact impl_TrailOf.mono _ _ _ _)
   | (with_reducible exact laws_eqIntS.mono _ _ _)
   | (with_reducible exact laws_eqNet.mono _ _ _ _ _)
   | (with_reducible exact laws_heldIntS.mono _ _ _)
   | (with_reducible exact laws_markIntS.mono _ _ _)
   | (with_reducible exact laws_markNet.mono _ _ _ _)
   | (with_reducible exact laws_toNet.mono _ _ _)
   | (with_reducible exact spec_TrailOf.mono _ _ _ _)
   | (with_reducible exact LeO.refl _)
   | (with_reducible exact LeO.none _)
   | (with_reducible refine LeO.ite ?_ ?_)
   | (with_reducible refine LeO.bind ?_ (fun _ => ?_))
   | exact ih0 _ _ _ _ _ _ _ _ _ _
   | exact ih1 _ _ _ _ _ _ _
   | exact ih2 _ _ _
   | exact impl_TrailOf.mono _ _ _ _
   | exact laws_eqIntS.mono _ _ _
   | exact laws_eqNet.mono _ _ _ _ _
   | exact laws_heldIntS.mono _ _ _
   | exact laws_markIntS.mono _ _ _
   | exact laws_markNet.mono _ _ _ _
   | exact laws_toNet.mono _ _ _
   | exact spec_TrailOf.mono _ _ _ _
   | exact LeO.none _
   | refine LeO.ite ?_ ?_
   | refine LeO.bind ?_ (fun _ => ?_)
  ·intro y0 y1 y2
   unfold laws_FnExactTrailOf.j2
   repeat' first
   | (with_reducible exact ih0 _ _ _ _ _ _ _ _ _ _)
   | (with_reducible exact ih1 _ _ _ _ _ _ _)
   | (with_reducible exact ih2 _ _ _)
   | (with_reducible exact impl_TrailOf.mono _ _ _ _)
   | (with_reducible exact laws_eqIntS.mono _ _ _)
   | (with_reducible exact laws_eqNet.mono _ _ _ _ _)
   | (with_reducible exact laws_heldIntS.mono _ _ _)
   | (with_reducible exact laws_markIntS.mono _ _ _)
   | (with_reducible exact laws_markNet.mono _ _ _ _)
   | (with_reducible exact laws_toNet.mono _ _ _)
   | (with_reducible exact spec_TrailOf.mono _ _ _ _)
   | (with_reducible exact LeO.refl _)
   | (with_reducible exact LeO.none _)
   | (with_reducible refine LeO.ite ?_ ?_)
   | (with_reducible refine LeO.bind ?_ (fun _ => ?_))
   | exact ih0 _ _ _ _ _ _ _ _ _ _
   | exact ih1 _ _ _ _ _ _ _
   | exact ih2 _ _ _
   | exact impl_TrailOf.mono _ _ _ _
   | exact laws_eqIntS.mono _ _ _
   | exact laws_eqNet.mono _ _ _ _ _
   | exact laws_heldIntS.mono _ _ _
   | exact laws_markIntS.mono _ _ _
   | exact laws_markNet.mono _ _ _ _
   | exact laws_toNet.mono _ _ _
   | exact spec_TrailOf.mono _ _ _ _
   | exact LeO.none _
   | refine LeO.ite ?_ ?_
   | refine LeO.bind ?_ (fun _ => ?_)
theorem laws_FnExactTrailOf.mono : ∀ a0 a1 a2 k, LeO (laws_FnExactTrailOf.f k a0 a1 a2) (laws_FnExactTrailOf.f (k + 1) a0 a1 a2) := by
 intro a0 a1 a2 k
 obtain ⟨ih0, ih1, ih2⟩ := laws_FnExactTrailOf.mono_l k
 unfold laws_FnExactTrailOf.f
 repeat' first
   | (with_reducible exact ih0 _ _ _ _ _ _ _ _ _ _)
   | (with_reducible exact ih1 _ _ _ _ _ _ _)
   | (with_reducible exact ih2 _ _ _)
   | (with_reducible exact impl_TrailOf.mono _ _ _ _)
   | (with_reducible exact laws_eqIntS.mono _ _ _)
   | (with_reducible exact laws_eqNet.mono _ _ _ _ _)
   | (with_reducible exact laws_heldIntS.mono _ _ _)
   | (with_reducible exact laws_markIntS.mono _ _ _)
   | (with_reducible exact laws_markNet.mono _ _ _ _)
   | (with_reducible exact laws_toNet.mono _ _ _)
   | (with_reducible exact spec_TrailOf.mono _ _ _ _)
   | (with_reducible exact LeO.refl _)
   | (with_reducible exact LeO.none _)
   | (with_reducible refine LeO.ite ?_ ?_)
   | (with_reducible refine LeO.bind ?_ (fun _ => ?_))
   | exact ih0 _ _ _ _ _ _ _ _ _ _
   | exact ih1 _ _ _ _ _ _ _
   | exact ih2 _ _ _
   | exact impl_TrailOf.mono _ _ _ _
   | exact laws_eqIntS.mono _ _ _
   | exact laws_eqNet.mono _ _ _ _ _
   | exact laws_heldIntS.mono _ _ _
   | exact laws_markIntS.mono _ _ _
   | exact laws_markNet.mono _ _ _ _
   | exact laws_toNet.mono _ _ _
   | exact spec_TrailOf.mono _ _ _ _
   | exact LeO.none _
   | refine LeO.ite ?_ ?_
   | refine LeO.bind ?_ (fun _ => ?_)
set_option maxHeartbeats 8000000 in
set_option maxRecDepth 100000 in
theorem laws_FnExactTrailOf.calls (k : Nat) (a0_0 : Int) (A0_1 : Option Addr) (c0_1 : Nat) (l0_1 : List (S76)) (a1 : Int) (r : Bool) (w : World) (hr0_1 : Kd.C k76 w A0_1 l0_1.length l0_1) (hc0_1 : l0_1.length ≤ c0_1) (h : laws_FnExactTrailOf.f k a0_0 l0_1 a1 = some r) :
  Calls Try.prog 5 #[.agg #[.int .i64 a0_0, .slice A0_1 l0_1.length c0_1], .int .i64 a1] w fun e w' => e = .returned (.bool r) ∧ Below w.heap.size w w' := by
 have hu24 := Try.underlying24
 have hu29 := Try.underlying29
 have HR0_1 := Aside0.mk hr0_1
 have HC0_1 := Aside0.mk hc0_1
 clear hr0_1 hc0_1
 have HB := Aside0.mk (Below.refl w.heap.size w)
 have H : ((laws_szNet.f a0_0 l0_1 1048576).bind fun t447 => (if t447 < 0 then (some true) else ((laws_toNet.f k a0_0 l0_1).bind fun bt448 => ((spec_TrailOf.f k bt448.1 bt448.2 a1).bind fun bt452 => ((laws_toNet.f k a0_0 l0_1).bind fun bt456 => ((impl_TrailOf.f k bt456.1 bt456.2 a1).bind fun bt461 => ((laws_eqIntS.f k bt461.1 bt452.1).bind fun t465 => (if t465 = true then (laws_FnExactTrailOf.j0 k a1 bt452.1 bt452.2 bt461.1 bt461.2 (bt461.2 != bt452.2) a0_0 l0_1 bt456.1 bt456.2) else (laws_FnExactTrailOf.j0 k a1 bt452.1 bt452.2 bt461.1 bt461.2 true a0_0 l0_1 bt456.1 bt456.2))))))))) = some r := h
 clear h
 replace H := Option.bind_eq_some_iff.mp H
 obtain ⟨t447, A30, H⟩ := H
 replace H : (if t447 < 0 then (some true) else ((laws_toNet.f k a0_0 l0_1).bind fun bt448 => ((spec_TrailOf.f k bt448.1 bt448.2 a1).bind fun bt452 => ((laws_toNet.f k a0_0 l0_1).bind fun bt456 => ((impl_TrailOf.f k bt456.1 bt456.2 a1).bind fun bt461 => ((laws_eqIntS.f k bt461.1 bt452.1).bind fun t465 => (if t465 = true then (laws_FnExactTrailOf.j0 k a1 bt452.1 bt452.2 bt461.1 bt461.2 (bt461.2 != bt452.2) a0_0 l0_1 bt456.1 bt456.2) else (laws_FnExactTrailOf.j0 k a1 bt452.1 bt452.2 bt461.1 bt461.2 true a0_0 l0_1 bt456.1 bt456.2)))))))) = some r := H
 have A3 := Aside0.mk A30
 clear A30
 by_cases c4 : t447 < 0
 ·rw [if_pos c4] at H
  have c4b0 : decide (t447 < 0) = true := decide_eq_true c4
  clear c4
  obtain rfl := Option.some.inj H
  go_enter Try.func5, Try.ntmps5
  go_wp2_with (first | ((with_reducible refine gate_dst (N := 2) rfl ?_); refine G.be 2 #[.int .i64 a0_0, .slice A0_1 l0_1.length c0_1] 24 ?_; intro gb446 hg w5 hbox hb; have n0_ := Aside0.mk (below_step (G.cB HB.out) hb); have n1_ := Aside0.mk (hbox); have n2_ := Aside0.mk ((c31_11 : w.heap.size ≤ gb446)); have n3_ := Aside0.mk ((c31_11 : w.heap.size ≤ gb446)); clear HB; revert n0_ n1_ n2_ n3_; intro HB BK446 GW446 GE446; clear hb hbox hg; have hcz6_0 : w5.cell? ⟨gb446, 0, none⟩ = some (.int .i64 a0_0) := (blk_cell BK446.out 0).trans rfl; have hcz6_1 : w5.cell? ⟨gb446, 1, none⟩ = some (.slice A0_1 l0_1.length c0_1) := (blk_cell BK446.out 1).trans rfl; have hfz6_0 := blk_frozen BK446.out 0; have hfz6_1 := blk_frozen BK446.out 1) | ((with_reducible refine gate_callee (f := 14) rfl ?_); refine goesL_ (some 18) rfl rfl Try.func14 (c31_12) rfl #[.agg #[.int .i64 a0_0, .slice A0_1 l0_1.length c0_1], .int .i64 1048576] rfl (G.ar) ?_; (with_reducible refine (laws_szNet.calls a0_0 _ _ l0_1 1048576 t447 _ ?side1 ?side2 A3.out).mono ?_); (case side1 => repeat (first | exact (Kd.C_below HR0_1.out HB.out) | (with_reducible refine Kd.C_alloc ?_ _) | (with_reducible refine Kd.C_drewN ?_ _) | (with_reducible refine Kd.C_drew ?_))); (case side2 => exact HC0_1.out); rintro e w7 ⟨rfl, hb⟩; refine ⟨_, rfl, ?_⟩; have n0_ := Aside0.mk (blk_below (g := gb446) (o := .cells #[.int .i64 a0_0, .slice A0_1 l0_1.length c0_1] 24 (0, 0)) (G.cb BK446.out) hb); have n1_ := Aside0.mk (below_step (G.cB HB.out) hb); clear BK446 HB; revert n0_ n1_; intro BK446 HB; (try clear hb); (try clear hb2); (try clear hk); (try clear hi)))
  go_ret
  exact ⟨c31_9, G.cB HB.out⟩
 ·rw [if_neg c4] at H
  have c4b0 : decide (t447 < 0) = false := decide_eq_false c4
  clear c4
  replace H := Option.bind_eq_some_iff.mp H
  obtain ⟨⟨t448, t449⟩, A80, H⟩ := H
  replace H : ((spec_TrailOf.f k t448 t449 a1).bind fun bt452 => ((laws_toNet.f k a0_0 l0_1).bind fun bt456 => ((impl_TrailOf.f k bt456.1 bt456.2 a1).bind fun bt461 => ((laws_eqIntS.f k bt461.1 bt452.1).bind fun t465 => (if t465 = true then (laws_FnExactTrailOf.j0 k a1 bt452.1 bt452.2 bt461.1 bt461.2 (bt461.2 != bt452.2) a0_0 l0_1 bt456.1 bt456.2) else (laws_FnExactTrailOf.j0 k a1 bt452.1 bt452.2 bt461.1 bt461.2 true a0_0 l0_1 bt456.1 bt456.2)))))) = some r := H
  have A8 := Aside0.mk A80
  clear A80
  replace H := Option.bind_eq_some_iff.mp H
  obtain ⟨⟨t452, t455⟩, A90, H⟩ := H
  replace H : ((laws_toNet.f k a0_0 l0_1).bind fun bt456 => ((impl_TrailOf.f k bt456.1 bt456.2 a1).bind fun bt461 => ((laws_eqIntS.f k bt461.1 t452).bind fun t465 => (if t465 = true then (laws_FnExactTrailOf.j0 k a1 t452 t455 bt461.1 bt461.2 (bt461.2 != t455) a0_0 l0_1 bt456.1 bt456.2) else (laws_FnExactTrailOf.j0 k a1 t452 t455 bt461.1 bt461.2 true a0_0 l0_1 bt456.1 bt456.2))))) = some r := H
  have A9 := Aside0.mk A90
  clear A90
  replace H := Option.bind_eq_some_iff.mp H
  obtain ⟨⟨t456, t457⟩, A100, H⟩ := H
  replace H : ((impl_TrailOf.f k t456 t457 a1).bind fun bt461 => ((laws_eqIntS.f k bt461.1 t452).bind fun t465 => (if t465 = true then (laws_FnExactTrailOf.j0 k a1 t452 t455 bt461.1 bt461.2 (bt461.2 != t455) a0_0 l0_1 t456 t457) else (laws_FnExactTrailOf.j0 k a1 t452 t455 bt461.1 bt461.2 true a0_0 l0_1 t456 t457)))) = some r := H
  have A10 := Aside0.mk A100
  clear A100
  replace H := Option.bind_eq_some_iff.mp H
  obtain ⟨⟨t461, t464⟩, A110, H⟩ := H
  replace H : ((laws_eqIntS.f k t461 t452).bind fun t465 => (if t465 = true then (laws_FnExactTrailOf.j0 k a1 t452 t455 t461 t464 (t464 != t455) a0_0 l0_1 t456 t457) else (laws_FnExactTrailOf.j0 k a1 t452 t455 t461 t464 true a0_0 l0_1 t456 t457))) = some r := H
  have A11 := Aside0.mk A110
  clear A110
  have HC12 := Aside0.mk H
  clear H
  go_enter Try.func5, Try.ntmps5
  go_upto_region 8 with (first | ((with_reducible refine gate_dst (N := 2) rfl ?_); refine G.be 2 #[.int .i64 a0_0, .slice A0_1 l0_1.length c0_1] 24 ?_; intro gb446 hg w13 hbox hb; have n0_ := Aside0.mk (below_step (G.cB HB.out) hb); have n1_ := Aside0.mk (hbox); have n2_ := Aside0.mk ((c31_11 : w.heap.size ≤ gb446)); have n3_ := Aside0.mk ((c31_11 : w.heap.size ≤ gb446)); clear HB; revert n0_ n1_ n2_ n3_; intro HB BK446 GW446 GE446; clear hb hbox hg; have hcz14_0 : w13.cell? ⟨gb446, 0, none⟩ = some (.int .i64 a0_0) := (blk_cell BK446.out 0).trans rfl; have hcz14_1 : w13.cell? ⟨gb446, 1, none⟩ = some (.slice A0_1 l0_1.length c0_1) := (blk_cell BK446.out 1).trans rfl; have hfz14_0 := blk_frozen BK446.out 0; have hfz14_1 := blk_frozen BK446.out 1) | ((with_reducible refine gate_callee (f := 14) rfl ?_); refine goesL_ (some 18) rfl rfl Try.func14 (c31_12) rfl #[.agg #[.int .i64 a0_0, .slice A0_1 l0_1.length c0_1], .int .i64 1048576] rfl (G.ar) ?_; (with_reducible refine (laws_szNet.calls a0_0 _ _ l0_1 1048576 t447 _ ?side1 ?side2 A3.out).mono ?_); (case side1 => repeat (first | exact (Kd.C_below HR0_1.out HB.out) | (with_reducible refine Kd.C_alloc ?_ _) | (with_reducible refine Kd.C_drewN ?_ _) | (with_reducible refine Kd.C_drew ?_))); (case side2 => exact HC0_1.out); rintro e w15 ⟨rfl, hb⟩; refine ⟨_, rfl, ?_⟩; have n0_ := Aside0.mk (blk_below (g := gb446) (o := .cells #[.int .i64 a0_0, .slice A0_1 l0_1.length c0_1] 24 (0, 0)) (G.cb BK446.out) hb); have n1_ := Aside0.mk (below_step (G.cB HB.out) hb); clear BK446 HB; revert n0_ n1_; intro BK446 HB; (try clear hb); (try clear hb2); (try clear hk); (try clear hi); have hcz16_0 : w15.cell? ⟨gb446, 0, none⟩ = some (.int .i64 a0_0) := (blk_cell BK446.out 0).trans rfl; have hcz16_1 : w15.cell? ⟨gb446, 1, none⟩ = some (.slice A0_1 l0_1.length c0_1) := (blk_cell BK446.out 1).trans rfl; have hfz16_0 := blk_frozen BK446.out 0; have hfz16_1 := blk_frozen BK446.out 1) | ((with_reducible refine gate_callee (f := 16) rfl ?_); refine goesL_ (some 23) rfl rfl Try.func16 (c31_12) rfl #[.agg #[.int .i64 a0_0, .slice A0_1 l0_1.length c0_1]] rfl (G.ar) ?_; (with_reducible refine (laws_toNet.calls k a0_0 _ _ l0_1 t448 t449 _ ?side1 ?side2 A8.out).mono ?_); (case side1 => repeat (first | exact (Kd.C_below HR0_1.out HB.out) | (with_reducible refine Kd.C_alloc ?_ _) | (with_reducible refine Kd.C_drewN ?_ _) | (with_reducible refine Kd.C_drew ?_))); (case side2 => exact HC0_1.out); rintro e w17 ⟨v450, rfl, ho0, hb⟩; refine ⟨_, rfl, ?_⟩; have n0_ := Aside0.mk (Kd.R_lower ho0 (below_size (G.cB HB.out))); have n1_ := Aside0.mk (blk_below (g := gb446) (o := .cells #[.int .i64 a0_0, .slice A0_1 l0_1.length c0_1] 24 (0, 0)) (G.cb BK446.out) hb); have n2_ := Aside0.mk (below_step (G.cB HB.out) hb); clear BK446 HB; revert n0_ n1_ n2_; intro HO451 BK446 HB; (try clear hb); (try clear hb2); (try clear hk); (try clear hi); (try clear ho0); obtain ⟨Ao18, co18, eo18⟩ := Kd.R_slice HO451.out; subst eo18) | ((with_reducible refine gate_callee (f := 23) rfl ?_); refine goesL_ (some 25) rfl rfl Try.func23 (c31_12) rfl #[.agg #[.int .i64 t448, .slice Ao18 t449.length co18], .int .i64 a1] rfl (G.ar) ?_; (with_reducible refine (spec_TrailOf.calls k t448 _ _ t449 a1 t452 t455 _ ?side1 ?side2 A9.out).mono ?_); (case side1 => repeat (first | exact (Kd.R_reads' HO451.out).2.2 | (with_reducible refine Kd.C_alloc ?_ _) | (with_reducible refine Kd.C_drewN ?_ _) | (with_reducible refine Kd.C_drew ?_))); (case side2 => exact (Kd.R_reads' HO451.out).2.1); rintro e w19 ⟨v453, rfl, ho0, hb⟩; refine ⟨_, rfl, ?_⟩; have n0_ := Aside0.mk (Kd.R_below (G.cR HO451.out) hb); have n1_ := Aside0.mk (Kd.R_lower ho0 (below_size (G.cB HB.out))); have n2_ := Aside0.mk (blk_below (g := gb446) (o := .cells #[.int .i64 a0_0, .slice A0_1 l0_1.length c0_1] 24 (0, 0)) (G.cb BK446.out) hb); have n3_ := Aside0.mk (below_step (G.cB HB.out) hb); clear HO451 BK446 HB; revert n0_ n1_ n2_ n3_; intro HO451 HO454 BK446 HB; (try clear hb); (try clear hb2); (try clear hk); (try clear hi); (try clear ho0); have hcz20_0 : w19.cell? ⟨gb446, 0, none⟩ = some (.int .i64 a0_0) := (blk_cell BK446.out 0).trans rfl; have hcz20_1 : w19.cell? ⟨gb446, 1, none⟩ = some (.slice A0_1 l0_1.length c0_1) := (blk_cell BK446.out 1).trans rfl; have hfz20_0 := blk_frozen BK446.out 0; have hfz20_1 := blk_frozen BK446.out 1) | ((with_reducible refine gate_callee (f := 16) rfl ?_); refine goesL_ (some 29) rfl rfl Try.func16 (c31_12) rfl #[.agg #[.int .i64 a0_0, .slice A0_1 l0_1.length c0_1]] rfl (G.ar) ?_; (with_reducible refine (laws_toNet.calls k a0_0 _ _ l0_1 t456 t457 _ ?side1 ?side2 A10.out).mono ?_); (case side1 => repeat (first | exact (Kd.C_below HR0_1.out HB.out) | (with_reducible refine Kd.C_alloc ?_ _) | (with_reducible refine Kd.C_drewN ?_ _) | (with_reducible refine Kd.C_drew ?_))); (case side2 => exact HC0_1.out); rintro e w21 ⟨v458, rfl, ho0, hb⟩; refine ⟨_, rfl, ?_⟩; have n0_ := Aside0.mk (Kd.R_elder' (G.cR HO451.out) (Kd.R_base ho0) hb); have n1_ := Aside0.mk (Kd.R_below (G.cR HO454.out) hb); have n2_ := Aside0.mk (Kd.R_lower (Kd.R_new' ho0 (Kd.R_lt (G.cR HO451.out))) (below_size (G.cB HB.out))); have n3_ := Aside0.mk (blk_below (g := gb446) (o := .cells #[.int .i64 a0_0, .slice A0_1 l0_1.length c0_1] 24 (0, 0)) (G.cb BK446.out) hb); have n4_ := Aside0.mk (below_step (G.cB HB.out) hb); clear HO451 HO454 BK446 HB; revert n0_ n1_ n2_ n3_ n4_; intro HO451 HO454 HO459 BK446 HB; (try clear hb); (try clear hb2); (try clear hk); (try clear hi); (try clear ho0)) | ((with_reducible refine gate_dst (N := 8) rfl ?_); refine G.be 8 #[.int .i64 0, .slice none 0 0] 29 ?_; intro gb460 hg w22 hbox hb; have n0_ := Aside0.mk (Kd.R_below (G.cR HO451.out) hb); have n1_ := Aside0.mk (Kd.R_below (G.cR HO454.out) hb); have n2_ := Aside0.mk (Kd.R_below (G.cR HO459.out) hb); have n3_ := Aside0.mk (blk_below (g := gb446) (o := .cells #[.int .i64 a0_0, .slice A0_1 l0_1.length c0_1] 24 (0, 0)) (G.cb BK446.out) hb); have n4_ := Aside0.mk (below_step (G.cB HB.out) hb); have n5_ := Aside0.mk (hbox); have n6_ := Aside0.mk ((c31_11 : w.heap.size ≤ gb460)); have n7_ := Aside0.mk ((c31_11 : w.heap.size ≤ gb460)); have n8_ := Aside0.mk ((by rw [hg]; exact Nat.ne_of_lt (blk_lt (g := gb446) (o := .cells #[.int .i64 a0_0, .slice A0_1 l0_1.length c0_1] 24 (0, 0)) (G.cb BK446.out)) : gb446 ≠ gb460)); have n9_ := Aside0.mk ((by rw [hg]; exact Nat.ne_of_gt (blk_lt (g := gb446) (o := .cells #[.int .i64 a0_0, .slice A0_1 l0_1.length c0_1] 24 (0, 0)) (G.cb BK446.out)) : gb460 ≠ gb446)); clear HO451 HO454 HO459 BK446 HB; revert n0_ n1_ n2_ n3_ n4_ n5_ n6_ n7_ n8_ n9_; intro HO451 HO454 HO459 BK446 HB BK460 GW460 GE460 NB446_460 NB460_446; clear hb hbox hg; have hnb23 := NB460_446.out; have hnc23 := NB446_460.out; have hcz24_0 : w22.cell? ⟨gb460, 0, none⟩ = some (.int .i64 0) := (blk_cell BK460.out 0).trans rfl; have hcz24_1 : w22.cell? ⟨gb460, 1, none⟩ = some (.slice none 0 0) := (blk_cell BK460.out 1).trans rfl; have hfz24_0 := blk_frozen BK460.out 0; have hfz24_1 := blk_frozen BK460.out 1; obtain ⟨Ao25, co25, eo25⟩ := Kd.R_slice HO459.out; subst eo25) | ((with_reducible refine gate_store (t := 29) (p := 8) rfl ?_); refine store_event (t := 29) (p := 8) (v := ?vo_w26) (w1 := ((w22.setCell ⟨gb460, 0, none⟩ (.int .i64 t456)).setCell ⟨gb460, 1, none⟩ (.slice Ao25 t457.length co25))) ?hg ?ho ?hn ?hr ?_; (case ho => rfl); (case hg => rfl); (case hn => rfl); (case hr => first | (go_simp; done) | (go_simp; rfl)); intro w26 hw; have n0_ : Aside0 (Kd.R k63 63 w26 w.heap.size (fun k_ => some k_ ≠ (.slice Ao25 t457.length co25 : Value).ownBlock) (.slice Ao18 t449.length co18) t449) := ⟨(by rw [hw]; exact (by (with_reducible repeat (first | apply Kd.R_alloc | apply Kd.R_drewN | apply Kd.R_drew)); exact Kd.R_mono (Kd.R_far (p := ⟨gb460, 1, none⟩) (Kd.R_far (p := ⟨gb460, 0, none⟩) (Kd.R_types HO451.out BK460.out (by decide)) (fun _ hk => hk.2) (.int .i64 t456)) (fun _ hk => hk.2) (.slice Ao25 t457.length co25)) (fun _ hk => hk.1.2)))⟩; have n1_ : Aside0 (Kd.R (Kd.int .i64) 3 w26 w.heap.size (fun _ => True) v453 t452) := ⟨(by rw [hw]; exact (by (with_reducible repeat (first | apply Kd.R_alloc | apply Kd.R_drewN | apply Kd.R_drew)); exact Kd.R_mono (Kd.R_far (p := ⟨gb460, 1, none⟩) (Kd.R_far (p := ⟨gb460, 0, none⟩) (Kd.R_types HO454.out BK460.out (by decide)) (fun _ hk => hk.2) (.int .i64 t456)) (fun _ hk => hk.2) (.slice Ao25 t457.length co25)) (fun _ hk => trivial)))⟩; have n2_ : Aside0 (Kd.R k63 63 w26 w.heap.size (fun k_ => some k_ ≠ (.slice Ao18 t449.length co18 : Value).ownBlock) (.slice Ao25 t457.length co25) t457) := ⟨(by rw [hw]; exact (by (with_reducible repeat (first | apply Kd.R_alloc | apply Kd.R_drewN | apply Kd.R_drew)); exact Kd.R_mono (Kd.R_far (p := ⟨gb460, 1, none⟩) (Kd.R_far (p := ⟨gb460, 0, none⟩) (Kd.R_types HO459.out BK460.out (by decide)) (fun _ hk => hk.2) (.int .i64 t456)) (fun _ hk => hk.2) (.slice Ao25 t457.length co25)) (fun _ hk => hk.1.2)))⟩; have n3_ : Aside0 (w26.heap[gb446]? = some (.cells #[.int .i64 a0_0, .slice A0_1 l0_1.length c0_1] 24 (0, 0))) := ⟨(by rw [hw]; exact (by (with_reducible repeat (first | refine blk_drewN ?_ _ | refine blk_drew ?_ | refine blk_alloc ?_ _)); refine blk_far ?_ NB446_460.out _; (with_reducible repeat (first | refine blk_drewN ?_ _ | refine blk_drew ?_ | refine blk_alloc ?_ _)); refine blk_far ?_ NB446_460.out _; (with_reducible repeat (first | refine blk_drewN ?_ _ | refine blk_drew ?_ | refine blk_alloc ?_ _)); exact BK446.out))⟩; have n4_ : Aside0 (w26.heap[gb460]? = some (.cells #[.int .i64 t456, .slice Ao25 t457.length co25] 29 (0, 0))) := ⟨(by rw [hw]; exact (by (with_reducible repeat (first | refine blk_drewN ?_ _ | refine blk_drew ?_ | refine blk_alloc ?_ _)); refine blk_put (cs := #[.int .i64 t456, .slice none 0 0]) ?_ 1 _ rfl; (with_reducible repeat (first | refine blk_drewN ?_ _ | refine blk_drew ?_ | refine blk_alloc ?_ _)); refine blk_put (cs := #[.int .i64 0, .slice none 0 0]) ?_ 0 _ rfl; (with_reducible repeat (first | refine blk_drewN ?_ _ | refine blk_drew ?_ | refine blk_alloc ?_ _)); exact BK460.out))⟩; have n5_ : Aside0 (Below w.heap.size w w26) := ⟨(by rw [hw]; exact (G.cB HB.out))⟩; clear hw HO451 HO454 HO459 BK446 BK460 HB; revert n0_ n1_ n2_ n3_ n4_ n5_; intro HO451 HO454 HO459 BK446 BK460 HB; have hcz27_0 : w26.cell? ⟨gb460, 0, none⟩ = some (.int .i64 t456) := (blk_cell BK460.out 0).trans rfl; have hcz27_1 : w26.cell? ⟨gb460, 1, none⟩ = some (.slice Ao25 t457.length co25) := (blk_cell BK460.out 1).trans rfl; have hfz27_0 := blk_frozen BK460.out 0; have hfz27_1 := blk_frozen BK460.out 1) | ((with_reducible refine gate_callee (f := 24) rfl ?_); refine goesL_ (some 33) rfl rfl Try.func24 (c31_12) rfl #[.agg #[.int .i64 t456, .slice Ao25 t457.length co25], .int .i64 a1] rfl (G.ar) ?_; (with_reducible refine (impl_TrailOf.calls k t456 (fun k_ => some k_ = (.slice Ao25 t457.length co25 : Value).ownBlock) _ _ t457 a1 t461 t464 _ ?side1 A11.out).mono ?_); (case side1 => exact Kd.R_V (Kd.R_tight rfl (Kd.R_types (Kd.R_types (Kd.R_apart' (HO459.out) (Kd.R_typed HO454.out) (by decide)) BK446.out (by decide)) BK460.out (by decide)))); rintro e w28 ⟨v462, rfl, ho0, hb⟩; refine ⟨_, rfl, ?_⟩; have n0_ := Aside0.mk (Kd.R_below (G.cR HO451.out) hb); have n1_ := Aside0.mk (Kd.R_elder' (G.cR HO454.out) (Kd.R_base ho0) hb); have n2_ := Aside0.mk (Kd.R_below (G.cR HO459.out) hb); have n3_ := Aside0.mk (Kd.R_lower (Kd.R_new' (Kd.R_mono (ok' := fun k_ => True) ho0 (fun _ hk_ => trivial)) (Kd.R_lt (G.cR HO454.out))) (below_size (G.cB HB.out))); have n4_ := Aside0.mk (blk_below (g := gb446) (o := .cells #[.int .i64 a0_0, .slice A0_1 l0_1.length c0_1] 24 (0, 0)) (G.cb BK446.out) hb); have n5_ := Aside0.mk (blk_below (g := gb460) (o := .cells #[.int .i64 t456, .slice Ao25 t457.length co25] 29 (0, 0)) (G.cb BK460.out) hb); have n6_ := Aside0.mk (below_step (G.cB HB.out) hb); clear HO451 HO454 HO459 BK446 BK460 HB; revert n0_ n1_ n2_ n3_ n4_ n5_ n6_; intro HO451 HO454 HO459 HO463 BK446 BK460 HB; (try clear hb); (try clear hb2); (try clear hk); (try clear hi); (try clear ho0)))
  (try simp only [Act.put, List.setIfInBounds_toArray, List.set_cons_zero, List.set_cons_succ])
  go_cut [44] (fun v44 wc => ∃ (kq : Nat) (x44_11 : Bool), v44 = .bool x44_11 ∧ Aside0 (laws_FnExactTrailOf.j0 kq a1 t452 t455 t461 t464 x44_11 a0_0 l0_1 t456 t457 = some r) ∧ Aside0 (kq ≤ k) ∧ Aside0 (Kd.R (Kd.int .i64) 3 wc w.heap.size (fun k_ => some k_ ≠ (v462 : Value).ownBlock) v453 t452) ∧ Aside0 (Kd.R (Kd.int .i64) 3 wc w.heap.size (fun k_ => some k_ ≠ (v453 : Value).ownBlock) v462 t461) ∧ Aside0 (Kd.R k63 63 wc w.heap.size (fun _ => True) (.slice Ao25 t457.length co25) t457) ∧ Aside0 (wc.heap[gb446]? = some (.cells #[.int .i64 a0_0, (.slice A0_1 l0_1.length c0_1)] 24 (0, 0))) ∧ Aside0 (wc.heap[gb460]? = some (.cells #[.int .i64 t456, (.slice Ao25 t457.length co25)] 29 (0, 0))) ∧ Aside0 (Below w.heap.size w wc))
  case first =>
   have H := HC12.out
   clear HC12
   replace H := Option.bind_eq_some_iff.mp H
   obtain ⟨t465, A290, H⟩ := H
   replace H : (if t465 = true then (laws_FnExactTrailOf.j0 k a1 t452 t455 t461 t464 (t464 != t455) a0_0 l0_1 t456 t457) else (laws_FnExactTrailOf.j0 k a1 t452 t455 t461 t464 true a0_0 l0_1 t456 t457)) = some r := H
   have A29 := Aside0.mk A290
   clear A290
   by_cases c30 : t465 = true
   ·subst c30
    have H1 : (laws_FnExactTrailOf.j0 k a1 t452 t455 t461 t464 (t464 != t455) a0_0 l0_1 t456 t457) = some r := by rw [if_pos rfl] at H; exact H
    clear H
    have H := H1
    clear H1
    have H' := Aside0.mk H
    clear H
    obtain ⟨Ao31, co31, eo31⟩ := Kd.R_slice HO463.out
    subst eo31
    obtain ⟨Ao32, co32, eo32⟩ := Kd.R_slice HO454.out
    subst eo32
    go_wp2_with (first | ((with_reducible refine gate_callee (f := 22) rfl ?_); refine goesL_ (some 38) rfl rfl Try.func22 (c31_12) rfl #[.slice Ao31 t461.length co31, .slice Ao32 t452.length co32] rfl (G.ar) ?_; (with_reducible refine (laws_eqIntS.calls k _ _ t461 _ _ t452 true _ ?side1 ?side2 ?side3 ?side4 A29.out).mono ?_); (case side1 => repeat (first | exact (Kd.R_reads' HO463.out).2.2 | (with_reducible refine Kd.C_alloc ?_ _) | (with_reducible refine Kd.C_drewN ?_ _) | (with_reducible refine Kd.C_drew ?_))); (case side2 => exact (Kd.R_reads' HO463.out).2.1); (case side3 => repeat (first | exact (Kd.R_reads' HO454.out).2.2 | (with_reducible refine Kd.C_alloc ?_ _) | (with_reducible refine Kd.C_drewN ?_ _) | (with_reducible refine Kd.C_drew ?_))); (case side4 => exact (Kd.R_reads' HO454.out).2.1); rintro e w' ⟨rfl, ⟨nd, rfl⟩⟩; refine ⟨_, rfl, ?_⟩))
    go_meet
    case rel => exact ⟨_, ((t464 != t455)), (c31_10), H', ⟨by first | omega | exact Nat.le_refl _⟩, ⟨c31_7⟩, ⟨c31_8⟩, ⟨c31_6⟩, ⟨G.cb BK446.out⟩, ⟨G.cb BK460.out⟩, ⟨G.cB HB.out⟩⟩
   ·replace c30 := Bool.eq_false_iff.mpr c30
    subst c30
    have H1 : (laws_FnExactTrailOf.j0 k a1 t452 t455 t461 t464 true a0_0 l0_1 t456 t457) = some r := by rw [if_neg (show ¬ (false = true) by decide)] at H; exact H
    clear H
    have H := H1
    clear H1
    have H' := Aside0.mk H
    clear H
    obtain ⟨Ao33, co33, eo33⟩ := Kd.R_slice HO463.out
    subst eo33
    obtain ⟨Ao34, co34, eo34⟩ := Kd.R_slice HO454.out
    subst eo34
    go_wp2_with (first | ((with_reducible refine gate_callee (f := 22) rfl ?_); refine goesL_ (some 38) rfl rfl Try.func22 (c31_12) rfl #[.slice Ao33 t461.length co33, .slice Ao34 t452.length co34] rfl (G.ar) ?_; (with_reducible refine (laws_eqIntS.calls k _ _ t461 _ _ t452 false _ ?side1 ?side2 ?side3 ?side4 A29.out).mono ?_); (case side1 => repeat (first | exact (Kd.R_reads' HO463.out).2.2 | (with_reducible refine Kd.C_alloc ?_ _) | (with_reducible refine Kd.C_drewN ?_ _) | (with_reducible refine Kd.C_drew ?_))); (case side2 => exact (Kd.R_reads' HO463.out).2.1); (case side3 => repeat (first | exact (Kd.R_reads' HO454.out).2.2 | (with_reducible refine Kd.C_alloc ?_ _) | (with_reducible refine Kd.C_drewN ?_ _) | (with_reducible refine Kd.C_drew ?_))); (case side4 => exact (Kd.R_reads' HO454.out).2.1); rintro e w' ⟨rfl, ⟨nd, rfl⟩⟩; refine ⟨_, rfl, ?_⟩))
    go_meet
    case rel => exact ⟨_, (true), (c31_10), H', ⟨by first | omega | exact Nat.le_refl _⟩, ⟨c31_7⟩, ⟨c31_8⟩, ⟨c31_6⟩, ⟨G.cb BK446.out⟩, ⟨G.cb BK460.out⟩, ⟨G.cB HB.out⟩⟩
  case rest =>
   clear HC12
   (try clear c1); (try clear c2); (try clear p2); (try clear c3); (try clear c4); (try clear c4b0); (try clear c5); (try clear c14); (try clear c16); (try clear c22); (try clear c23); (try clear c24); (try clear c30); (try clear hcz14_0); (try clear hcz14_1); (try clear hcz16_0); (try clear hcz16_1); (try clear hcz20_0); (try clear hcz20_1); (try clear hcz24_0); (try clear hcz24_1); (try clear hcz27_0); (try clear hcz27_1); (try clear hcz6_0); (try clear hcz6_1); (try clear hfz14_0); (try clear hfz14_1); (try clear hfz16_0); (try clear hfz16_1); (try clear hfz20_0); (try clear hfz20_1); (try clear hfz24_0); (try clear hfz24_1); (try clear hfz27_0); (try clear hfz27_1); (try clear hfz6_0); (try clear hfz6_1)
   obtain ⟨kq, x44_11, rfl, HA, HJ11, HO_6, HO_9, HO_461001, BK446, BK460, HB⟩ := hcut
   cases kq with
   | zero => exact absurd HA.out (by simp [laws_FnExactTrailOf.j0])
   | succ kj11 =>
    have H := HA.out
    clear HA
    simp only [laws_FnExactTrailOf.j0] at H
    by_cases c35 : x44_11 = true
    ·subst c35
     have H1 : (some false) = some r := by rw [if_pos rfl] at H; exact H
     clear H
     have H := H1
     clear H1
     obtain rfl := Option.some.inj H
     go_wp2
     go_ret
     exact ⟨c31_9, G.cB HB.out⟩
    ·replace c35 := Bool.eq_false_iff.mpr c35
     subst c35
     have H1 : ((laws_toNet.f kj11 a0_0 l0_1).bind fun bt466 => ((laws_eqNet.f kj11 t456 t457 bt466.1 bt466.2).bind fun t470 => (if t470 = true then ((laws_markNet.f kj11 t456 t457 1).bind fun bt471 => (if bt471.1 < 0 then (laws_FnExactTrailOf.j1 kj11 a1 t452 t455 t461 true a0_0 l0_1) else ((laws_eqIntS.f kj11 t461 t452).bind fun t473 => (if t473 = true then (laws_FnExactTrailOf.j1 kj11 a1 t452 t455 t461 (t464 != t455) a0_0 l0_1) else (laws_FnExactTrailOf.j1 kj11 a1 t452 t455 t461 true a0_0 l0_1))))) else (some false)))) = some r := by rw [if_neg (show ¬ (false = true) by decide)] at H; exact H
     clear H
     have H := H1
     clear H1
     replace H := Option.bind_eq_some_iff.mp H
     obtain ⟨⟨t466, t467⟩, A360, H⟩ := H
     replace H : ((laws_eqNet.f kj11 t456 t457 t466 t467).bind fun t470 => (if t470 = true then ((laws_markNet.f kj11 t456 t457 1).bind fun bt471 => (if bt471.1 < 0 then (laws_FnExactTrailOf.j1 kj11 a1 t452 t455 t461 true a0_0 l0_1) else ((laws_eqIntS.f kj11 t461 t452).bind fun t473 => (if t473 = true then (laws_FnExactTrailOf.j1 kj11 a1 t452 t455 t461 (t464 != t455) a0_0 l0_1) else (laws_FnExactTrailOf.j1 kj11 a1 t452 t455 t461 true a0_0 l0_1))))) else (some false))) = some r := H
     have A36 := Aside0.mk A360
     clear A360
     replace H := Option.bind_eq_some_iff.mp H
     obtain ⟨t470, A370, H⟩ := H
     replace H : (if t470 = true then ((laws_markNet.f kj11 t456 t457 1).bind fun bt471 => (if bt471.1 < 0 then (laws_FnExactTrailOf.j1 kj11 a1 t452 t455 t461 true a0_0 l0_1) else ((laws_eqIntS.f kj11 t461 t452).bind fun t473 => (if t473 = true then (laws_FnExactTrailOf.j1 kj11 a1 t452 t455 t461 (t464 != t455) a0_0 l0_1) else (laws_FnExactTrailOf.j1 kj11 a1 t452 t455 t461 true a0_0 l0_1))))) else (some false)) = some r := H
     have A37 := Aside0.mk A370
     clear A370
     by_cases c38 : t470 = true
     ·subst c38
      have H1 : ((laws_markNet.f kj11 t456 t457 1).bind fun bt471 => (if bt471.1 < 0 then (laws_FnExactTrailOf.j1 kj11 a1 t452 t455 t461 true a0_0 l0_1) else ((laws_eqIntS.f kj11 t461 t452).bind fun t473 => (if t473 = true then (laws_FnExactTrailOf.j1 kj11 a1 t452 t455 t461 (t464 != t455) a0_0 l0_1) else (laws_FnExactTrailOf.j1 kj11 a1 t452 t455 t461 true a0_0 l0_1))))) = some r := by rw [if_pos rfl] at H; exact H
      clear H
      have H := H1
      clear H1
      replace H := Option.bind_eq_some_iff.mp H
      obtain ⟨⟨t471, t472⟩, A390, H⟩ := H
      replace H : (if t471 < 0 then (laws_FnExactTrailOf.j1 kj11 a1 t452 t455 t461 true a0_0 l0_1) else ((laws_eqIntS.f kj11 t461 t452).bind fun t473 => (if t473 = true then (laws_FnExactTrailOf.j1 kj11 a1 t452 t455 t461 (t464 != t455) a0_0 l0_1) else (laws_FnExactTrailOf.j1 kj11 a1 t452 t455 t461 true a0_0 l0_1)))) = some r := H
      have A39 := Aside0.mk A390
      clear A390
      have HC40 := Aside0.mk H
      clear H
      try go_wp2
      have n0_ := Aside0.mk (Kd.R_drew HO_6.out)
      have n1_ := Aside0.mk (Kd.R_drew HO_9.out)
      have n2_ := Aside0.mk (Kd.R_drew HO_461001.out)
      have n3_ := Aside0.mk (blk_drew BK446.out)
      have n4_ := Aside0.mk (blk_drew BK460.out)
      have n5_ := Aside0.mk (below_drew1 HB.out)
      clear HO_6 HO_9 HO_461001 BK446 BK460 HB
      revert n0_ n1_ n2_ n3_ n4_ n5_
      intro HO_6 HO_9 HO_461001 BK446 BK460 HB
      refine start_ (n := 5) (S := fun w' => w'.cell? ⟨gb460, 0, none⟩ = some (.int .i64 t456) ∧ w'.cell? ⟨gb460, 1, none⟩ = some (.slice Ao25 t457.length co25) ∧ w'.cell? ⟨gb446, 0, none⟩ = some (.int .i64 a0_0) ∧ w'.cell? ⟨gb446, 1, none⟩ = some (.slice A0_1 l0_1.length c0_1)) (ds := []) (G.fl 5 0) (c31_12) rfl (c31_12) ⟨(blk_cell BK460.out 0).trans rfl, (blk_cell BK460.out 1).trans rfl, (blk_cell BK446.out 0).trans rfl, (blk_cell BK446.out 1).trans rfl⟩ (fun hHeld => ?_)
      generalize wc.drew = w41 at HO_6 HO_9 HO_461001 BK446 BK460 HB hHeld ⊢
      refine G.ta4 0 (some 45) (G.fl 5 1) ?_
      refine G.ta4 1 (some 46) (G.fl 5 3) ?_
      refine one_ (i := 2) (N := some 47) (G.fl 5 7) rfl rfl (c31_12) (by decide) (fun K hK => ?_)
      refine goes_ Try.func16 (c31_12) rfl #[.agg #[.int .i64 a0_0, .slice A0_1 l0_1.length c0_1]] (by rfl) rfl rfl (G.ar) ?_
      with_reducible refine (laws_toNet.calls kj11 a0_0 _ _ l0_1 t466 t467 _ ?side1 ?side2 A36.out).mono ?_
      (case side1 => repeat (first | exact (Kd.C_below HR0_1.out HB.out) | (with_reducible refine Kd.C_alloc ?_ _) | (with_reducible refine Kd.C_drewN ?_ _) | (with_reducible refine Kd.C_drew ?_)))
      (case side2 => exact HC0_1.out)
      rintro e w42 ⟨v468, rfl, ho0, hb⟩
      refine ⟨_, rfl, ?_⟩
      have n0_ := Aside0.mk (Kd.R_below (G.cR HO_6.out) hb)
      have n1_ := Aside0.mk (Kd.R_below (G.cR HO_9.out) hb)
      have n2_ := Aside0.mk (Kd.R_elder' (G.cR HO_461001.out) (Kd.R_base ho0) hb)
      have n3_ := Aside0.mk (Kd.R_lower (Kd.R_new' ho0 (Kd.R_lt (G.cR HO_461001.out))) (below_size (G.cB HB.out)))
      have n4_ := Aside0.mk (blk_below (g := gb446) (o := .cells #[.int .i64 a0_0, .slice A0_1 l0_1.length c0_1] 24 (0, 0)) (G.cb BK446.out) hb)
      have n5_ := Aside0.mk (blk_below (g := gb460) (o := .cells #[.int .i64 t456, .slice Ao25 t457.length co25] 29 (0, 0)) (G.cb BK460.out) hb)
      have n6_ := Aside0.mk (below_step (G.cB HB.out) hb)
      clear HO_6 HO_9 HO_461001 BK446 BK460 HB
      revert n0_ n1_ n2_ n3_ n4_ n5_ n6_
      intro HO_6 HO_9 HO_461001 HO469 BK446 BK460 HB
      (try clear hb)
      (try clear hb2)
      (try clear hk)
      (try clear hi)
      (try clear ho0)
      obtain ⟨Ao43, co43, eo43⟩ := Kd.R_slice HO469.out
      (first | subst eo43 | (injection eo43 with f1_ f2_ f3_; have f4_ := f1_.symm; have f5_ := f3_.symm; clear f1_ f2_ f3_; subst f4_; subst f5_))
      refine hK.out _ _ ⟨(blk_cell BK460.out 0).trans rfl, (blk_cell BK460.out 1).trans rfl, (blk_cell BK446.out 0).trans rfl, (blk_cell BK446.out 1).trans rfl⟩ (fun hHeld => ?_)
      clear hK K
      refine G.no (some 47) ?_
      refine one_ (i := 3) (N := some 48) (G.fl 5 15) rfl rfl (c31_12) (by decide) (fun K hK => ?_)
      refine goes_ Try.func18 (c31_12) rfl #[.agg #[.int .i64 t456, .slice Ao25 t457.length co25], .agg #[.int .i64 t466, .slice Ao43 t467.length co43]] (by rfl) rfl rfl (G.ar) ?_
      with_reducible refine (laws_eqNet.calls kj11 t456 _ _ t457 t466 _ _ t467 true _ ?side1 ?side2 ?side3 ?side4 A37.out).mono ?_
      (case side1 => repeat (first | exact (Kd.R_reads' HO_461001.out).2.2 | (with_reducible refine Kd.C_alloc ?_ _) | (with_reducible refine Kd.C_drewN ?_ _) | (with_reducible refine Kd.C_drew ?_)))
      (case side2 => exact (Kd.R_reads' HO_461001.out).2.1)
      (case side3 => repeat (first | exact (Kd.R_reads' HO469.out).2.2 | (with_reducible refine Kd.C_alloc ?_ _) | (with_reducible refine Kd.C_drewN ?_ _) | (with_reducible refine Kd.C_drew ?_)))
      (case side4 => exact (Kd.R_reads' HO469.out).2.1)
      rintro e w44 ⟨rfl, hb⟩
      refine ⟨_, rfl, ?_⟩
      have n0_ := Aside0.mk (Kd.R_below (G.cR HO_6.out) hb)
      have n1_ := Aside0.mk (Kd.R_below (G.cR HO_9.out) hb)
      have n2_ := Aside0.mk (Kd.R_below (G.cR HO_461001.out) hb)
      have n3_ := Aside0.mk (Kd.R_below (G.cR HO469.out) hb)
      have n4_ := Aside0.mk (blk_below (g := gb446) (o := .cells #[.int .i64 a0_0, .slice A0_1 l0_1.length c0_1] 24 (0, 0)) (G.cb BK446.out) hb)
      have n5_ := Aside0.mk (blk_below (g := gb460) (o := .cells #[.int .i64 t456, .slice Ao25 t457.length co25] 29 (0, 0)) (G.cb BK460.out) hb)
      have n6_ := Aside0.mk (below_step (G.cB HB.out) hb)
      clear HO_6 HO_9 HO_461001 HO469 BK446 BK460 HB
      revert n0_ n1_ n2_ n3_ n4_ n5_ n6_
      intro HO_6 HO_9 HO_461001 HO469 BK446 BK460 HB
      (try clear hb)
      (try clear hb2)
      (try clear hk)
      (try clear hi)
      refine hK.out _ _ ⟨(blk_cell BK460.out 0).trans rfl, (blk_cell BK460.out 1).trans rfl, (blk_cell BK446.out 0).trans rfl, (blk_cell BK446.out 1).trans rfl⟩ (fun hHeld => ?_)
      clear hK K
      refine G.no (some 48) ?_
      refine G.pu 4 (some 49) (G.fl 5 31) ?_
      refine done_ (c31_12) ?_
      have hnb45 := NB460_446.out
      have hnc45 := NB446_460.out
      have hcz46_0 : w44.cell? ⟨gb460, 0, none⟩ = some (.int .i64 t456) := (blk_cell BK460.out 0).trans rfl
      have hcz46_1 : w44.cell? ⟨gb460, 1, none⟩ = some (.slice Ao25 t457.length co25) := (blk_cell BK460.out 1).trans rfl
      have hfz46_0 := blk_frozen BK460.out 0
      have hfz46_1 := blk_frozen BK460.out 1
      go_upto_region 14 with (first | ((with_reducible refine gate_callee (f := 25) rfl ?_); refine goesL_ (some 52) rfl rfl Try.func25 (c31_12) rfl #[.agg #[.int .i64 t456, .slice Ao25 t457.length co25], .int .i64 1] rfl (G.ar) ?_; (with_reducible refine (laws_markNet.calls kj11 t456 (fun k_ => some k_ = (.slice Ao25 t457.length co25 : Value).ownBlock) (.slice Ao25 t457.length co25) t457 1 t471 t472 w _ ?side1 ?side2 A39.out).mono ?_); (case side1 => exact G.cB HB.out); (case side2 => exact Kd.R_tight rfl HO_461001.out); rintro e w47 ⟨rfl, hy0, hb, hkp⟩; refine ⟨_, rfl, ?_⟩; have n0_ := Aside0.mk (Kd.R_mono (ok' := fun k_ => some k_ ≠ (v462 : Value).ownBlock) (Kd.R_keptB ((Kd.R_apart' HO_6.out (Kd.R_typed HO_461001.out) (by decide))) hkp (fun k_ hk_ hs_ => (hk_.2) hs_)) (fun k_ hk_ => hk_.1.1)); have n1_ := Aside0.mk (Kd.R_mono (ok' := fun k_ => some k_ ≠ (v453 : Value).ownBlock) (Kd.R_keptB ((Kd.R_apart' HO_9.out (Kd.R_typed HO_461001.out) (by decide))) hkp (fun k_ hk_ hs_ => (hk_.2) hs_)) (fun k_ hk_ => hk_.1.1)); have n2_ := Aside0.mk (Kd.R_reok rfl hy0 (fun k_ e_ => HO_461001.out.1 k_ e_)); have n3_ := Aside0.mk (blk_kept (G.cb BK446.out) hkp (fun hs_ => (fun e_ => (Kd.R_ne HO_461001.out BK446.out (by decide)) e_) hs_)); have n4_ := Aside0.mk (blk_kept (G.cb BK460.out) hkp (fun hs_ => (fun e_ => (Kd.R_ne HO_461001.out BK460.out (by decide)) e_) hs_)); have n5_ := Aside0.mk (Kd.R_mono (ok' := fun k_ => some k_ ≠ (.slice Ao25 t457.length co25 : Value).ownBlock) (Kd.R_keptB (HO469.out) hkp (fun k_ hk_ hs_ => (hk_.2) hs_)) (fun k_ hk_ => hk_.1.2)); have n6_ := Aside0.mk (hb); clear HO_6 HO_9 HO_461001 BK446 BK460 HO469 HB; revert n0_ n1_ n2_ n3_ n4_ n5_ n6_; intro HO_6 HO_9 HO_461001 BK446 BK460 HO469 HB; (try clear hb); (try clear hkp); (try clear hy0)))
      (try simp only [Act.put, List.setIfInBounds_toArray, List.set_cons_zero, List.set_cons_succ])
      go_cut [65] (fun v65 wc => ∃ (kq : Nat) (x65_39 : Bool), v65 = .bool x65_39 ∧ Aside0 (laws_FnExactTrailOf.j1 kq a1 t452 t455 t461 x65_39 a0_0 l0_1 = some r) ∧ Aside0 (kq ≤ kj11) ∧ Aside0 (Kd.R (Kd.int .i64) 3 wc w.heap.size (fun k_ => some k_ ≠ (v462 : Value).ownBlock) v453 t452) ∧ Aside0 (Kd.R (Kd.int .i64) 3 wc w.heap.size (fun k_ => some k_ ≠ (v453 : Value).ownBlock) v462 t461) ∧ Aside0 (Kd.R k63 63 wc w.heap.size (fun _ => True) (.slice Ao25 t457.length co25) t472) ∧ Aside0 (wc.heap[gb446]? = some (.cells #[.int .i64 a0_0, (.slice A0_1 l0_1.length c0_1)] 24 (0, 0))) ∧ Aside0 (wc.heap[gb460]? = some (.cells #[.int .i64 t456, (.slice Ao25 t457.length co25)] 29 (0, 0))) ∧ Aside0 (Below w.heap.size w wc))
      case first =>
       have H := HC40.out
       clear HC40
       by_cases c48 : t471 < 0
       ·rw [if_pos c48] at H
        have c48b0 : decide (t471 < 0) = true := decide_eq_true c48
        clear c48
        (first | rw [c48b0] | (simp only [i64_w, i32_w]; rw [c48b0]) | skip)
        have H' := Aside0.mk H
        clear H
        go_wp2
        go_meet
        case rel => exact ⟨_, (true), (c31_10), H', ⟨by have := HJ11.out; first | omega | exact Nat.le_refl _⟩, ⟨G.cR HO_6.out⟩, ⟨G.cR HO_9.out⟩, ⟨c31_5⟩, ⟨G.cb BK446.out⟩, ⟨G.cb BK460.out⟩, ⟨G.cB HB.out⟩⟩
       ·rw [if_neg c48] at H
        have c48b0 : decide (t471 < 0) = false := decide_eq_false c48
        clear c48
        (first | rw [c48b0] | (simp only [i64_w, i32_w]; rw [c48b0]) | skip)
        replace H := Option.bind_eq_some_iff.mp H
        obtain ⟨t473, A490, H⟩ := H
        replace H : (if t473 = true then (laws_FnExactTrailOf.j1 kj11 a1 t452 t455 t461 (t464 != t455) a0_0 l0_1) else (laws_FnExactTrailOf.j1 kj11 a1 t452 t455 t461 true a0_0 l0_1)) = some r := H
        have A49 := Aside0.mk A490
        clear A490
        by_cases c50 : t473 = true
        ·subst c50
         have H1 : (laws_FnExactTrailOf.j1 kj11 a1 t452 t455 t461 (t464 != t455) a0_0 l0_1) = some r := by rw [if_pos rfl] at H; exact H
         clear H
         have H := H1
         clear H1
         have H' := Aside0.mk H
         clear H
         obtain ⟨Ao51, co51, eo51⟩ := Kd.R_slice HO_9.out
         subst eo51
         obtain ⟨Ao52, co52, eo52⟩ := Kd.R_slice HO_6.out
         subst eo52
         go_wp2_with (first | (go_at_call 22; (with_reducible refine (laws_eqIntS.calls kj11 _ _ t461 _ _ t452 true _ ?side1 ?side2 ?side3 ?side4 A49.out).mono ?_); (case side1 => repeat (first | exact (Kd.R_reads' HO_9.out).2.2 | (with_reducible refine Kd.C_alloc ?_ _) | (with_reducible refine Kd.C_drewN ?_ _) | (with_reducible refine Kd.C_drew ?_))); (case side2 => exact (Kd.R_reads' HO_9.out).2.1); (case side3 => repeat (first | exact (Kd.R_reads' HO_6.out).2.2 | (with_reducible refine Kd.C_alloc ?_ _) | (with_reducible refine Kd.C_drewN ?_ _) | (with_reducible refine Kd.C_drew ?_))); (case side4 => exact (Kd.R_reads' HO_6.out).2.1); rintro e w' ⟨rfl, ⟨nd, rfl⟩⟩))
         go_meet
         case rel => exact ⟨_, ((t464 != t455)), (c31_10), H', ⟨by have := HJ11.out; first | omega | exact Nat.le_refl _⟩, ⟨G.cR HO_6.out⟩, ⟨G.cR HO_9.out⟩, ⟨c31_5⟩, ⟨G.cb BK446.out⟩, ⟨G.cb BK460.out⟩, ⟨G.cB HB.out⟩⟩
        ·replace c50 := Bool.eq_false_iff.mpr c50
         subst c50
         have H1 : (laws_FnExactTrailOf.j1 kj11 a1 t452 t455 t461 true a0_0 l0_1) = some r := by rw [if_neg (show ¬ (false = true) by decide)] at H; exact H
         clear H
         have H := H1
         clear H1
         have H' := Aside0.mk H
         clear H
         obtain ⟨Ao53, co53, eo53⟩ := Kd.R_slice HO_9.out
         subst eo53
         obtain ⟨Ao54, co54, eo54⟩ := Kd.R_slice HO_6.out
         subst eo54
         go_wp2_with (first | (go_at_call 22; (with_reducible refine (laws_eqIntS.calls kj11 _ _ t461 _ _ t452 false _ ?side1 ?side2 ?side3 ?side4 A49.out).mono ?_); (case side1 => repeat (first | exact (Kd.R_reads' HO_9.out).2.2 | (with_reducible refine Kd.C_alloc ?_ _) | (with_reducible refine Kd.C_drewN ?_ _) | (with_reducible refine Kd.C_drew ?_))); (case side2 => exact (Kd.R_reads' HO_9.out).2.1); (case side3 => repeat (first | exact (Kd.R_reads' HO_6.out).2.2 | (with_reducible refine Kd.C_alloc ?_ _) | (with_reducible refine Kd.C_drewN ?_ _) | (with_reducible refine Kd.C_drew ?_))); (case side4 => exact (Kd.R_reads' HO_6.out).2.1); rintro e w' ⟨rfl, ⟨nd, rfl⟩⟩))
         go_meet
         case rel => exact ⟨_, (true), (c31_10), H', ⟨by have := HJ11.out; first | omega | exact Nat.le_refl _⟩, ⟨G.cR HO_6.out⟩, ⟨G.cR HO_9.out⟩, ⟨c31_5⟩, ⟨G.cb BK446.out⟩, ⟨G.cb BK460.out⟩, ⟨G.cB HB.out⟩⟩
      case rest =>
       clear HC40
       (try clear c1); (try clear c2); (try clear p2); (try clear c3); (try clear c4); (try clear c4b0); (try clear c5); (try clear c14); (try clear c16); (try clear c18); (try clear c22); (try clear c23); (try clear c24); (try clear c25); (try clear c30); (try clear c35); (try clear c38); (try clear c45); (try clear c48); (try clear c48b0); (try clear c50); (try clear hcz14_0); (try clear hcz14_1); (try clear hcz16_0); (try clear hcz16_1); (try clear hcz20_0); (try clear hcz20_1); (try clear hcz24_0); (try clear hcz24_1); (try clear hcz27_0); (try clear hcz27_1); (try clear hcz46_0); (try clear hcz46_1); (try clear hcz6_0); (try clear hcz6_1); (try clear hfz14_0); (try clear hfz14_1); (try clear hfz16_0); (try clear hfz16_1); (try clear hfz20_0); (try clear hfz20_1); (try clear hfz24_0); (try clear hfz24_1); (try clear hfz27_0); (try clear hfz27_1); (try clear hfz46_0); (try clear hfz46_1); (try clear hfz6_0); (try clear hfz6_1); (try clear p2)
       obtain ⟨kq, x65_39, rfl, HA, HJ39, HO_6, HO_9, HO_461001, BK446, BK460, HB⟩ := hcut
       have hl461001_39 := (Kd.R_reads' HO_461001.out).1
       rw [hl461001_39] at HO_461001
       (try simp only [hl461001_39])
       (try simp only [hl461001_39] at BK446)
       (try simp only [hl461001_39] at BK460)
       (try simp only [hl461001_39] at HO_6)
       (try simp only [hl461001_39] at HO_9)
       cases kq with
       | zero => exact absurd HA.out (by simp [laws_FnExactTrailOf.j1])
       | succ kj39 =>
        have H := HA.out
        clear HA
        simp only [laws_FnExactTrailOf.j1] at H
        by_cases c55 : x65_39 = true
        ·subst c55
         have H1 : (some false) = some r := by rw [if_pos rfl] at H; exact H
         clear H
         have H := H1
         clear H1
         obtain rfl := Option.some.inj H
         go_wp2
         go_ret
         exact ⟨c31_9, G.cB HB.out⟩
        ·replace c55 := Bool.eq_false_iff.mpr c55
         subst c55
         have H1 : ((laws_markIntS.f kj39 t461 1).bind fun bt474 => ((laws_heldIntS.f kj39 bt474.2 1).bind fun t476 => (if t476 < 0 then (some false) else (if t476 = bt474.1 then ((laws_toNet.f kj39 a0_0 l0_1).bind fun bt477 => ((impl_TrailOf.f kj39 bt477.1 bt477.2 a1).bind fun bt481 => ((laws_eqIntS.f kj39 bt481.1 t452).bind fun t485 => (if t485 = true then (laws_FnExactTrailOf.j2 kj39 bt474.2 bt474.1 (bt481.2 != t455)) else (laws_FnExactTrailOf.j2 kj39 bt474.2 bt474.1 true))))) else (some false))))) = some r := by rw [if_neg (show ¬ (false = true) by decide)] at H; exact H
         clear H
         have H := H1
         clear H1
         replace H := Option.bind_eq_some_iff.mp H
         obtain ⟨⟨t474, t475⟩, A560, H⟩ := H
         replace H : ((laws_heldIntS.f kj39 t475 1).bind fun t476 => (if t476 < 0 then (some false) else (if t476 = t474 then ((laws_toNet.f kj39 a0_0 l0_1).bind fun bt477 => ((impl_TrailOf.f kj39 bt477.1 bt477.2 a1).bind fun bt481 => ((laws_eqIntS.f kj39 bt481.1 t452).bind fun t485 => (if t485 = true then (laws_FnExactTrailOf.j2 kj39 t475 t474 (bt481.2 != t455)) else (laws_FnExactTrailOf.j2 kj39 t475 t474 true))))) else (some false)))) = some r := H
         have A56 := Aside0.mk A560
         clear A560
         replace H := Option.bind_eq_some_iff.mp H
         obtain ⟨t476, A570, H⟩ := H
         replace H : (if t476 < 0 then (some false) else (if t476 = t474 then ((laws_toNet.f kj39 a0_0 l0_1).bind fun bt477 => ((impl_TrailOf.f kj39 bt477.1 bt477.2 a1).bind fun bt481 => ((laws_eqIntS.f kj39 bt481.1 t452).bind fun t485 => (if t485 = true then (laws_FnExactTrailOf.j2 kj39 t475 t474 (bt481.2 != t455)) else (laws_FnExactTrailOf.j2 kj39 t475 t474 true))))) else (some false))) = some r := H
         have A57 := Aside0.mk A570
         clear A570
         by_cases c58 : t476 < 0
         ·rw [if_pos c58] at H
          have c58b0 : decide (t476 < 0) = true := decide_eq_true c58
          clear c58
          obtain rfl := Option.some.inj H
          obtain ⟨Ao59, co59, eo59⟩ := Kd.R_slice HO_9.out
          subst eo59
          go_wp2_with (first | ((with_reducible refine gate_callee (f := 26) rfl ?_); refine goesL_ (some 68) rfl rfl Try.func26 (c31_12) rfl #[.slice Ao59 t461.length co59, .int .i64 1] rfl (G.ar) ?_; (with_reducible refine (laws_markIntS.calls kj39 (fun k_ => some k_ = (.slice Ao59 t461.length co59 : Value).ownBlock) (.slice Ao59 t461.length co59) t461 1 t474 t475 w _ ?side1 ?side2 A56.out).mono ?_); (case side1 => exact G.cB HB.out); (case side2 => exact Kd.R_tight rfl HO_9.out); rintro e w60 ⟨rfl, hy0, hb, hkp⟩; refine ⟨_, rfl, ?_⟩; have n0_ := Aside0.mk (Kd.R_mono (ok' := fun k_ => some k_ ≠ (.slice Ao59 t461.length co59 : Value).ownBlock) (Kd.R_keptB (HO_6.out) hkp (fun k_ hk_ hs_ => (hk_) hs_)) (fun k_ hk_ => hk_.1)); have n1_ := Aside0.mk (Kd.R_reok rfl hy0 (fun k_ e_ => HO_9.out.1 k_ e_)); have n2_ := Aside0.mk (Kd.R_mono (ok' := fun k_ => True) (Kd.R_keptB ((Kd.R_apart' HO_461001.out (Kd.R_typed HO_9.out) (by decide))) hkp (fun k_ hk_ hs_ => (hk_.2) hs_)) (fun k_ hk_ => trivial)); have n3_ := Aside0.mk (blk_kept (G.cb BK446.out) hkp (fun hs_ => (fun e_ => (Kd.R_ne HO_9.out BK446.out (by decide)) e_) hs_)); have n4_ := Aside0.mk (blk_kept (G.cb BK460.out) hkp (fun hs_ => (fun e_ => (Kd.R_ne HO_9.out BK460.out (by decide)) e_) hs_)); have n5_ := Aside0.mk (hb); clear HO_6 HO_9 HO_461001 BK446 BK460 HB; revert n0_ n1_ n2_ n3_ n4_ n5_; intro HO_6 HO_9 HO_461001 BK446 BK460 HB; (try clear hb); (try clear hkp); (try clear hy0)) | ((with_reducible refine gate_callee (f := 27) rfl ?_); refine goesL_ (some 71) rfl rfl Try.func27 (c31_12) rfl #[.slice Ao59 t475.length co59, .int .i64 1] rfl (c31_0) ?_; (with_reducible refine (laws_heldIntS.calls kj39 _ _ t475 1 t476 _ ?side1 ?side2 A57.out).mono ?_); (case side1 => repeat (first | exact (Kd.R_reads' HO_9.out).2.2 | (with_reducible refine Kd.C_alloc ?_ _) | (with_reducible refine Kd.C_drewN ?_ _) | (with_reducible refine Kd.C_drew ?_))); (case side2 => rw [show t475.length = t461.length from (Kd.R_reads' HO_9.out).1.symm]; exact (Kd.R_reads' HO_9.out).2.1); rintro e w' ⟨rfl, ⟨nd, rfl⟩⟩; refine ⟨_, rfl, ?_⟩))
          go_ret
          exact ⟨c31_9, G.cB HB.out⟩
         ·rw [if_neg c58] at H
          have c58b0 : decide (t476 < 0) = false := decide_eq_false c58
          clear c58
          by_cases c61 : t476 = t474
          ·rw [if_pos c61] at H
           have c61b0 : (t476 == t474) = true := beq_iff_eq.mpr c61
           have c61b1 : (t476 != t474) = false := bne_eq_false_iff_eq.mpr c61
           clear c61
           replace H := Option.bind_eq_some_iff.mp H
           obtain ⟨⟨t477, t478⟩, A620, H⟩ := H
           replace H : ((impl_TrailOf.f kj39 t477 t478 a1).bind fun bt481 => ((laws_eqIntS.f kj39 bt481.1 t452).bind fun t485 => (if t485 = true then (laws_FnExactTrailOf.j2 kj39 t475 t474 (bt481.2 != t455)) else (laws_FnExactTrailOf.j2 kj39 t475 t474 true)))) = some r := H
           have A62 := Aside0.mk A620
           clear A620
           replace H := Option.bind_eq_some_iff.mp H
           obtain ⟨⟨t481, t484⟩, A630, H⟩ := H
           replace H : ((laws_eqIntS.f kj39 t481 t452).bind fun t485 => (if t485 = true then (laws_FnExactTrailOf.j2 kj39 t475 t474 (t484 != t455)) else (laws_FnExactTrailOf.j2 kj39 t475 t474 true))) = some r := H
           have A63 := Aside0.mk A630
           clear A630
           have HC64 := Aside0.mk H
           clear H
           obtain ⟨Ao65, co65, eo65⟩ := Kd.R_slice HO_9.out
           subst eo65
           go_upto_region 25 with (first | ((with_reducible refine gate_callee (f := 26) rfl ?_); refine goesL_ (some 68) rfl rfl Try.func26 (c31_12) rfl #[.slice Ao65 t461.length co65, .int .i64 1] rfl (G.ar) ?_; (with_reducible refine (laws_markIntS.calls kj39 (fun k_ => some k_ = (.slice Ao65 t461.length co65 : Value).ownBlock) (.slice Ao65 t461.length co65) t461 1 t474 t475 w _ ?side1 ?side2 A56.out).mono ?_); (case side1 => exact G.cB HB.out); (case side2 => exact Kd.R_tight rfl HO_9.out); rintro e w66 ⟨rfl, hy0, hb, hkp⟩; refine ⟨_, rfl, ?_⟩; have n0_ := Aside0.mk (Kd.R_mono (ok' := fun k_ => some k_ ≠ (.slice Ao65 t461.length co65 : Value).ownBlock) (Kd.R_keptB (HO_6.out) hkp (fun k_ hk_ hs_ => (hk_) hs_)) (fun k_ hk_ => hk_.1)); have n1_ := Aside0.mk (Kd.R_reok rfl hy0 (fun k_ e_ => HO_9.out.1 k_ e_)); have n2_ := Aside0.mk (Kd.R_mono (ok' := fun k_ => True) (Kd.R_keptB ((Kd.R_apart' HO_461001.out (Kd.R_typed HO_9.out) (by decide))) hkp (fun k_ hk_ hs_ => (hk_.2) hs_)) (fun k_ hk_ => trivial)); have n3_ := Aside0.mk (blk_kept (G.cb BK446.out) hkp (fun hs_ => (fun e_ => (Kd.R_ne HO_9.out BK446.out (by decide)) e_) hs_)); have n4_ := Aside0.mk (blk_kept (G.cb BK460.out) hkp (fun hs_ => (fun e_ => (Kd.R_ne HO_9.out BK460.out (by decide)) e_) hs_)); have n5_ := Aside0.mk (hb); clear HO_6 HO_9 HO_461001 BK446 BK460 HB; revert n0_ n1_ n2_ n3_ n4_ n5_; intro HO_6 HO_9 HO_461001 BK446 BK460 HB; (try clear hb); (try clear hkp); (try clear hy0)) | ((with_reducible refine gate_callee (f := 27) rfl ?_); refine goesL_ (some 71) rfl rfl Try.func27 (c31_12) rfl #[.slice Ao65 t475.length co65, .int .i64 1] rfl (c31_0) ?_; (with_reducible refine (laws_heldIntS.calls kj39 _ _ t475 1 t476 _ ?side1 ?side2 A57.out).mono ?_); (case side1 => repeat (first | exact (Kd.R_reads' HO_9.out).2.2 | (with_reducible refine Kd.C_alloc ?_ _) | (with_reducible refine Kd.C_drewN ?_ _) | (with_reducible refine Kd.C_drew ?_))); (case side2 => rw [show t475.length = t461.length from (Kd.R_reads' HO_9.out).1.symm]; exact (Kd.R_reads' HO_9.out).2.1); rintro e w' ⟨rfl, ⟨nd, rfl⟩⟩; refine ⟨_, rfl, ?_⟩; have hnb67 := NB446_460.out; have hnc67 := NB460_446.out; have hcz68_0 : w66.cell? ⟨gb446, 0, none⟩ = some (.int .i64 a0_0) := (blk_cell BK446.out 0).trans rfl; have hcz68_1 : w66.cell? ⟨gb446, 1, none⟩ = some (.slice A0_1 l0_1.length c0_1) := (blk_cell BK446.out 1).trans rfl; have hfz68_0 := blk_frozen BK446.out 0; have hfz68_1 := blk_frozen BK446.out 1) | ((with_reducible refine gate_callee (f := 16) rfl ?_); refine goesL_ (some 79) rfl rfl Try.func16 (c31_12) rfl #[.agg #[.int .i64 a0_0, .slice A0_1 l0_1.length c0_1]] rfl (G.ar) ?_; (with_reducible refine (laws_toNet.calls kj39 a0_0 _ _ l0_1 t477 t478 _ ?side1 ?side2 A62.out).mono ?_); (case side1 => repeat (first | exact (Kd.C_below HR0_1.out (G.cB HB.out)) | (with_reducible refine Kd.C_alloc ?_ _) | (with_reducible refine Kd.C_drewN ?_ _) | (with_reducible refine Kd.C_drew ?_))); (case side2 => exact HC0_1.out); rintro e w69 ⟨v479, rfl, ho0, hb⟩; refine ⟨_, rfl, ?_⟩; have n0_ := Aside0.mk (Kd.R_below (G.cR HO_6.out) hb); have n1_ := Aside0.mk (Kd.R_below (G.cR HO_9.out) hb); have n2_ := Aside0.mk (Kd.R_elder' (G.cR HO_461001.out) (Kd.R_base ho0) hb); have n3_ := Aside0.mk (Kd.R_lower (Kd.R_new' ho0 (Kd.R_lt (G.cR HO_461001.out))) (below_size (G.cB HB.out))); have n4_ := Aside0.mk (blk_below (g := gb446) (o := .cells #[.int .i64 a0_0, .slice A0_1 l0_1.length c0_1] 24 (0, 0)) (G.cb BK446.out) hb); have n5_ := Aside0.mk (blk_below (g := gb460) (o := .cells #[.int .i64 t456, .slice Ao25 t472.length co25] 29 (0, 0)) (G.cb BK460.out) hb); have n6_ := Aside0.mk (below_step (G.cB HB.out) hb); clear HO_6 HO_9 HO_461001 BK446 BK460 HB; revert n0_ n1_ n2_ n3_ n4_ n5_ n6_; intro HO_6 HO_9 HO_461001 HO480 BK446 BK460 HB; (try clear hb); (try clear hb2); (try clear hk); (try clear hi); (try clear ho0); obtain ⟨Ao70, co70, eo70⟩ := Kd.R_slice HO480.out; subst eo70) | ((with_reducible refine gate_callee (f := 24) rfl ?_); refine goesL_ (some 81) rfl rfl Try.func24 (c31_12) rfl #[.agg #[.int .i64 t477, .slice Ao70 t478.length co70], .int .i64 a1] rfl (G.ar) ?_; (with_reducible refine (impl_TrailOf.calls kj39 t477 (fun k_ => some k_ = (.slice Ao70 t478.length co70 : Value).ownBlock) _ _ t478 a1 t481 t484 _ ?side1 A63.out).mono ?_); (case side1 => exact Kd.R_V (Kd.R_tight rfl (Kd.R_types (Kd.R_types (Kd.R_apart' (Kd.R_apart' (HO480.out) (Kd.R_typed HO_6.out) (by decide)) (Kd.R_typed HO_9.out) (by decide)) BK446.out (by decide)) BK460.out (by decide)))); rintro e w71 ⟨v482, rfl, ho0, hb⟩; refine ⟨_, rfl, ?_⟩; have n0_ := Aside0.mk (Kd.R_elder' (G.cR HO_6.out) (Kd.R_base ho0) hb); have n1_ := Aside0.mk (Kd.R_elder' (G.cR HO_9.out) (Kd.R_base ho0) hb); have n2_ := Aside0.mk (Kd.R_below (G.cR HO_461001.out) hb); have n3_ := Aside0.mk (Kd.R_below (G.cR HO480.out) hb); have n4_ := Aside0.mk (Kd.R_lower (Kd.R_new' (Kd.R_new' (Kd.R_mono (ok' := fun k_ => True) ho0 (fun _ hk_ => trivial)) (Kd.R_lt (G.cR HO_6.out))) (Kd.R_lt (G.cR HO_9.out))) (below_size (G.cB HB.out))); have n5_ := Aside0.mk (blk_below (g := gb446) (o := .cells #[.int .i64 a0_0, .slice A0_1 l0_1.length c0_1] 24 (0, 0)) (G.cb BK446.out) hb); have n6_ := Aside0.mk (blk_below (g := gb460) (o := .cells #[.int .i64 t456, .slice Ao25 t472.length co25] 29 (0, 0)) (G.cb BK460.out) hb); have n7_ := Aside0.mk (below_step (G.cB HB.out) hb); clear HO_6 HO_9 HO_461001 HO480 BK446 BK460 HB; revert n0_ n1_ n2_ n3_ n4_ n5_ n6_ n7_; intro HO_6 HO_9 HO_461001 HO480 HO483 BK446 BK460 HB; (try clear hb); (try clear hb2); (try clear hk); (try clear hi); (try clear ho0)))
           (try simp only [Act.put, List.setIfInBounds_toArray, List.set_cons_zero, List.set_cons_succ])
           go_cut [92] (fun v92 wc => ∃ (kq : Nat) (x92_63 : Bool), v92 = .bool x92_63 ∧ Aside0 (laws_FnExactTrailOf.j2 kq t475 t474 x92_63 = some r) ∧ Aside0 (kq ≤ kj39) ∧ Aside0 (Kd.R (Kd.int .i64) 3 wc w.heap.size (fun _ => True) (.slice Ao65 t461.length co65) t475) ∧ Aside0 (Kd.R k63 63 wc w.heap.size (fun _ => True) (.slice Ao25 t472.length co25) t472) ∧ Aside0 (wc.heap[gb446]? = some (.cells #[.int .i64 a0_0, (.slice A0_1 l0_1.length c0_1)] 24 (0, 0))) ∧ Aside0 (wc.heap[gb460]? = some (.cells #[.int .i64 t456, (.slice Ao25 t472.length co25)] 29 (0, 0))) ∧ Aside0 (Below w.heap.size w wc))
           case first =>
            have H := HC64.out
            clear HC64
            replace H := Option.bind_eq_some_iff.mp H
            obtain ⟨t485, A720, H⟩ := H
            replace H : (if t485 = true then (laws_FnExactTrailOf.j2 kj39 t475 t474 (t484 != t455)) else (laws_FnExactTrailOf.j2 kj39 t475 t474 true)) = some r := H
            have A72 := Aside0.mk A720
            clear A720
            by_cases c73 : t485 = true
            ·subst c73
             have H1 : (laws_FnExactTrailOf.j2 kj39 t475 t474 (t484 != t455)) = some r := by rw [if_pos rfl] at H; exact H
             clear H
             have H := H1
             clear H1
             have H' := Aside0.mk H
             clear H
             obtain ⟨Ao74, co74, eo74⟩ := Kd.R_slice HO483.out
             subst eo74
             obtain ⟨Ao75, co75, eo75⟩ := Kd.R_slice HO_6.out
             subst eo75
             go_wp2_with (first | ((with_reducible refine gate_callee (f := 22) rfl ?_); refine goesL_ (some 86) rfl rfl Try.func22 (c31_12) rfl #[.slice Ao74 t481.length co74, .slice Ao75 t452.length co75] rfl (G.ar) ?_; (with_reducible refine (laws_eqIntS.calls kj39 _ _ t481 _ _ t452 true _ ?side1 ?side2 ?side3 ?side4 A72.out).mono ?_); (case side1 => repeat (first | exact (Kd.R_reads' HO483.out).2.2 | (with_reducible refine Kd.C_alloc ?_ _) | (with_reducible refine Kd.C_drewN ?_ _) | (with_reducible refine Kd.C_drew ?_))); (case side2 => exact (Kd.R_reads' HO483.out).2.1); (case side3 => repeat (first | exact (Kd.R_reads' HO_6.out).2.2 | (with_reducible refine Kd.C_alloc ?_ _) | (with_reducible refine Kd.C_drewN ?_ _) | (with_reducible refine Kd.C_drew ?_))); (case side4 => exact (Kd.R_reads' HO_6.out).2.1); rintro e w' ⟨rfl, ⟨nd, rfl⟩⟩; refine ⟨_, rfl, ?_⟩))
             go_meet
             case rel => exact ⟨_, ((t484 != t455)), (c31_10), H', ⟨by have := HJ11.out; have := HJ39.out; first | omega | exact Nat.le_refl _⟩, ⟨c31_2⟩, ⟨c31_1⟩, ⟨c31_3⟩, ⟨c31_4⟩, ⟨G.cB HB.out⟩⟩
            ·replace c73 := Bool.eq_false_iff.mpr c73
             subst c73
             have H1 : (laws_FnExactTrailOf.j2 kj39 t475 t474 true) = some r := by rw [if_neg (show ¬ (false = true) by decide)] at H; exact H
             clear H
             have H := H1
             clear H1
             have H' := Aside0.mk H
             clear H
             obtain ⟨Ao76, co76, eo76⟩ := Kd.R_slice HO483.out
             subst eo76
             obtain ⟨Ao77, co77, eo77⟩ := Kd.R_slice HO_6.out
             subst eo77
             go_wp2_with (first | ((with_reducible refine gate_callee (f := 22) rfl ?_); refine goesL_ (some 86) rfl rfl Try.func22 (c31_12) rfl #[.slice Ao76 t481.length co76, .slice Ao77 t452.length co77] rfl (G.ar) ?_; (with_reducible refine (laws_eqIntS.calls kj39 _ _ t481 _ _ t452 false _ ?side1 ?side2 ?side3 ?side4 A72.out).mono ?_); (case side1 => repeat (first | exact (Kd.R_reads' HO483.out).2.2 | (with_reducible refine Kd.C_alloc ?_ _) | (with_reducible refine Kd.C_drewN ?_ _) | (with_reducible refine Kd.C_drew ?_))); (case side2 => exact (Kd.R_reads' HO483.out).2.1); (case side3 => repeat (first | exact (Kd.R_reads' HO_6.out).2.2 | (with_reducible refine Kd.C_alloc ?_ _) | (with_reducible refine Kd.C_drewN ?_ _) | (with_reducible refine Kd.C_drew ?_))); (case side4 => exact (Kd.R_reads' HO_6.out).2.1); rintro e w' ⟨rfl, ⟨nd, rfl⟩⟩; refine ⟨_, rfl, ?_⟩))
             go_meet
             case rel => exact ⟨_, (true), (c31_10), H', ⟨by have := HJ11.out; have := HJ39.out; first | omega | exact Nat.le_refl _⟩, ⟨c31_2⟩, ⟨c31_1⟩, ⟨c31_3⟩, ⟨c31_4⟩, ⟨G.cB HB.out⟩⟩
           case rest =>
            clear HC64
            (try clear c1); (try clear c2); (try clear p2); (try clear c3); (try clear c4); (try clear c4b0); (try clear c5); (try clear c6); (try clear c7); (try clear c14); (try clear c16); (try clear c18); (try clear c22); (try clear c23); (try clear c24); (try clear c25); (try clear c26); (try clear c27); (try clear c30); (try clear c35); (try clear c38); (try clear c45); (try clear c48); (try clear c48b0); (try clear c50); (try clear c55); (try clear c58); (try clear c58b0); (try clear c61); (try clear c61b0); (try clear c61b1); (try clear c67); (try clear c73); (try clear hcz14_0); (try clear hcz14_1); (try clear hcz16_0); (try clear hcz16_1); (try clear hcz20_0); (try clear hcz20_1); (try clear hcz24_0); (try clear hcz24_1); (try clear hcz27_0); (try clear hcz27_1); (try clear hcz46_0); (try clear hcz46_1); (try clear hcz68_0); (try clear hcz68_1); (try clear hcz6_0); (try clear hcz6_1); (try clear hfz14_0); (try clear hfz14_1); (try clear hfz16_0); (try clear hfz16_1); (try clear hfz20_0); (try clear hfz20_1); (try clear hfz24_0); (try clear hfz24_1); (try clear hfz27_0); (try clear hfz27_1); (try clear hfz46_0); (try clear hfz46_1); (try clear hfz68_0); (try clear hfz68_1); (try clear hfz6_0); (try clear hfz6_1); (try clear p2)
            obtain ⟨kq, x92_63, rfl, HA, HJ63, HO_9, HO_461001, BK446, BK460, HB⟩ := hcut
            have hl9_63 := (Kd.R_reads' HO_9.out).1
            rw [hl9_63] at HO_9
            (try simp only [hl9_63])
            (try simp only [hl9_63] at BK446)
            (try simp only [hl9_63] at BK460)
            (try simp only [hl9_63] at HO_461001)
            cases kq with
            | zero => exact absurd HA.out (by simp [laws_FnExactTrailOf.j2])
            | succ kj63 =>
             have H := HA.out
             clear HA
             simp only [laws_FnExactTrailOf.j2] at H
             by_cases c78 : x92_63 = true
             ·subst c78
              have H1 : (some false) = some r := by rw [if_pos rfl] at H; exact H
              clear H
              have H := H1
              clear H1
              obtain rfl := Option.some.inj H
              go_wp2
              go_ret
              exact ⟨c31_9, G.cB HB.out⟩
             ·replace c78 := Bool.eq_false_iff.mpr c78
              subst c78
              have H1 : ((laws_heldIntS.f kj63 t475 1).bind fun t486 => (if t486 < 0 then (some false) else (if t486 = t474 then (some true) else (some false)))) = some r := by rw [if_neg (show ¬ (false = true) by decide)] at H; exact H
              clear H
              have H := H1
              clear H1
              replace H := Option.bind_eq_some_iff.mp H
              obtain ⟨t486, A790, H⟩ := H
              replace H : (if t486 < 0 then (some false) else (if t486 = t474 then (some true) else (some false))) = some r := H
              have A79 := Aside0.mk A790
              clear A790
              by_cases c80 : t486 < 0
              ·rw [if_pos c80] at H
               have c80b0 : decide (t486 < 0) = true := decide_eq_true c80
               clear c80
               obtain rfl := Option.some.inj H
               go_wp2_with (first | ((with_reducible refine gate_callee (f := 27) rfl ?_); refine goesL_ (some 95) rfl rfl Try.func27 (c31_12) rfl #[.slice Ao65 t475.length co65, .int .i64 1] rfl (G.ar) ?_; (with_reducible refine (laws_heldIntS.calls kj63 _ _ t475 1 t486 _ ?side1 ?side2 A79.out).mono ?_); (case side1 => repeat (first | exact (Kd.R_reads' HO_9.out).2.2 | (with_reducible refine Kd.C_alloc ?_ _) | (with_reducible refine Kd.C_drewN ?_ _) | (with_reducible refine Kd.C_drew ?_))); (case side2 => exact (Kd.R_reads' HO_9.out).2.1); rintro e w' ⟨rfl, ⟨nd, rfl⟩⟩; refine ⟨_, rfl, ?_⟩))
               go_ret
               exact ⟨c31_9, G.cB HB.out⟩
              ·rw [if_neg c80] at H
               have c80b0 : decide (t486 < 0) = false := decide_eq_false c80
               clear c80
               by_cases c81 : t486 = t474
               ·rw [if_pos c81] at H
                have c81b0 : (t486 == t474) = true := beq_iff_eq.mpr c81
                have c81b1 : (t486 != t474) = false := bne_eq_false_iff_eq.mpr c81
                clear c81
                obtain rfl := Option.some.inj H
                go_wp2_with (first | ((with_reducible refine gate_callee (f := 27) rfl ?_); refine goesL_ (some 95) rfl rfl Try.func27 (c31_12) rfl #[.slice Ao65 t475.length co65, .int .i64 1] rfl (G.ar) ?_; (with_reducible refine (laws_heldIntS.calls kj63 _ _ t475 1 t486 _ ?side1 ?side2 A79.out).mono ?_); (case side1 => repeat (first | exact (Kd.R_reads' HO_9.out).2.2 | (with_reducible refine Kd.C_alloc ?_ _) | (with_reducible refine Kd.C_drewN ?_ _) | (with_reducible refine Kd.C_drew ?_))); (case side2 => exact (Kd.R_reads' HO_9.out).2.1); rintro e w' ⟨rfl, ⟨nd, rfl⟩⟩; refine ⟨_, rfl, ?_⟩))
                go_ret
                exact ⟨c31_9, G.cB HB.out⟩
               ·rw [if_neg c81] at H
                have c81b0 : (t486 == t474) = false := beq_eq_false_iff_ne.mpr c81
                have c81b1 : (t486 != t474) = true := bne_iff_ne.mpr c81
                obtain rfl := Option.some.inj H
                go_wp2_with (first | ((with_reducible refine gate_callee (f := 27) rfl ?_); refine goesL_ (some 95) rfl rfl Try.func27 (c31_12) rfl #[.slice Ao65 t475.length co65, .int .i64 1] rfl (G.ar) ?_; (with_reducible refine (laws_heldIntS.calls kj63 _ _ t475 1 t486 _ ?side1 ?side2 A79.out).mono ?_); (case side1 => repeat (first | exact (Kd.R_reads' HO_9.out).2.2 | (with_reducible refine Kd.C_alloc ?_ _) | (with_reducible refine Kd.C_drewN ?_ _) | (with_reducible refine Kd.C_drew ?_))); (case side2 => exact (Kd.R_reads' HO_9.out).2.1); rintro e w' ⟨rfl, ⟨nd, rfl⟩⟩; refine ⟨_, rfl, ?_⟩))
                go_ret
                exact ⟨c31_9, G.cB HB.out⟩
          ·rw [if_neg c61] at H
           have c61b0 : (t476 == t474) = false := beq_eq_false_iff_ne.mpr c61
           have c61b1 : (t476 != t474) = true := bne_iff_ne.mpr c61
           obtain rfl := Option.some.inj H
           obtain ⟨Ao82, co82, eo82⟩ := Kd.R_slice HO_9.out
           subst eo82
           go_wp2_with (first | ((with_reducible refine gate_callee (f := 26) rfl ?_); refine goesL_ (some 68) rfl rfl Try.func26 (c31_12) rfl #[.slice Ao82 t461.length co82, .int .i64 1] rfl (G.ar) ?_; (with_reducible refine (laws_markIntS.calls kj39 (fun k_ => some k_ = (.slice Ao82 t461.length co82 : Value).ownBlock) (.slice Ao82 t461.length co82) t461 1 t474 t475 w _ ?side1 ?side2 A56.out).mono ?_); (case side1 => exact G.cB HB.out); (case side2 => exact Kd.R_tight rfl HO_9.out); rintro e w83 ⟨rfl, hy0, hb, hkp⟩; refine ⟨_, rfl, ?_⟩; have n0_ := Aside0.mk (Kd.R_mono (ok' := fun k_ => some k_ ≠ (.slice Ao82 t461.length co82 : Value).ownBlock) (Kd.R_keptB (HO_6.out) hkp (fun k_ hk_ hs_ => (hk_) hs_)) (fun k_ hk_ => hk_.1)); have n1_ := Aside0.mk (Kd.R_reok rfl hy0 (fun k_ e_ => HO_9.out.1 k_ e_)); have n2_ := Aside0.mk (Kd.R_mono (ok' := fun k_ => True) (Kd.R_keptB ((Kd.R_apart' HO_461001.out (Kd.R_typed HO_9.out) (by decide))) hkp (fun k_ hk_ hs_ => (hk_.2) hs_)) (fun k_ hk_ => trivial)); have n3_ := Aside0.mk (blk_kept (G.cb BK446.out) hkp (fun hs_ => (fun e_ => (Kd.R_ne HO_9.out BK446.out (by decide)) e_) hs_)); have n4_ := Aside0.mk (blk_kept (G.cb BK460.out) hkp (fun hs_ => (fun e_ => (Kd.R_ne HO_9.out BK460.out (by decide)) e_) hs_)); have n5_ := Aside0.mk (hb); clear HO_6 HO_9 HO_461001 BK446 BK460 HB; revert n0_ n1_ n2_ n3_ n4_ n5_; intro HO_6 HO_9 HO_461001 BK446 BK460 HB; (try clear hb); (try clear hkp); (try clear hy0)) | ((with_reducible refine gate_callee (f := 27) rfl ?_); refine goesL_ (some 71) rfl rfl Try.func27 (c31_12) rfl #[.slice Ao82 t475.length co82, .int .i64 1] rfl (c31_0) ?_; (with_reducible refine (laws_heldIntS.calls kj39 _ _ t475 1 t476 _ ?side1 ?side2 A57.out).mono ?_); (case side1 => repeat (first | exact (Kd.R_reads' HO_9.out).2.2 | (with_reducible refine Kd.C_alloc ?_ _) | (with_reducible refine Kd.C_drewN ?_ _) | (with_reducible refine Kd.C_drew ?_))); (case side2 => rw [show t475.length = t461.length from (Kd.R_reads' HO_9.out).1.symm]; exact (Kd.R_reads' HO_9.out).2.1); rintro e w' ⟨rfl, ⟨nd, rfl⟩⟩; refine ⟨_, rfl, ?_⟩))
           go_ret
           exact ⟨c31_9, G.cB HB.out⟩
     ·replace c38 := Bool.eq_false_iff.mpr c38
      subst c38
      have H1 : (some false) = some r := by rw [if_neg (show ¬ (false = true) by decide)] at H; exact H
      clear H
      have H := H1
      clear H1
      obtain rfl := Option.some.inj H
      try go_wp2
      have n0_ := Aside0.mk (Kd.R_drew HO_6.out)
      have n1_ := Aside0.mk (Kd.R_drew HO_9.out)
      have n2_ := Aside0.mk (Kd.R_drew HO_461001.out)
      have n3_ := Aside0.mk (blk_drew BK446.out)
      have n4_ := Aside0.mk (blk_drew BK460.out)
      have n5_ := Aside0.mk (below_drew1 HB.out)
      clear HO_6 HO_9 HO_461001 BK446 BK460 HB
      revert n0_ n1_ n2_ n3_ n4_ n5_
      intro HO_6 HO_9 HO_461001 BK446 BK460 HB
      refine start_ (n := 5) (S := fun w' => w'.cell? ⟨gb460, 0, none⟩ = some (.int .i64 t456) ∧ w'.cell? ⟨gb460, 1, none⟩ = some (.slice Ao25 t457.length co25) ∧ w'.cell? ⟨gb446, 0, none⟩ = some (.int .i64 a0_0) ∧ w'.cell? ⟨gb446, 1, none⟩ = some (.slice A0_1 l0_1.length c0_1)) (ds := []) (G.fl 5 0) (c31_12) rfl (c31_12) ⟨(blk_cell BK460.out 0).trans rfl, (blk_cell BK460.out 1).trans rfl, (blk_cell BK446.out 0).trans rfl, (blk_cell BK446.out 1).trans rfl⟩ (fun hHeld => ?_)
      generalize wc.drew = w84 at HO_6 HO_9 HO_461001 BK446 BK460 HB hHeld ⊢
      refine G.ta4 0 (some 45) (G.fl 5 1) ?_
      refine G.ta4 1 (some 46) (G.fl 5 3) ?_
      refine one_ (i := 2) (N := some 47) (G.fl 5 7) rfl rfl (c31_12) (by decide) (fun K hK => ?_)
      refine goes_ Try.func16 (c31_12) rfl #[.agg #[.int .i64 a0_0, .slice A0_1 l0_1.length c0_1]] (by rfl) rfl rfl (G.ar) ?_
      with_reducible refine (laws_toNet.calls kj11 a0_0 _ _ l0_1 t466 t467 _ ?side1 ?side2 A36.out).mono ?_
      (case side1 => repeat (first | exact (Kd.C_below HR0_1.out HB.out) | (with_reducible refine Kd.C_alloc ?_ _) | (with_reducible refine Kd.C_drewN ?_ _) | (with_reducible refine Kd.C_drew ?_)))
      (case side2 => exact HC0_1.out)
      rintro e w85 ⟨v468, rfl, ho0, hb⟩
      refine ⟨_, rfl, ?_⟩
      have n0_ := Aside0.mk (Kd.R_below (G.cR HO_6.out) hb)
      have n1_ := Aside0.mk (Kd.R_below (G.cR HO_9.out) hb)
      have n2_ := Aside0.mk (Kd.R_elder' (G.cR HO_461001.out) (Kd.R_base ho0) hb)
      have n3_ := Aside0.mk (Kd.R_lower (Kd.R_new' ho0 (Kd.R_lt (G.cR HO_461001.out))) (below_size (G.cB HB.out)))
      have n4_ := Aside0.mk (blk_below (g := gb446) (o := .cells #[.int .i64 a0_0, .slice A0_1 l0_1.length c0_1] 24 (0, 0)) (G.cb BK446.out) hb)
      have n5_ := Aside0.mk (blk_below (g := gb460) (o := .cells #[.int .i64 t456, .slice Ao25 t457.length co25] 29 (0, 0)) (G.cb BK460.out) hb)
      have n6_ := Aside0.mk (below_step (G.cB HB.out) hb)
      clear HO_6 HO_9 HO_461001 BK446 BK460 HB
      revert n0_ n1_ n2_ n3_ n4_ n5_ n6_
      intro HO_6 HO_9 HO_461001 HO469 BK446 BK460 HB
      (try clear hb)
      (try clear hb2)
      (try clear hk)
      (try clear hi)
      (try clear ho0)
      obtain ⟨Ao86, co86, eo86⟩ := Kd.R_slice HO469.out
      (first | subst eo86 | (injection eo86 with f1_ f2_ f3_; have f4_ := f1_.symm; have f5_ := f3_.symm; clear f1_ f2_ f3_; subst f4_; subst f5_))
      refine hK.out _ _ ⟨(blk_cell BK460.out 0).trans rfl, (blk_cell BK460.out 1).trans rfl, (blk_cell BK446.out 0).trans rfl, (blk_cell BK446.out 1).trans rfl⟩ (fun hHeld => ?_)
      clear hK K
      refine G.no (some 47) ?_
      refine one_ (i := 3) (N := some 48) (G.fl 5 15) rfl rfl (c31_12) (by decide) (fun K hK => ?_)
      refine goes_ Try.func18 (c31_12) rfl #[.agg #[.int .i64 t456, .slice Ao25 t457.length co25], .agg #[.int .i64 t466, .slice Ao86 t467.length co86]] (by rfl) rfl rfl (G.ar) ?_
      with_reducible refine (laws_eqNet.calls kj11 t456 _ _ t457 t466 _ _ t467 false _ ?side1 ?side2 ?side3 ?side4 A37.out).mono ?_
      (case side1 => repeat (first | exact (Kd.R_reads' HO_461001.out).2.2 | (with_reducible refine Kd.C_alloc ?_ _) | (with_reducible refine Kd.C_drewN ?_ _) | (with_reducible refine Kd.C_drew ?_)))
      (case side2 => exact (Kd.R_reads' HO_461001.out).2.1)
      (case side3 => repeat (first | exact (Kd.R_reads' HO469.out).2.2 | (with_reducible refine Kd.C_alloc ?_ _) | (with_reducible refine Kd.C_drewN ?_ _) | (with_reducible refine Kd.C_drew ?_)))
      (case side4 => exact (Kd.R_reads' HO469.out).2.1)
      rintro e w87 ⟨rfl, hb⟩
      refine ⟨_, rfl, ?_⟩
      have n0_ := Aside0.mk (Kd.R_below (G.cR HO_6.out) hb)
      have n1_ := Aside0.mk (Kd.R_below (G.cR HO_9.out) hb)
      have n2_ := Aside0.mk (Kd.R_below (G.cR HO_461001.out) hb)
      have n3_ := Aside0.mk (Kd.R_below (G.cR HO469.out) hb)
      have n4_ := Aside0.mk (blk_below (g := gb446) (o := .cells #[.int .i64 a0_0, .slice A0_1 l0_1.length c0_1] 24 (0, 0)) (G.cb BK446.out) hb)
      have n5_ := Aside0.mk (blk_below (g := gb460) (o := .cells #[.int .i64 t456, .slice Ao25 t457.length co25] 29 (0, 0)) (G.cb BK460.out) hb)
      have n6_ := Aside0.mk (below_step (G.cB HB.out) hb)
      clear HO_6 HO_9 HO_461001 HO469 BK446 BK460 HB
      revert n0_ n1_ n2_ n3_ n4_ n5_ n6_
      intro HO_6 HO_9 HO_461001 HO469 BK446 BK460 HB
      (try clear hb)
      (try clear hb2)
      (try clear hk)
      (try clear hi)
      refine hK.out _ _ ⟨(blk_cell BK460.out 0).trans rfl, (blk_cell BK460.out 1).trans rfl, (blk_cell BK446.out 0).trans rfl, (blk_cell BK446.out 1).trans rfl⟩ (fun hHeld => ?_)
      clear hK K
      refine G.no (some 48) ?_
      refine G.pu 4 (some 49) (G.fl 5 31) ?_
      refine done_ (c31_12) ?_
      try go_wp2
      go_ret
      exact ⟨c31_9, G.cB HB.out⟩

end Go.Proofs.Ytbkdpnfjcnkoeaa.P
