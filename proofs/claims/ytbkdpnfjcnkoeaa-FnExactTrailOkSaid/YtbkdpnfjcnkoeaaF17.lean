-- Printed by a program of this session (mp.py, over the kit's print). Not trusted: Lean checks it.
import Derived.Test.YtbkdpnfjcnkoeaaF0
import Derived.Test.YtbkdpnfjcnkoeaaF4
import Derived.Test.YtbkdpnfjcnkoeaaF7
namespace Go.Proofs.Ytbkdpnfjcnkoeaa.P
open Go.RowKit Go.Proofs.YtbkdpnfjcnkoeaaW.PrintWords Go.Proofs.YtbkdpnfjcnkoeaaW.PrintLast Go.Proofs.YtbkdpnfjcnkoeaaW.PrintMore
attribute [local go_sem] max2_int min2_int max_two min_two max_three min_three max_four min_four   -- for this text's walks alone
set_option linter.unusedVariables false
set_option linter.unusedSimpArgs false

theorem c17_0 {p : Prop} (h : p := by (with_reducible repeat (first | refine blk_drewN ?_ _ | refine blk_drew ?_ | refine blk_alloc ?_ _)); refine blk_far ?_ NB337_340.out _; (with_reducible repeat (first | refine blk_drewN ?_ _ | refine blk_drew ?_ | refine blk_alloc ?_ _)); refine blk_far ?_ NB337_340.out _; (with_reducible repeat (first | refine blk_drewN ?_ _ | refine blk_drew ?_ | refine blk_alloc ?_ _)); exact BK337.out) : p := h
theorem c17_1 {p : Prop} (h : p := by (with_reducible repeat (first | apply Kd.V_alloc | apply Kd.V_drewN | apply Kd.V_drew)); exact Kd.V_mono (Kd.V_far (p := ⟨gb340, 1, none⟩) (Kd.V_far (p := ⟨gb340, 0, none⟩) (Kd.V_mono HO_338001.out (fun k_ hk => (⟨hk, hk.2⟩ : _ ∧ k_ ≠ gb340))) (fun _ hk => hk.2) (.int .i64 a0_0)) (fun _ hk => hk.2) (.slice A0_1 l0_1.length c0_1)) (fun _ hk => ⟨hk.1.1.1, ⟨hk.1.1.2, hk.1.2⟩⟩)) : p := h
theorem c17_2 {p : Prop} (h : p := by (try simp only [List.map_toArray, List.map_cons, List.map_nil]); first | done | (simp only [hji10]; rfl) | rfl | (simp only [List.length_drop, List.length_take]; rfl)) : p := h
theorem c17_3 {p : Prop} (h : p := by first | rfl | (simp [errW_none, errW_some] <;> rfl) | (simp [*, errW_none, errW_some] <;> rfl)) : p := h
theorem c17_4 {p : Prop} (h : p := by first | rfl | (simp; done) | (simp [*]; done)) : p := h
theorem c17_5 {p : Prop} (h : p := by rw [hg]; exact (below_size (G.cB HB.out))) : p := h
theorem c17_6 {p : Prop} (h : p := by kernel_rfl) : p := h
/-! ### impl_Net_walk: function 49 -/
def impl_Net_walk.l0 : Nat → List Int → List Int → Int → Int → Int → List (S63) → Option (Bool)
 | 0, _, _, _, _, _, _ => none
 | k + 1, x1, x7, x8, x9, x321000, x321001 => if x9 < x8 then (if 0 ≤ x9 then (if x9 < (x7.length : Int) then ((impl_Net_knot.f x321000 x321001 (rd x7 x9)).bind fun t322 => (if t322 = true then (if x9 > 0 then (if 0 ≤ (wrap64 (x9 - 1)) then (if (wrap64 (x9 - 1)) < (x1.length : Int) then ((impl_Net_has.f k x321000 x321001 (rd x1 (wrap64 (x9 - 1))) (rd x7 x9)).bind fun t324 => (if t324 = true then (impl_Net_walk.l0 k x1 x7 x8 (wrap64 (x9 + 1)) x321000 x321001) else (some false))) else (none)) else (none)) else (impl_Net_walk.l0 k x1 x7 x8 (wrap64 (x9 + 1)) x321000 x321001)) else (some false))) else (none)) else (none)) else (some true)
def impl_Net_walk.f (k : Nat) (a0_0 : Int) (l0_1 : List (S63)) (l1 : List Int) : Option (Bool) := impl_Net_walk.l0 k l1 l1 (l1.length : Int) 0 a0_0 l0_1
theorem impl_Net_walk.mono_l : ∀ k, (∀ y0 y1 y2 y3 y4 y5, LeO (impl_Net_walk.l0 k y0 y1 y2 y3 y4 y5) (impl_Net_walk.l0 (k + 1) y0 y1 y2 y3 y4 y5))
 | 0 => fun _ _ _ _ _ _ r h => by simp [impl_Net_walk.l0] at h
 | k + 1 => by
  have ih0 := impl_Net_walk.mono_l k
  ·intro y0 y1 y2 y3 y4 y5
   unfold impl_Net_walk.l0
   repeat' first
   | (with_reducible exact ih0 _ _ _ _ _ _)
   | (with_reducible exact impl_Net_has.mono _ _ _ _ _)
   | (with_reducible exact LeO.refl _)
   | (with_reducible exact LeO.none _)
   | (with_reducible refine LeO.ite ?_ ?_)
   | (with_reducible refine LeO.bind ?_ (fun _ => ?_))
   | exact ih0 _ _ _ _ _ _
   | exact impl_Net_has.mono _ _ _ _ _
   | exact LeO.none _
   | refine LeO.ite ?_ ?_
   | refine LeO.bind ?_ (fun _ => ?_)
theorem impl_Net_walk.mono : ∀ a0 a1 a2 k, LeO (impl_Net_walk.f k a0 a1 a2) (impl_Net_walk.f (k + 1) a0 a1 a2) := by
 intro a0 a1 a2 k
 have ih0 := impl_Net_walk.mono_l k
 unfold impl_Net_walk.f
 repeat' first
   | (with_reducible exact ih0 _ _ _ _ _ _)
   | (with_reducible exact impl_Net_has.mono _ _ _ _ _)
   | (with_reducible exact LeO.refl _)
   | (with_reducible exact LeO.none _)
   | (with_reducible refine LeO.ite ?_ ?_)
   | (with_reducible refine LeO.bind ?_ (fun _ => ?_))
   | exact ih0 _ _ _ _ _ _
   | exact impl_Net_has.mono _ _ _ _ _
   | exact LeO.none _
   | refine LeO.ite ?_ ?_
   | refine LeO.bind ?_ (fun _ => ?_)
def impl_Net_walk.T4 : Bool × List (List Nat × List Nat) := (true, [([], []), ([], []), ([0, 1], [0, 1]), ([2], [2]), ([3, 2], [3]), ([4], [4]), ([5, 4], [4, 5]), ([6, 4, 4], [4, 6]), ([7], [7]), ([7], [7]), ([7], [7]), ([10, 7], [7, 10]), ([9, 11, 7], [7, 9, 11]), ([12, 7], [7, 12]), ([7], [7]), ([8, 13, 14, 7, 7], [7, 8, 13, 14]), ([15, 7], [7, 15]), ([7, 16, 4], [4, 7, 16]), ([4, 17], [4, 17])])
def impl_Net_walk.B4 : List Nat := [0, 0, 3, 7, 15, 31, 63, 127, 255, 255, 255, 1279, 3839, 7935, 255, 32767, 65535, 131071, 262143]
theorem impl_Net_walk.tab4 : rtab .any (opsOf Try.f49 4) = impl_Net_walk.T4 := by kernel_rfl
theorem impl_Net_walk.bits4 : waitsOk impl_Net_walk.T4.2 impl_Net_walk.B4 = true := by kernel_rfl
set_option maxHeartbeats 8000000 in
set_option maxRecDepth 100000 in
theorem impl_Net_walk.calls (k : Nat) (a0_0 : Int) (A0_1 : Option Addr) (c0_1 : Nat) (l0_1 : List (S63)) (A1 : Option Addr) (c1 : Nat) (l1 : List Int) (r : Bool) (w : World) (hr0_1 : Kd.C k63 w A0_1 l0_1.length l0_1) (hc0_1 : l0_1.length ≤ c0_1) (hr1 : Kd.C (Kd.int .i64) w A1 l1.length l1) (hc1 : l1.length ≤ c1) (h : impl_Net_walk.f k a0_0 l0_1 l1 = some r) :
  Calls Try.prog 49 #[.agg #[.int .i64 a0_0, .slice A0_1 l0_1.length c0_1], .slice A1 l1.length c1] w fun e w' => e = .returned (.bool r) ∧ Below w.heap.size w w' := by
 have hu29 := Try.underlying29
 have HR0_1 := Aside0.mk hr0_1
 have HC0_1 := Aside0.mk hc0_1
 clear hr0_1 hc0_1
 have HR1 := Aside0.mk hr1
 have HC1 := Aside0.mk hc1
 clear hr1 hc1
 have HB := Aside0.mk (Below.refl w.heap.size w)
 have H : (impl_Net_walk.l0 k l1 l1 (l1.length : Int) 0 a0_0 l0_1) = some r := h
 clear h
 have H' := Aside0.mk H
 clear H
 go_enter Try.func49, Try.ntmps49
 go_wp2_with (first | ((with_reducible refine gate_dst (N := 2) rfl ?_); refine G.be 2 #[.int .i64 a0_0, .slice A0_1 l0_1.length c0_1] 29 ?_; intro gb320 hg w3 hbox hb; have n0_ := Aside0.mk (below_step (G.cB HB.out) hb); have n1_ := Aside0.mk (hbox); have n2_ := Aside0.mk ((c17_5 : w.heap.size ≤ gb320)); have n3_ := Aside0.mk ((c17_5 : w.heap.size ≤ gb320)); clear HB; revert n0_ n1_ n2_ n3_; intro HB BK320 GW320 GE320; clear hb hbox hg))
 go_loopg [9] k (fun kq v9 w' => ∃ (x9_1 : Int), v9 = .int .i64 x9_1 ∧ Aside0 (impl_Net_walk.l0 kq l1 l1 (l1.length : Int) x9_1 a0_0 l0_1 = some r) ∧ Aside0 (kq ≤ k) ∧ Aside0 (w'.heap[gb320]? = some (.cells #[.int .i64 a0_0, (.slice A0_1 l0_1.length c0_1)] 29 (0, 0))) ∧ Aside0 (Below w.heap.size w w'))
 case atStart => exact ⟨(0), (c17_4), H', ⟨Nat.le_refl _⟩, ⟨G.cb BK320.out⟩, ⟨G.cB HB.out⟩⟩
 case round =>
  clear H'
  (try clear c1); (try clear p2)
  obtain ⟨x9_1, rfl, HA, HK1, BK320, HB⟩ := hrel
  cases gk with
  | zero => exact absurd HA.out (by simp [impl_Net_walk.l0])
  | succ k1 =>
   have H := HA.out
   clear HA
   simp only [impl_Net_walk.l0] at H
   by_cases c4 : x9_1 < (l1.length : Int)
   ·rw [if_pos c4] at H
    have c4b0 : decide (x9_1 < (l1.length : Int)) = true := decide_eq_true c4
    clear c4
    by_cases c5 : 0 ≤ x9_1
    ·rw [if_pos c5] at H
     have c5b0 : decide (0 ≤ x9_1) = true := decide_eq_true c5
     clear c5
     by_cases c6 : x9_1 < (l1.length : Int)
     ·rw [if_pos c6] at H
      have c6b0 : decide (x9_1 < (l1.length : Int)) = true := decide_eq_true c6
      clear c6
      replace H := Option.bind_eq_some_iff.mp H
      obtain ⟨t322, A70, H⟩ := H
      replace H : (if t322 = true then (if x9_1 > 0 then (if 0 ≤ (wrap64 (x9_1 - 1)) then (if (wrap64 (x9_1 - 1)) < (l1.length : Int) then ((impl_Net_has.f k1 a0_0 l0_1 (rd l1 (wrap64 (x9_1 - 1))) (rd l1 x9_1)).bind fun t324 => (if t324 = true then (impl_Net_walk.l0 k1 l1 l1 (l1.length : Int) (wrap64 (x9_1 + 1)) a0_0 l0_1) else (some false))) else (none)) else (none)) else (impl_Net_walk.l0 k1 l1 l1 (l1.length : Int) (wrap64 (x9_1 + 1)) a0_0 l0_1)) else (some false)) = some r := H
      have A7 := Aside0.mk A70
      clear A70
      by_cases c8 : t322 = true
      ·subst c8
       have H1 : (if x9_1 > 0 then (if 0 ≤ (wrap64 (x9_1 - 1)) then (if (wrap64 (x9_1 - 1)) < (l1.length : Int) then ((impl_Net_has.f k1 a0_0 l0_1 (rd l1 (wrap64 (x9_1 - 1))) (rd l1 x9_1)).bind fun t324 => (if t324 = true then (impl_Net_walk.l0 k1 l1 l1 (l1.length : Int) (wrap64 (x9_1 + 1)) a0_0 l0_1) else (some false))) else (none)) else (none)) else (impl_Net_walk.l0 k1 l1 l1 (l1.length : Int) (wrap64 (x9_1 + 1)) a0_0 l0_1)) = some r := by rw [if_pos rfl] at H; exact H
       clear H
       have H := H1
       clear H1
       by_cases c9 : x9_1 > 0
       ·rw [if_pos c9] at H
        have c9b0 : decide (0 < x9_1) = true := decide_eq_true c9
        clear c9
        obtain ⟨ji10, hji10⟩ : ∃ j_ : Int, (wrap64 (x9_1 - 1)) = j_ := ⟨_, rfl⟩
        replace H : (if 0 ≤ (ji10) then (if (ji10) < (l1.length : Int) then ((impl_Net_has.f k1 a0_0 l0_1 (rd l1 (ji10)) (rd l1 x9_1)).bind fun t324 => (if t324 = true then (impl_Net_walk.l0 k1 l1 l1 (l1.length : Int) (wrap64 (x9_1 + 1)) a0_0 l0_1) else (some false))) else (none)) else (none)) = some r := by first | (rw [hji10] at H; exact H) | (simp only [hji10] at H ⊢; exact H)
        (try rw [hji10] at A7)
        have hji10w : (IntKind.i64.wrap (x9_1 - 1)) = ji10 := (i64_w _).trans hji10
        by_cases c11 : 0 ≤ (ji10)
        ·rw [if_pos c11] at H
         have c11b0 : decide (0 ≤ (ji10)) = true := decide_eq_true c11
         clear c11
         by_cases c12 : (ji10) < (l1.length : Int)
         ·rw [if_pos c12] at H
          have c12b0 : decide ((ji10) < (l1.length : Int)) = true := decide_eq_true c12
          clear c12
          replace H := Option.bind_eq_some_iff.mp H
          obtain ⟨t324, A130, H⟩ := H
          replace H : (if t324 = true then (impl_Net_walk.l0 k1 l1 l1 (l1.length : Int) (wrap64 (x9_1 + 1)) a0_0 l0_1) else (some false)) = some r := H
          have A13 := Aside0.mk A130
          clear A130
          by_cases c14 : t324 = true
          ·subst c14
           have H1 : (impl_Net_walk.l0 k1 l1 l1 (l1.length : Int) (wrap64 (x9_1 + 1)) a0_0 l0_1) = some r := by rw [if_pos rfl] at H; exact H
           clear H
           have H := H1
           clear H1
           have H' := Aside0.mk H
           clear H
           have p321 : 0 ≤ (x9_1 : Int) := of_decide_eq_true (G.asm)
           have q321 : x9_1 < (l1.length : Int) := of_decide_eq_true (G.asm)
           obtain ⟨ad321, e321, hx321_0⟩ := Kd.at_int HR1.out x9_1 p321 q321
           cases e321
           replace hx321_0 := (HB.out.cell (World.block_lt_of_cell? w _ hx321_0)).trans hx321_0
           replace p321 := eq_true p321
           replace q321 := eq_true q321
           try go_wp2
           have n0_ := Aside0.mk (blk_drew BK320.out)
           have n1_ := Aside0.mk (below_drew1 HB.out)
           clear BK320 HB
           revert n0_ n1_
           intro BK320 HB
           have p323 : 0 ≤ ((ji10) : Int) := of_decide_eq_true (G.asm)
           have q323 : (ji10) < (l1.length : Int) := of_decide_eq_true (G.asm)
           obtain ⟨ad323, e323, hx323_0⟩ := Kd.at_int HR1.out (ji10) p323 q323
           have hw323_0 := hx323_0
           obtain rfl : ad321 = ad323 := (by injection e323)
           replace hx323_0 := (HB.out.cell (World.block_lt_of_cell? w _ hx323_0)).trans hx323_0
           replace p323 := eq_true p323
           replace q323 := eq_true q323
           refine start_ (n := 19) (S := fun w' => w'.cell? ⟨gb320, 0, none⟩ = some (.int .i64 a0_0) ∧ w'.cell? ⟨gb320, 1, none⟩ = some (.slice A0_1 l0_1.length c0_1) ∧ w'.cell? (ad321.add ((ji10)).toNat) = some (.int .i64 (rd l1 (ji10)))) (ds := []) (G.fl 19 0) (c17_6) rfl (c17_6) ⟨(blk_cell BK320.out 0).trans rfl, (blk_cell BK320.out 1).trans rfl, ((HB.out.cell (World.block_lt_of_cell? w _ hw323_0)).trans hw323_0)⟩ (fun hHeld => ?_); refine with_tabW impl_Net_walk.tab4 impl_Net_walk.bits4 (fun HT_ HW_ => ?_)
           generalize wr.drew = w15 at BK320 HB hx323_0 hHeld ⊢
           refine G.pu 1 (some 15) (G.fl 19 2) ?_
           refine G.ta3 0 (some 14) (G.fl 19 3) ?_
           refine one_ (i := 2) (N := some 16) (G.fl 19 7) rfl rfl (one_of HT_.out (c17_6)) (by decide) (fun K hK => ?_)
           refine goes_ Try.func43 (c17_6) rfl #[.agg #[.int .i64 a0_0, .slice A0_1 l0_1.length c0_1], .int .i64 (rd l1 x9_1)] (by rfl) rfl rfl (G.ar) ?_
           with_reducible refine (impl_Net_knot.calls a0_0 _ _ l0_1 (rd l1 x9_1) true _ ?side1 ?side2 A7.out).mono ?_
           (case side1 => repeat (first | exact (Kd.C_below HR0_1.out HB.out) | (with_reducible refine Kd.C_alloc ?_ _) | (with_reducible refine Kd.C_drewN ?_ _) | (with_reducible refine Kd.C_drew ?_)))
           (case side2 => exact HC0_1.out)
           rintro e w16 ⟨rfl, hb⟩
           refine ⟨_, rfl, ?_⟩
           have n0_ := Aside0.mk (blk_below (g := gb320) (o := .cells #[.int .i64 a0_0, .slice A0_1 l0_1.length c0_1] 29 (0, 0)) (G.cb BK320.out) hb)
           have n1_ := Aside0.mk (below_step (G.cB HB.out) hb)
           clear BK320 HB
           revert n0_ n1_
           intro BK320 HB
           (try clear hb)
           (try clear hb2)
           (try clear hk)
           (try clear hi)
           refine hK.out _ _ ⟨(blk_cell BK320.out 0).trans rfl, (blk_cell BK320.out 1).trans rfl, ((HB.out.cell (World.block_lt_of_cell? w _ hw323_0)).trans hw323_0)⟩ (fun hHeld => ?_)
           clear hK K
           refine G.no (some 16) ?_
           refine G.pu 3 (some 17) (G.fl 19 15) ?_
           refine G.pu 4 (some 18) (G.fl 19 31) ?_
           refine G.pu 5 (some 19) (G.fl 19 63) ?_
           refine G.pu 6 (some 20) (G.fl 19 127) ?_
           refine G.pu 7 (some 21) (G.fl 19 255) ?_
           refine G.pu 9 (some 23) (G.fl 19 767) ?_
           refine G.pu 10 (some 24) (G.fl 19 1791) ?_
           refine G.pu 11 (some 25) (G.fl 19 3839) ?_
           refine G.pu 12 (some 26) (G.fl 19 7935) ?_
           refine G.pu 14 (some 28) (G.fl 19 24319) ?_
           refine G.ta3 8 (some 22) (G.fl 19 24575) ?_
           refine G.ta3 13 (some 27) (G.fl 19 32767) ?_
           refine one_ (i := 15) (N := some 29) (G.fl 19 65535) rfl rfl (one_of HT_.out (c17_6)) (by decide) (fun K hK => ?_)
           refine goes_ Try.func52 (c17_6) rfl #[.agg #[.int .i64 a0_0, .slice A0_1 l0_1.length c0_1], .int .i64 (rd l1 (ji10)), .int .i64 (rd l1 x9_1)] (by rfl) rfl rfl (c17_2) ?_
           with_reducible refine (impl_Net_has.calls k1 a0_0 _ _ l0_1 (rd l1 (ji10)) (rd l1 x9_1) true _ ?side1 ?side2 A13.out).mono ?_
           (case side1 => repeat (first | exact (Kd.C_below HR0_1.out HB.out) | (with_reducible refine Kd.C_alloc ?_ _) | (with_reducible refine Kd.C_drewN ?_ _) | (with_reducible refine Kd.C_drew ?_)))
           (case side2 => exact HC0_1.out)
           rintro e w17 ⟨rfl, hb⟩
           refine ⟨_, rfl, ?_⟩
           have n0_ := Aside0.mk (blk_below (g := gb320) (o := .cells #[.int .i64 a0_0, .slice A0_1 l0_1.length c0_1] 29 (0, 0)) (G.cb BK320.out) hb)
           have n1_ := Aside0.mk (below_step (G.cB HB.out) hb)
           clear BK320 HB
           revert n0_ n1_
           intro BK320 HB
           (try clear hb)
           (try clear hb2)
           (try clear hk)
           (try clear hi)
           refine hK.out _ _ ⟨(blk_cell BK320.out 0).trans rfl, (blk_cell BK320.out 1).trans rfl, ((HB.out.cell (World.block_lt_of_cell? w _ hw323_0)).trans hw323_0)⟩ (fun hHeld => ?_)
           clear hK K
           refine G.no (some 29) ?_
           refine G.pu 16 (some 30) (G.fl 19 131071) ?_
           refine G.pu 17 (some 31) (G.fl 19 262143) ?_
           refine G.pu 18 (some 32) (G.fl 19 524287) ?_
           refine done_ (done_of HT_.out (c17_6)) ?_
           try go_wp2
           go_roundg k1
           case measure => have := HK1.out; omega
           case rel => exact ⟨(wrap64 (x9_1 + 1)), (c17_4), H', ⟨by have := HK1.out; omega⟩, ⟨G.cb BK320.out⟩, ⟨G.cB HB.out⟩⟩
          ·replace c14 := Bool.eq_false_iff.mpr c14
           subst c14
           have H1 : (some false) = some r := by rw [if_neg (show ¬ (false = true) by decide)] at H; exact H
           clear H
           have H := H1
           clear H1
           obtain rfl := Option.some.inj H
           have p321 : 0 ≤ (x9_1 : Int) := of_decide_eq_true (G.asm)
           have q321 : x9_1 < (l1.length : Int) := of_decide_eq_true (G.asm)
           obtain ⟨ad321, e321, hx321_0⟩ := Kd.at_int HR1.out x9_1 p321 q321
           cases e321
           replace hx321_0 := (HB.out.cell (World.block_lt_of_cell? w _ hx321_0)).trans hx321_0
           replace p321 := eq_true p321
           replace q321 := eq_true q321
           try go_wp2
           have n0_ := Aside0.mk (blk_drew BK320.out)
           have n1_ := Aside0.mk (below_drew1 HB.out)
           clear BK320 HB
           revert n0_ n1_
           intro BK320 HB
           have p323 : 0 ≤ ((ji10) : Int) := of_decide_eq_true (G.asm)
           have q323 : (ji10) < (l1.length : Int) := of_decide_eq_true (G.asm)
           obtain ⟨ad323, e323, hx323_0⟩ := Kd.at_int HR1.out (ji10) p323 q323
           have hw323_0 := hx323_0
           obtain rfl : ad321 = ad323 := (by injection e323)
           replace hx323_0 := (HB.out.cell (World.block_lt_of_cell? w _ hx323_0)).trans hx323_0
           replace p323 := eq_true p323
           replace q323 := eq_true q323
           refine start_ (n := 19) (S := fun w' => w'.cell? ⟨gb320, 0, none⟩ = some (.int .i64 a0_0) ∧ w'.cell? ⟨gb320, 1, none⟩ = some (.slice A0_1 l0_1.length c0_1) ∧ w'.cell? (ad321.add ((ji10)).toNat) = some (.int .i64 (rd l1 (ji10)))) (ds := []) (G.fl 19 0) (c17_6) rfl (c17_6) ⟨(blk_cell BK320.out 0).trans rfl, (blk_cell BK320.out 1).trans rfl, ((HB.out.cell (World.block_lt_of_cell? w _ hw323_0)).trans hw323_0)⟩ (fun hHeld => ?_); refine with_tabW impl_Net_walk.tab4 impl_Net_walk.bits4 (fun HT_ HW_ => ?_)
           generalize wr.drew = w18 at BK320 HB hx323_0 hHeld ⊢
           refine G.pu 1 (some 15) (G.fl 19 2) ?_
           refine G.ta3 0 (some 14) (G.fl 19 3) ?_
           refine one_ (i := 2) (N := some 16) (G.fl 19 7) rfl rfl (one_of HT_.out (c17_6)) (by decide) (fun K hK => ?_)
           refine goes_ Try.func43 (c17_6) rfl #[.agg #[.int .i64 a0_0, .slice A0_1 l0_1.length c0_1], .int .i64 (rd l1 x9_1)] (by rfl) rfl rfl (G.ar) ?_
           with_reducible refine (impl_Net_knot.calls a0_0 _ _ l0_1 (rd l1 x9_1) true _ ?side1 ?side2 A7.out).mono ?_
           (case side1 => repeat (first | exact (Kd.C_below HR0_1.out HB.out) | (with_reducible refine Kd.C_alloc ?_ _) | (with_reducible refine Kd.C_drewN ?_ _) | (with_reducible refine Kd.C_drew ?_)))
           (case side2 => exact HC0_1.out)
           rintro e w19 ⟨rfl, hb⟩
           refine ⟨_, rfl, ?_⟩
           have n0_ := Aside0.mk (blk_below (g := gb320) (o := .cells #[.int .i64 a0_0, .slice A0_1 l0_1.length c0_1] 29 (0, 0)) (G.cb BK320.out) hb)
           have n1_ := Aside0.mk (below_step (G.cB HB.out) hb)
           clear BK320 HB
           revert n0_ n1_
           intro BK320 HB
           (try clear hb)
           (try clear hb2)
           (try clear hk)
           (try clear hi)
           refine hK.out _ _ ⟨(blk_cell BK320.out 0).trans rfl, (blk_cell BK320.out 1).trans rfl, ((HB.out.cell (World.block_lt_of_cell? w _ hw323_0)).trans hw323_0)⟩ (fun hHeld => ?_)
           clear hK K
           refine G.no (some 16) ?_
           refine G.pu 3 (some 17) (G.fl 19 15) ?_
           refine G.pu 4 (some 18) (G.fl 19 31) ?_
           refine G.pu 5 (some 19) (G.fl 19 63) ?_
           refine G.pu 6 (some 20) (G.fl 19 127) ?_
           refine G.pu 7 (some 21) (G.fl 19 255) ?_
           refine G.pu 9 (some 23) (G.fl 19 767) ?_
           refine G.pu 10 (some 24) (G.fl 19 1791) ?_
           refine G.pu 11 (some 25) (G.fl 19 3839) ?_
           refine G.pu 12 (some 26) (G.fl 19 7935) ?_
           refine G.pu 14 (some 28) (G.fl 19 24319) ?_
           refine G.ta3 8 (some 22) (G.fl 19 24575) ?_
           refine G.ta3 13 (some 27) (G.fl 19 32767) ?_
           refine one_ (i := 15) (N := some 29) (G.fl 19 65535) rfl rfl (one_of HT_.out (c17_6)) (by decide) (fun K hK => ?_)
           refine goes_ Try.func52 (c17_6) rfl #[.agg #[.int .i64 a0_0, .slice A0_1 l0_1.length c0_1], .int .i64 (rd l1 (ji10)), .int .i64 (rd l1 x9_1)] (by rfl) rfl rfl (c17_2) ?_
           with_reducible refine (impl_Net_has.calls k1 a0_0 _ _ l0_1 (rd l1 (ji10)) (rd l1 x9_1) false _ ?side1 ?side2 A13.out).mono ?_
           (case side1 => repeat (first | exact (Kd.C_below HR0_1.out HB.out) | (with_reducible refine Kd.C_alloc ?_ _) | (with_reducible refine Kd.C_drewN ?_ _) | (with_reducible refine Kd.C_drew ?_)))
           (case side2 => exact HC0_1.out)
           rintro e w20 ⟨rfl, hb⟩
           refine ⟨_, rfl, ?_⟩
           have n0_ := Aside0.mk (blk_below (g := gb320) (o := .cells #[.int .i64 a0_0, .slice A0_1 l0_1.length c0_1] 29 (0, 0)) (G.cb BK320.out) hb)
           have n1_ := Aside0.mk (below_step (G.cB HB.out) hb)
           clear BK320 HB
           revert n0_ n1_
           intro BK320 HB
           (try clear hb)
           (try clear hb2)
           (try clear hk)
           (try clear hi)
           refine hK.out _ _ ⟨(blk_cell BK320.out 0).trans rfl, (blk_cell BK320.out 1).trans rfl, ((HB.out.cell (World.block_lt_of_cell? w _ hw323_0)).trans hw323_0)⟩ (fun hHeld => ?_)
           clear hK K
           refine G.no (some 29) ?_
           refine G.pu 16 (some 30) (G.fl 19 131071) ?_
           refine G.pu 17 (some 31) (G.fl 19 262143) ?_
           refine G.pu 18 (some 32) (G.fl 19 524287) ?_
           refine done_ (done_of HT_.out (c17_6)) ?_
           try go_wp2
           go_ret
           exact ⟨by first | rfl | (simp [errW_none, errW_some] <;> rfl) | (simp only [← hji10]; first | rfl | (simp [errW_none, errW_some] <;> rfl)) | (simp [*, errW_none, errW_some] <;> rfl), G.cB HB.out⟩
         ·rw [if_neg c12] at H
          exact absurd H (by simp)
        ·rw [if_neg c11] at H
         exact absurd H (by simp)
       ·rw [if_neg c9] at H
        have c9b0 : decide (0 < x9_1) = false := decide_eq_false c9
        clear c9
        have H' := Aside0.mk H
        clear H
        have p321 : 0 ≤ (x9_1 : Int) := of_decide_eq_true (G.asm)
        have q321 : x9_1 < (l1.length : Int) := of_decide_eq_true (G.asm)
        obtain ⟨ad321, e321, hx321_0⟩ := Kd.at_int HR1.out x9_1 p321 q321
        cases e321
        replace hx321_0 := (HB.out.cell (World.block_lt_of_cell? w _ hx321_0)).trans hx321_0
        replace p321 := eq_true p321
        replace q321 := eq_true q321
        try go_wp2
        have n0_ := Aside0.mk (blk_drew BK320.out)
        have n1_ := Aside0.mk (below_drew1 HB.out)
        clear BK320 HB
        revert n0_ n1_
        intro BK320 HB
        refine start_ (n := 19) (S := fun w' => w'.cell? ⟨gb320, 0, none⟩ = some (.int .i64 a0_0) ∧ w'.cell? ⟨gb320, 1, none⟩ = some (.slice A0_1 l0_1.length c0_1)) (ds := []) (G.fl 19 0) (c17_6) rfl (c17_6) ⟨(blk_cell BK320.out 0).trans rfl, (blk_cell BK320.out 1).trans rfl⟩ (fun hHeld => ?_); refine with_tabW impl_Net_walk.tab4 impl_Net_walk.bits4 (fun HT_ HW_ => ?_)
        generalize wr.drew = w21 at BK320 HB hHeld ⊢
        refine G.pu 1 (some 15) (G.fl 19 2) ?_
        refine G.ta2 0 (some 14) (G.fl 19 3) ?_
        refine one_ (i := 2) (N := some 16) (G.fl 19 7) rfl rfl (one_of HT_.out (c17_6)) (by decide) (fun K hK => ?_)
        refine goes_ Try.func43 (c17_6) rfl #[.agg #[.int .i64 a0_0, .slice A0_1 l0_1.length c0_1], .int .i64 (rd l1 x9_1)] (by rfl) rfl rfl (G.ar) ?_
        with_reducible refine (impl_Net_knot.calls a0_0 _ _ l0_1 (rd l1 x9_1) true _ ?side1 ?side2 A7.out).mono ?_
        (case side1 => repeat (first | exact (Kd.C_below HR0_1.out HB.out) | (with_reducible refine Kd.C_alloc ?_ _) | (with_reducible refine Kd.C_drewN ?_ _) | (with_reducible refine Kd.C_drew ?_)))
        (case side2 => exact HC0_1.out)
        rintro e w22 ⟨rfl, hb⟩
        refine ⟨_, rfl, ?_⟩
        have n0_ := Aside0.mk (blk_below (g := gb320) (o := .cells #[.int .i64 a0_0, .slice A0_1 l0_1.length c0_1] 29 (0, 0)) (G.cb BK320.out) hb)
        have n1_ := Aside0.mk (below_step (G.cB HB.out) hb)
        clear BK320 HB
        revert n0_ n1_
        intro BK320 HB
        (try clear hb)
        (try clear hb2)
        (try clear hk)
        (try clear hi)
        refine hK.out _ _ ⟨(blk_cell BK320.out 0).trans rfl, (blk_cell BK320.out 1).trans rfl⟩ (fun hHeld => ?_)
        clear hK K
        refine G.no (some 16) ?_
        refine G.pu 3 (some 17) (G.fl 19 15) ?_
        refine G.pu 4 (some 18) (G.fl 19 31) ?_
        refine G.pu 5 (some 19) (G.fl 19 63) ?_
        refine G.pu 6 (some 20) (G.fl 19 127) ?_
        refine G.pu 7 (some 21) (G.fl 19 255) ?_
        refine G.pf 8 (some 22) (G.fl 19 511) ?_
        refine G.pf 9 (some 23) (G.fl 19 1023) ?_
        refine G.pf 10 (some 24) (G.fl 19 2047) ?_
        refine G.pf 11 (some 25) (G.fl 19 4095) ?_
        refine G.pf 12 (some 26) (G.fl 19 8191) ?_
        refine G.pf 13 (some 27) (G.fl 19 16383) ?_
        refine G.pf 14 (some 28) (G.fl 19 32767) ?_
        refine G.pf 15 (some 29) (G.fl 19 65535) ?_
        refine G.pf 16 (some 30) (G.fl 19 131071) ?_
        refine G.pu 17 (some 31) (G.fl 19 262143) ?_
        refine G.pu 18 (some 32) (G.fl 19 524287) ?_
        refine done_ (done_of HT_.out (c17_6)) ?_
        try go_wp2
        go_roundg k1
        case measure => have := HK1.out; omega
        case rel => exact ⟨(wrap64 (x9_1 + 1)), (c17_4), H', ⟨by have := HK1.out; omega⟩, ⟨G.cb BK320.out⟩, ⟨G.cB HB.out⟩⟩
      ·replace c8 := Bool.eq_false_iff.mpr c8
       subst c8
       have H1 : (some false) = some r := by rw [if_neg (show ¬ (false = true) by decide)] at H; exact H
       clear H
       have H := H1
       clear H1
       obtain rfl := Option.some.inj H
       have p321 : 0 ≤ (x9_1 : Int) := of_decide_eq_true (G.asm)
       have q321 : x9_1 < (l1.length : Int) := of_decide_eq_true (G.asm)
       obtain ⟨ad321, e321, hx321_0⟩ := Kd.at_int HR1.out x9_1 p321 q321
       cases e321
       replace hx321_0 := (HB.out.cell (World.block_lt_of_cell? w _ hx321_0)).trans hx321_0
       replace p321 := eq_true p321
       replace q321 := eq_true q321
       try go_wp2
       have n0_ := Aside0.mk (blk_drew BK320.out)
       have n1_ := Aside0.mk (below_drew1 HB.out)
       clear BK320 HB
       revert n0_ n1_
       intro BK320 HB
       refine start_ (n := 19) (S := fun w' => w'.cell? ⟨gb320, 0, none⟩ = some (.int .i64 a0_0) ∧ w'.cell? ⟨gb320, 1, none⟩ = some (.slice A0_1 l0_1.length c0_1)) (ds := []) (G.fl 19 0) (c17_6) rfl (c17_6) ⟨(blk_cell BK320.out 0).trans rfl, (blk_cell BK320.out 1).trans rfl⟩ (fun hHeld => ?_); refine with_tabW impl_Net_walk.tab4 impl_Net_walk.bits4 (fun HT_ HW_ => ?_)
       generalize wr.drew = w23 at BK320 HB hHeld ⊢
       refine G.pu 1 (some 15) (G.fl 19 2) ?_
       refine G.ta2 0 (some 14) (G.fl 19 3) ?_
       refine one_ (i := 2) (N := some 16) (G.fl 19 7) rfl rfl (one_of HT_.out (c17_6)) (by decide) (fun K hK => ?_)
       refine goes_ Try.func43 (c17_6) rfl #[.agg #[.int .i64 a0_0, .slice A0_1 l0_1.length c0_1], .int .i64 (rd l1 x9_1)] (by rfl) rfl rfl (G.ar) ?_
       with_reducible refine (impl_Net_knot.calls a0_0 _ _ l0_1 (rd l1 x9_1) false _ ?side1 ?side2 A7.out).mono ?_
       (case side1 => repeat (first | exact (Kd.C_below HR0_1.out HB.out) | (with_reducible refine Kd.C_alloc ?_ _) | (with_reducible refine Kd.C_drewN ?_ _) | (with_reducible refine Kd.C_drew ?_)))
       (case side2 => exact HC0_1.out)
       rintro e w24 ⟨rfl, hb⟩
       refine ⟨_, rfl, ?_⟩
       have n0_ := Aside0.mk (blk_below (g := gb320) (o := .cells #[.int .i64 a0_0, .slice A0_1 l0_1.length c0_1] 29 (0, 0)) (G.cb BK320.out) hb)
       have n1_ := Aside0.mk (below_step (G.cB HB.out) hb)
       clear BK320 HB
       revert n0_ n1_
       intro BK320 HB
       (try clear hb)
       (try clear hb2)
       (try clear hk)
       (try clear hi)
       refine hK.out _ _ ⟨(blk_cell BK320.out 0).trans rfl, (blk_cell BK320.out 1).trans rfl⟩ (fun hHeld => ?_)
       clear hK K
       refine G.no (some 16) ?_
       refine G.pu 3 (some 17) (G.fl 19 15) ?_
       refine G.pu 4 (some 18) (G.fl 19 31) ?_
       refine G.pf 5 (some 19) (G.fl 19 63) ?_
       refine G.pf 6 (some 20) (G.fl 19 127) ?_
       refine G.pf 7 (some 21) (G.fl 19 255) ?_
       refine G.pf 8 (some 22) (G.fl 19 511) ?_
       refine G.pf 9 (some 23) (G.fl 19 1023) ?_
       refine G.pf 10 (some 24) (G.fl 19 2047) ?_
       refine G.pf 11 (some 25) (G.fl 19 4095) ?_
       refine G.pf 12 (some 26) (G.fl 19 8191) ?_
       refine G.pf 13 (some 27) (G.fl 19 16383) ?_
       refine G.pf 14 (some 28) (G.fl 19 32767) ?_
       refine G.pf 15 (some 29) (G.fl 19 65535) ?_
       refine G.pf 16 (some 30) (G.fl 19 131071) ?_
       refine G.pf 17 (some 31) (G.fl 19 262143) ?_
       refine G.pu 18 (some 32) (G.fl 19 524287) ?_
       refine done_ (done_of HT_.out (c17_6)) ?_
       try go_wp2
       go_ret
       exact ⟨c17_3, G.cB HB.out⟩
     ·rw [if_neg c6] at H
      exact absurd H (by simp)
    ·rw [if_neg c5] at H
     exact absurd H (by simp)
   ·rw [if_neg c4] at H
    have c4b0 : decide (x9_1 < (l1.length : Int)) = false := decide_eq_false c4
    clear c4
    obtain rfl := Option.some.inj H
    go_wp2
    go_ret
    exact ⟨c17_3, G.cB HB.out⟩

/-! ### impl_TrailOk: function 21 -/
mutual
def impl_TrailOk.j0 : Nat → List Int → Bool → Int → List (S63) → Option (Bool)
 | 0, _, _, _, _ => none
 | k + 1, x1, x24, x338000, x338001 => if x24 = true then (some false) else (impl_TrailOk.l0 k x1 1 x338000 x338001)
def impl_TrailOk.l0 : Nat → List Int → Int → Int → List (S63) → Option (Bool)
 | 0, _, _, _, _ => none
 | k + 1, x1, x6, x341000, x341001 => if x6 < (x1.length : Int) then (if 0 ≤ (wrap64 (x6 - 1)) then (if (wrap64 (x6 - 1)) < (x1.length : Int) then (if 0 ≤ x6 then ((impl_tie.f (rd x1 (wrap64 (x6 - 1))) (rd x1 x6)).bind fun bt343 => ((impl_Net_less.f k x341000 x341001 (([(⟨bt343.1, bt343.2⟩ : S63)] : List (S63)))).bind fun bt348 => (impl_TrailOk.l0 k x1 (wrap64 (x6 + 1)) bt348.1 bt348.2))) else (none)) else (none)) else (none)) else (some ((x341001.length : Int) == 0))
end
def impl_TrailOk.f (k : Nat) (a0_0 : Int) (l0_1 : List (S63)) (l1 : List Int) : Option (Bool) := (impl_NetOk.f k a0_0 l0_1).bind fun t338 => (if t338 = true then (if (l1.length : Int) = (wrap64 ((l0_1.length : Int) + 1)) then ((impl_Net_walk.f k a0_0 l0_1 l1).bind fun t339 => (impl_TrailOk.j0 k l1 (!t339) a0_0 l0_1)) else (impl_TrailOk.j0 k l1 true a0_0 l0_1)) else (impl_TrailOk.j0 k l1 true a0_0 l0_1))
theorem impl_TrailOk.mono_l : ∀ k, (∀ y0 y1 y2 y3, LeO (impl_TrailOk.j0 k y0 y1 y2 y3) (impl_TrailOk.j0 (k + 1) y0 y1 y2 y3)) ∧ (∀ y0 y1 y2 y3, LeO (impl_TrailOk.l0 k y0 y1 y2 y3) (impl_TrailOk.l0 (k + 1) y0 y1 y2 y3))
 | 0 => ⟨fun _ _ _ _ r h => by simp [impl_TrailOk.j0] at h, fun _ _ _ _ r h => by simp [impl_TrailOk.l0] at h⟩
 | k + 1 => by
  obtain ⟨ih0, ih1⟩ := impl_TrailOk.mono_l k
  refine ⟨?_, ?_⟩
  ·intro y0 y1 y2 y3
   unfold impl_TrailOk.j0
   repeat' first
   | (with_reducible exact ih0 _ _ _ _)
   | (with_reducible exact ih1 _ _ _ _)
   | (with_reducible exact impl_NetOk.mono _ _ _)
   | (with_reducible exact impl_Net_less.mono _ _ _ _)
   | (with_reducible exact impl_Net_walk.mono _ _ _ _)
   | (with_reducible exact LeO.refl _)
   | (with_reducible exact LeO.none _)
   | (with_reducible refine LeO.ite ?_ ?_)
   | (with_reducible refine LeO.bind ?_ (fun _ => ?_))
   | exact ih0 _ _ _ _
   | exact ih1 _ _ _ _
   | exact impl_NetOk.mono _ _ _
   | exact impl_Net_less.mono _ _ _ _
   | exact impl_Net_walk.mono _ _ _ _
   | exact LeO.none _
   | refine LeO.ite ?_ ?_
   | refine LeO.bind ?_ (fun _ => ?_)
  ·intro y0 y1 y2 y3
   unfold impl_TrailOk.l0
   repeat' first
   | (with_reducible exact ih0 _ _ _ _)
   | (with_reducible exact ih1 _ _ _ _)
   | (with_reducible exact impl_NetOk.mono _ _ _)
   | (with_reducible exact impl_Net_less.mono _ _ _ _)
   | (with_reducible exact impl_Net_walk.mono _ _ _ _)
   | (with_reducible exact LeO.refl _)
   | (with_reducible exact LeO.none _)
   | (with_reducible refine LeO.ite ?_ ?_)
   | (with_reducible refine LeO.bind ?_ (fun _ => ?_))
   | exact ih0 _ _ _ _
   | exact ih1 _ _ _ _
   | exact impl_NetOk.mono _ _ _
   | exact impl_Net_less.mono _ _ _ _
   | exact impl_Net_walk.mono _ _ _ _
   | exact LeO.none _
   | refine LeO.ite ?_ ?_
   | refine LeO.bind ?_ (fun _ => ?_)
theorem impl_TrailOk.mono : ∀ a0 a1 a2 k, LeO (impl_TrailOk.f k a0 a1 a2) (impl_TrailOk.f (k + 1) a0 a1 a2) := by
 intro a0 a1 a2 k
 obtain ⟨ih0, ih1⟩ := impl_TrailOk.mono_l k
 unfold impl_TrailOk.f
 repeat' first
   | (with_reducible exact ih0 _ _ _ _)
   | (with_reducible exact ih1 _ _ _ _)
   | (with_reducible exact impl_NetOk.mono _ _ _)
   | (with_reducible exact impl_Net_less.mono _ _ _ _)
   | (with_reducible exact impl_Net_walk.mono _ _ _ _)
   | (with_reducible exact LeO.refl _)
   | (with_reducible exact LeO.none _)
   | (with_reducible refine LeO.ite ?_ ?_)
   | (with_reducible refine LeO.bind ?_ (fun _ => ?_))
   | exact ih0 _ _ _ _
   | exact ih1 _ _ _ _
   | exact impl_NetOk.mono _ _ _
   | exact impl_Net_less.mono _ _ _ _
   | exact impl_Net_walk.mono _ _ _ _
   | exact LeO.none _
   | refine LeO.ite ?_ ?_
   | refine LeO.bind ?_ (fun _ => ?_)
def impl_TrailOk.T7 : Bool × List (List Nat × List Nat) := (true, [([], []), ([], []), ([], []), ([2], [2]), ([1, 3], [1, 3]), ([4], [4]), ([], []), ([], []), ([6, 7], [6, 7]), ([8], [8]), ([5, 9], [5, 9]), ([10], [10]), ([0, 11, 10], [0, 11]), ([12, 12, 0, 1, 2, 3, 4, 5, 6, 7, 8, 9, 10, 11, 12], [12])])
def impl_TrailOk.B7 : List Nat := [0, 0, 0, 4, 14, 30, 0, 0, 192, 448, 1022, 2046, 4095, 8191]
theorem impl_TrailOk.tab7 : rtab .any (opsOf Try.f21 7) = impl_TrailOk.T7 := by kernel_rfl
theorem impl_TrailOk.bits7 : waitsOk impl_TrailOk.T7.2 impl_TrailOk.B7 = true := by kernel_rfl
set_option maxHeartbeats 8000000 in
set_option maxRecDepth 100000 in
theorem impl_TrailOk.calls (k : Nat) (a0_0 : Int) (P0_1_ : Nat → Prop) (A0_1 : Option Addr) (c0_1 : Nat) (l0_1 : List (S63)) (A1 : Option Addr) (c1 : Nat) (l1 : List Int) (r : Bool) (w : World) (hs0_1 : Kd.V k63 63 w w.heap.size (fun k_ => P0_1_ k_) (.slice A0_1 l0_1.length c0_1) l0_1) (hr1 : Kd.C (Kd.int .i64) w A1 l1.length l1) (hc1 : l1.length ≤ c1) (h : impl_TrailOk.f k a0_0 l0_1 l1 = some r) :
  Calls Try.prog 21 #[.agg #[.int .i64 a0_0, .slice A0_1 l0_1.length c0_1], .slice A1 l1.length c1] w fun e w' => e = .returned (.bool r) ∧ Below w.heap.size w w' := by
 have hu29 := Try.underlying29
 have HO0_1 := Aside0.mk (show Kd.V k63 63 w w.heap.size (fun k_ => (P0_1_ k_ ∨ w.heap.size ≤ k_)) (.slice A0_1 l0_1.length c0_1) l0_1 from Kd.V_mono hs0_1 (fun k_ hk => .inl hk))
 have HR1 := Aside0.mk hr1
 have HC1 := Aside0.mk hc1
 clear hr1 hc1
 have HB := Aside0.mk (Below.refl w.heap.size w)
 have H : ((impl_NetOk.f k a0_0 l0_1).bind fun t338 => (if t338 = true then (if (l1.length : Int) = (wrap64 ((l0_1.length : Int) + 1)) then ((impl_Net_walk.f k a0_0 l0_1 l1).bind fun t339 => (impl_TrailOk.j0 k l1 (!t339) a0_0 l0_1)) else (impl_TrailOk.j0 k l1 true a0_0 l0_1)) else (impl_TrailOk.j0 k l1 true a0_0 l0_1))) = some r := h
 clear h
 have HC3 := Aside0.mk H
 clear H
 go_enter Try.func21, Try.ntmps21
 go_upto_region 1 with (first | ((with_reducible refine gate_dst (N := 2) rfl ?_); (try (refine gate_guard (by rfl) ?_; dsimp only)); refine G.be 2 #[.int .i64 a0_0, .slice A0_1 l0_1.length c0_1] 29 ?_; intro gb337 hg w4 hbox hb; have n0_ := Aside0.mk (Kd.V_below (Kd.V_elderB (G.cV HO0_1.out) gb337 (Nat.le_of_eq hg.symm)) hb); have n1_ := Aside0.mk (below_step (G.cB HB.out) hb); have n2_ := Aside0.mk (hbox); have n3_ := Aside0.mk ((c17_5 : w.heap.size ≤ gb337)); have n4_ := Aside0.mk ((c17_5 : w.heap.size ≤ gb337)); clear HO0_1 HB; revert n0_ n1_ n2_ n3_ n4_; intro HO0_1 HB BK337 GW337 GE337; clear hb hbox hg))
 (try simp only [Act.put, List.setIfInBounds_toArray, List.set_cons_zero, List.set_cons_succ])
 go_cut [24] (fun v24 wc => ∃ (kq : Nat) (x24_2 : Bool), v24 = .bool x24_2 ∧ Aside0 (impl_TrailOk.j0 kq l1 x24_2 a0_0 l0_1 = some r) ∧ Aside0 (kq ≤ k) ∧ Aside0 (Kd.V k63 63 wc w.heap.size (fun k_ => (P0_1_ k_ ∨ w.heap.size ≤ k_) ∧ k_ ≠ gb337) (.slice A0_1 l0_1.length c0_1) l0_1) ∧ Aside0 (wc.heap[gb337]? = some (.cells #[.int .i64 a0_0, (.slice A0_1 l0_1.length c0_1)] 29 (0, 0))) ∧ Aside0 (Below w.heap.size w wc))
 case first =>
  have H := HC3.out
  clear HC3
  replace H := Option.bind_eq_some_iff.mp H
  obtain ⟨t338, A50, H⟩ := H
  replace H : (if t338 = true then (if (l1.length : Int) = (wrap64 ((l0_1.length : Int) + 1)) then ((impl_Net_walk.f k a0_0 l0_1 l1).bind fun t339 => (impl_TrailOk.j0 k l1 (!t339) a0_0 l0_1)) else (impl_TrailOk.j0 k l1 true a0_0 l0_1)) else (impl_TrailOk.j0 k l1 true a0_0 l0_1)) = some r := H
  have A5 := Aside0.mk A50
  clear A50
  by_cases c6 : t338 = true
  ·subst c6
   have H1 : (if (l1.length : Int) = (wrap64 ((l0_1.length : Int) + 1)) then ((impl_Net_walk.f k a0_0 l0_1 l1).bind fun t339 => (impl_TrailOk.j0 k l1 (!t339) a0_0 l0_1)) else (impl_TrailOk.j0 k l1 true a0_0 l0_1)) = some r := by rw [if_pos rfl] at H; exact H
   clear H
   have H := H1
   clear H1
   by_cases c7 : (l1.length : Int) = (wrap64 ((l0_1.length : Int) + 1))
   ·rw [if_pos c7] at H
    have c7b0 : ((l1.length : Int) == (wrap64 ((l0_1.length : Int) + 1))) = true := beq_iff_eq.mpr c7
    have c7b1 : ((l1.length : Int) != (wrap64 ((l0_1.length : Int) + 1))) = false := bne_eq_false_iff_eq.mpr c7
    clear c7
    (first | rw [c7b0] | (simp only [i64_w, i32_w]; rw [c7b0]) | skip)
    replace H := Option.bind_eq_some_iff.mp H
    obtain ⟨t339, A80, H⟩ := H
    replace H : (impl_TrailOk.j0 k l1 (!t339) a0_0 l0_1) = some r := H
    have A8 := Aside0.mk A80
    clear A80
    have H' := Aside0.mk H
    clear H
    have hcz9_0 : w4.cell? ⟨gb337, 0, none⟩ = some (.int .i64 a0_0) := (blk_cell BK337.out 0).trans rfl
    have hcz9_1 : w4.cell? ⟨gb337, 1, none⟩ = some (.slice A0_1 l0_1.length c0_1) := (blk_cell BK337.out 1).trans rfl
    have hfz9_0 := blk_frozen BK337.out 0
    have hfz9_1 := blk_frozen BK337.out 1
    go_wp2_with (first | ((with_reducible refine gate_callee (f := 42) rfl ?_); refine goesL_ (some 8) rfl rfl Try.func42 (c17_6) rfl #[.agg #[.int .i64 a0_0, .slice A0_1 l0_1.length c0_1]] rfl (G.ar) ?_; (with_reducible refine (impl_NetOk.calls k a0_0 _ _ l0_1 true _ ?side1 ?side2 A5.out).mono ?_); (case side1 => repeat (first | exact (Kd.V_reads' HO0_1.out).2.2 | (with_reducible refine Kd.C_alloc ?_ _) | (with_reducible refine Kd.C_drewN ?_ _) | (with_reducible refine Kd.C_drew ?_))); (case side2 => exact (Kd.V_reads' HO0_1.out).2.1); rintro e w10 ⟨rfl, hb⟩; refine ⟨_, rfl, ?_⟩; have n0_ := Aside0.mk (Kd.V_below (G.cV HO0_1.out) hb); have n1_ := Aside0.mk (blk_below (g := gb337) (o := .cells #[.int .i64 a0_0, .slice A0_1 l0_1.length c0_1] 29 (0, 0)) (G.cb BK337.out) hb); have n2_ := Aside0.mk (below_step (G.cB HB.out) hb); clear HO0_1 BK337 HB; revert n0_ n1_ n2_; intro HO0_1 BK337 HB; (try clear hb); (try clear hb2); (try clear hk); (try clear hi); have hcz11_0 : w10.cell? ⟨gb337, 0, none⟩ = some (.int .i64 a0_0) := (blk_cell BK337.out 0).trans rfl; have hcz11_1 : w10.cell? ⟨gb337, 1, none⟩ = some (.slice A0_1 l0_1.length c0_1) := (blk_cell BK337.out 1).trans rfl; have hfz11_0 := blk_frozen BK337.out 0; have hfz11_1 := blk_frozen BK337.out 1) | (go_at_call 49; (with_reducible refine (impl_Net_walk.calls k a0_0 _ _ l0_1 _ _ l1 t339 _ ?side1 ?side2 ?side3 ?side4 A8.out).mono ?_); (case side1 => repeat (first | exact (Kd.V_reads' HO0_1.out).2.2 | (with_reducible refine Kd.C_alloc ?_ _) | (with_reducible refine Kd.C_drewN ?_ _) | (with_reducible refine Kd.C_drew ?_))); (case side2 => exact (Kd.V_reads' HO0_1.out).2.1); (case side3 => repeat (first | exact (Kd.C_below HR1.out HB.out) | (with_reducible refine Kd.C_alloc ?_ _) | (with_reducible refine Kd.C_drewN ?_ _) | (with_reducible refine Kd.C_drew ?_))); (case side4 => exact HC1.out); rintro e w12 ⟨rfl, hb⟩; have n0_ := Aside0.mk (Kd.V_below (G.cV HO0_1.out) hb); have n1_ := Aside0.mk (blk_below (g := gb337) (o := .cells #[.int .i64 a0_0, .slice A0_1 l0_1.length c0_1] 29 (0, 0)) (G.cb BK337.out) hb); have n2_ := Aside0.mk (below_step (G.cB HB.out) hb); clear HO0_1 BK337 HB; revert n0_ n1_ n2_; intro HO0_1 BK337 HB; (try clear hb); (try clear hb2); (try clear hk); (try clear hi)))
    go_meet
    case rel => exact ⟨_, (!t339), (c17_4), H', ⟨by first | omega | exact Nat.le_refl _⟩, ⟨G.cV HO0_1.out⟩, ⟨G.cb BK337.out⟩, ⟨G.cB HB.out⟩⟩
   ·rw [if_neg c7] at H
    have c7b0 : ((l1.length : Int) == (wrap64 ((l0_1.length : Int) + 1))) = false := beq_eq_false_iff_ne.mpr c7
    have c7b1 : ((l1.length : Int) != (wrap64 ((l0_1.length : Int) + 1))) = true := bne_iff_ne.mpr c7
    (first | rw [c7b0] | (simp only [i64_w, i32_w]; rw [c7b0]) | skip)
    have H' := Aside0.mk H
    clear H
    have hcz13_0 : w4.cell? ⟨gb337, 0, none⟩ = some (.int .i64 a0_0) := (blk_cell BK337.out 0).trans rfl
    have hcz13_1 : w4.cell? ⟨gb337, 1, none⟩ = some (.slice A0_1 l0_1.length c0_1) := (blk_cell BK337.out 1).trans rfl
    have hfz13_0 := blk_frozen BK337.out 0
    have hfz13_1 := blk_frozen BK337.out 1
    go_wp2_with (first | ((with_reducible refine gate_callee (f := 42) rfl ?_); refine goesL_ (some 8) rfl rfl Try.func42 (c17_6) rfl #[.agg #[.int .i64 a0_0, .slice A0_1 l0_1.length c0_1]] rfl (G.ar) ?_; (with_reducible refine (impl_NetOk.calls k a0_0 _ _ l0_1 true _ ?side1 ?side2 A5.out).mono ?_); (case side1 => repeat (first | exact (Kd.V_reads' HO0_1.out).2.2 | (with_reducible refine Kd.C_alloc ?_ _) | (with_reducible refine Kd.C_drewN ?_ _) | (with_reducible refine Kd.C_drew ?_))); (case side2 => exact (Kd.V_reads' HO0_1.out).2.1); rintro e w14 ⟨rfl, hb⟩; refine ⟨_, rfl, ?_⟩; have n0_ := Aside0.mk (Kd.V_below (G.cV HO0_1.out) hb); have n1_ := Aside0.mk (blk_below (g := gb337) (o := .cells #[.int .i64 a0_0, .slice A0_1 l0_1.length c0_1] 29 (0, 0)) (G.cb BK337.out) hb); have n2_ := Aside0.mk (below_step (G.cB HB.out) hb); clear HO0_1 BK337 HB; revert n0_ n1_ n2_; intro HO0_1 BK337 HB; (try clear hb); (try clear hb2); (try clear hk); (try clear hi); have hcz15_0 : w14.cell? ⟨gb337, 0, none⟩ = some (.int .i64 a0_0) := (blk_cell BK337.out 0).trans rfl; have hcz15_1 : w14.cell? ⟨gb337, 1, none⟩ = some (.slice A0_1 l0_1.length c0_1) := (blk_cell BK337.out 1).trans rfl; have hfz15_0 := blk_frozen BK337.out 0; have hfz15_1 := blk_frozen BK337.out 1))
    go_meet
    case rel => exact ⟨_, (true), (c17_4), H', ⟨by first | omega | exact Nat.le_refl _⟩, ⟨G.cV HO0_1.out⟩, ⟨G.cb BK337.out⟩, ⟨G.cB HB.out⟩⟩
  ·replace c6 := Bool.eq_false_iff.mpr c6
   subst c6
   have H1 : (impl_TrailOk.j0 k l1 true a0_0 l0_1) = some r := by rw [if_neg (show ¬ (false = true) by decide)] at H; exact H
   clear H
   have H := H1
   clear H1
   have H' := Aside0.mk H
   clear H
   have hcz16_0 : w4.cell? ⟨gb337, 0, none⟩ = some (.int .i64 a0_0) := (blk_cell BK337.out 0).trans rfl
   have hcz16_1 : w4.cell? ⟨gb337, 1, none⟩ = some (.slice A0_1 l0_1.length c0_1) := (blk_cell BK337.out 1).trans rfl
   have hfz16_0 := blk_frozen BK337.out 0
   have hfz16_1 := blk_frozen BK337.out 1
   go_wp2_with (first | ((with_reducible refine gate_callee (f := 42) rfl ?_); refine goesL_ (some 8) rfl rfl Try.func42 (c17_6) rfl #[.agg #[.int .i64 a0_0, .slice A0_1 l0_1.length c0_1]] rfl (G.ar) ?_; (with_reducible refine (impl_NetOk.calls k a0_0 _ _ l0_1 false _ ?side1 ?side2 A5.out).mono ?_); (case side1 => repeat (first | exact (Kd.V_reads' HO0_1.out).2.2 | (with_reducible refine Kd.C_alloc ?_ _) | (with_reducible refine Kd.C_drewN ?_ _) | (with_reducible refine Kd.C_drew ?_))); (case side2 => exact (Kd.V_reads' HO0_1.out).2.1); rintro e w17 ⟨rfl, hb⟩; refine ⟨_, rfl, ?_⟩; have n0_ := Aside0.mk (Kd.V_below (G.cV HO0_1.out) hb); have n1_ := Aside0.mk (blk_below (g := gb337) (o := .cells #[.int .i64 a0_0, .slice A0_1 l0_1.length c0_1] 29 (0, 0)) (G.cb BK337.out) hb); have n2_ := Aside0.mk (below_step (G.cB HB.out) hb); clear HO0_1 BK337 HB; revert n0_ n1_ n2_; intro HO0_1 BK337 HB; (try clear hb); (try clear hb2); (try clear hk); (try clear hi)))
   go_meet
   case rel => exact ⟨_, (true), (c17_4), H', ⟨by first | omega | exact Nat.le_refl _⟩, ⟨G.cV HO0_1.out⟩, ⟨G.cb BK337.out⟩, ⟨G.cB HB.out⟩⟩
 case rest =>
  clear HC3
  (try clear c1); (try clear c2); (try clear p2); (try clear c4); (try clear c6); (try clear p6); (try clear c7); (try clear c7b0); (try clear c7b1); (try clear hcz11_0); (try clear hcz11_1); (try clear hcz13_0); (try clear hcz13_1); (try clear hcz15_0); (try clear hcz15_1); (try clear hcz16_0); (try clear hcz16_1); (try clear hcz9_0); (try clear hcz9_1); (try clear hfz11_0); (try clear hfz11_1); (try clear hfz13_0); (try clear hfz13_1); (try clear hfz15_0); (try clear hfz15_1); (try clear hfz16_0); (try clear hfz16_1); (try clear hfz9_0); (try clear hfz9_1)
  obtain ⟨kq, x24_2, rfl, HA, HJ2, HO_338001, BK337, HB⟩ := hcut
  cases kq with
  | zero => exact absurd HA.out (by simp [impl_TrailOk.j0])
  | succ kj2 =>
   have H := HA.out
   clear HA
   simp only [impl_TrailOk.j0] at H
   by_cases c18 : x24_2 = true
   ·subst c18
    have H1 : (some false) = some r := by rw [if_pos rfl] at H; exact H
    clear H
    have H := H1
    clear H1
    obtain rfl := Option.some.inj H
    go_wp2
    go_ret
    exact ⟨c17_3, G.cB HB.out⟩
   ·replace c18 := Bool.eq_false_iff.mpr c18
    subst c18
    have H1 : (impl_TrailOk.l0 kj2 l1 1 a0_0 l0_1) = some r := by rw [if_neg (show ¬ (false = true) by decide)] at H; exact H
    clear H
    have H := H1
    clear H1
    have H' := Aside0.mk H
    clear H
    have hcz19_0 : wc.cell? ⟨gb337, 0, none⟩ = some (.int .i64 a0_0) := (blk_cell BK337.out 0).trans rfl
    have hcz19_1 : wc.cell? ⟨gb337, 1, none⟩ = some (.slice A0_1 l0_1.length c0_1) := (blk_cell BK337.out 1).trans rfl
    have hfz19_0 := blk_frozen BK337.out 0
    have hfz19_1 := blk_frozen BK337.out 1
    go_wp2_with (first | ((with_reducible refine gate_dst (N := 5) rfl ?_); (try (refine gate_guard (by rfl) ?_; dsimp only)); refine G.be 5 #[.int .i64 0, .slice none 0 0] 29 ?_; intro gb340 hg w20 hbox hb; have n0_ := Aside0.mk (Kd.V_below (Kd.V_elderB (G.cV HO_338001.out) gb340 (Nat.le_of_eq hg.symm)) hb); have n1_ := Aside0.mk (blk_below (g := gb337) (o := .cells #[.int .i64 a0_0, .slice A0_1 l0_1.length c0_1] 29 (0, 0)) (G.cb BK337.out) hb); have n2_ := Aside0.mk (below_step (G.cB HB.out) hb); have n3_ := Aside0.mk (hbox); have n4_ := Aside0.mk ((c17_5 : w.heap.size ≤ gb340)); have n5_ := Aside0.mk ((c17_5 : w.heap.size ≤ gb340)); have n6_ := Aside0.mk ((by rw [hg]; exact Nat.ne_of_lt (blk_lt (g := gb337) (o := .cells #[.int .i64 a0_0, .slice A0_1 l0_1.length c0_1] 29 (0, 0)) (G.cb BK337.out)) : gb337 ≠ gb340)); have n7_ := Aside0.mk ((by rw [hg]; exact Nat.ne_of_gt (blk_lt (g := gb337) (o := .cells #[.int .i64 a0_0, .slice A0_1 l0_1.length c0_1] 29 (0, 0)) (G.cb BK337.out)) : gb340 ≠ gb337)); clear HO_338001 BK337 HB; revert n0_ n1_ n2_ n3_ n4_ n5_ n6_ n7_; intro HO_338001 BK337 HB BK340 GW340 GE340 NB337_340 NB340_337; clear hb hbox hg; have hnb21 := NB340_337.out; have hnc21 := NB337_340.out; have hcz22_0 : w20.cell? ⟨gb340, 0, none⟩ = some (.int .i64 0) := (blk_cell BK340.out 0).trans rfl; have hcz22_1 : w20.cell? ⟨gb340, 1, none⟩ = some (.slice none 0 0) := (blk_cell BK340.out 1).trans rfl; have hfz22_0 := blk_frozen BK340.out 0; have hfz22_1 := blk_frozen BK340.out 1))
    go_loopg [6] kj2 (fun kq v6 w' => ∃ (x6_2 : Int) (x341000_2 : Int) (x341001_2 : List (S63)) (u341001 : Value), v6 = .int .i64 x6_2 ∧ Aside0 (impl_TrailOk.l0 kq l1 x6_2 x341000_2 x341001_2 = some r) ∧ Aside0 (kq ≤ kj2) ∧ Aside0 (Kd.V k63 63 w' w.heap.size (fun k_ => (P0_1_ k_ ∨ w.heap.size ≤ k_) ∧ k_ ≠ gb337 ∧ k_ ≠ gb340) (.slice A0_1 l0_1.length c0_1) l0_1) ∧ Aside0 (Kd.V k63 63 w' w.heap.size (fun k_ => (P0_1_ k_ ∨ w.heap.size ≤ k_) ∧ k_ ≠ gb337 ∧ k_ ≠ gb340) u341001 x341001_2) ∧ Aside0 (w'.heap[gb337]? = some (.cells #[.int .i64 a0_0, (.slice A0_1 l0_1.length c0_1)] 29 (0, 0))) ∧ Aside0 (w'.heap[gb340]? = some (.cells #[.int .i64 x341000_2, u341001] 29 (0, 0))) ∧ Aside0 (Below w.heap.size w w'))
    case atStart => exact ⟨(1), (a0_0), (l0_1), (.slice A0_1 l0_1.length c0_1), (c17_4), H', ⟨Nat.le_refl _⟩, ⟨c17_1⟩, ⟨c17_1⟩, ⟨c17_0⟩, ⟨by (with_reducible repeat (first | refine blk_drewN ?_ _ | refine blk_drew ?_ | refine blk_alloc ?_ _)); refine blk_put (cs := #[.int .i64 a0_0, .slice none 0 0]) ?_ 1 _ rfl; (with_reducible repeat (first | refine blk_drewN ?_ _ | refine blk_drew ?_ | refine blk_alloc ?_ _)); refine blk_put (cs := #[.int .i64 0, .slice none 0 0]) ?_ 0 _ rfl; (with_reducible repeat (first | refine blk_drewN ?_ _ | refine blk_drew ?_ | refine blk_alloc ?_ _)); exact BK340.out⟩, ⟨G.cB HB.out⟩⟩
    case round =>
     clear H'
     (try clear c1); (try clear c2); (try clear p2); (try clear c4); (try clear c6); (try clear p6); (try clear c7); (try clear c7b0); (try clear c7b1); (try clear c18); (try clear c21); (try clear hcz11_0); (try clear hcz11_1); (try clear hcz13_0); (try clear hcz13_1); (try clear hcz15_0); (try clear hcz15_1); (try clear hcz16_0); (try clear hcz16_1); (try clear hcz19_0); (try clear hcz19_1); (try clear hcz22_0); (try clear hcz22_1); (try clear hcz9_0); (try clear hcz9_1); (try clear hfz11_0); (try clear hfz11_1); (try clear hfz13_0); (try clear hfz13_1); (try clear hfz15_0); (try clear hfz15_1); (try clear hfz16_0); (try clear hfz16_1); (try clear hfz19_0); (try clear hfz19_1); (try clear hfz22_0); (try clear hfz22_1); (try clear hfz9_0); (try clear hfz9_1); (try clear p2); (try clear p6)
     obtain ⟨x6_2, x341000_2, x341001_2, u341001, rfl, HA, HK2, HO_338001, HO_341001, BK337, BK340, HB⟩ := hrel
     cases gk with
     | zero => exact absurd HA.out (by simp [impl_TrailOk.l0])
     | succ k2 =>
      have H := HA.out
      clear HA
      simp only [impl_TrailOk.l0] at H
      by_cases c23 : x6_2 < (l1.length : Int)
      ·rw [if_pos c23] at H
       have c23b0 : decide (x6_2 < (l1.length : Int)) = true := decide_eq_true c23
       clear c23
       obtain ⟨ji24, hji24⟩ : ∃ j_ : Int, (wrap64 (x6_2 - 1)) = j_ := ⟨_, rfl⟩
       replace H : (if 0 ≤ (ji24) then (if (ji24) < (l1.length : Int) then (if 0 ≤ x6_2 then ((impl_tie.f (rd l1 (ji24)) (rd l1 x6_2)).bind fun bt343 => ((impl_Net_less.f k2 x341000_2 x341001_2 (([(⟨bt343.1, bt343.2⟩ : S63)] : List (S63)))).bind fun bt348 => (impl_TrailOk.l0 k2 l1 (wrap64 (x6_2 + 1)) bt348.1 bt348.2))) else (none)) else (none)) else (none)) = some r := by first | (rw [hji24] at H; exact H) | (simp only [hji24] at H ⊢; exact H)
       have hji24w : (IntKind.i64.wrap (x6_2 - 1)) = ji24 := (i64_w _).trans hji24
       by_cases c25 : 0 ≤ (ji24)
       ·rw [if_pos c25] at H
        have c25b0 : decide (0 ≤ (ji24)) = true := decide_eq_true c25
        clear c25
        by_cases c26 : (ji24) < (l1.length : Int)
        ·rw [if_pos c26] at H
         have c26b0 : decide ((ji24) < (l1.length : Int)) = true := decide_eq_true c26
         clear c26
         by_cases c27 : 0 ≤ x6_2
         ·rw [if_pos c27] at H
          have c27b0 : decide (0 ≤ x6_2) = true := decide_eq_true c27
          clear c27
          replace H := Option.bind_eq_some_iff.mp H
          obtain ⟨⟨t343, t344⟩, A280, H⟩ := H
          replace H : ((impl_Net_less.f k2 x341000_2 x341001_2 (([(⟨t343, t344⟩ : S63)] : List (S63)))).bind fun bt348 => (impl_TrailOk.l0 k2 l1 (wrap64 (x6_2 + 1)) bt348.1 bt348.2)) = some r := H
          have A28 := Aside0.mk A280
          clear A280
          obtain ⟨y345, hy345⟩ : ∃ y_ : List (S63), y_ = (([(⟨t343, t344⟩ : S63)] : List (S63))) := ⟨_, rfl⟩
          replace H : ((impl_Net_less.f k2 x341000_2 x341001_2 y345).bind fun bt348 => (impl_TrailOk.l0 k2 l1 (wrap64 (x6_2 + 1)) bt348.1 bt348.2)) = some r := by first | (rw [hy345]; with_reducible exact H) | (have H2_ := (Option.bind_some _ _).symm.trans H; rw [hy345]; with_reducible exact H2_) | (have H2_ := (Option.bind_some _ _).symm.trans H; with_reducible exact H2_) | with_reducible exact H | (rw [hy345]; exact H) | exact H
          have Ny345 := Aside0.mk hy345
          clear hy345
          replace H := Option.bind_eq_some_iff.mp H
          obtain ⟨⟨t348, t349⟩, A290, H⟩ := H
          replace H : (impl_TrailOk.l0 k2 l1 (wrap64 (x6_2 + 1)) t348 t349) = some r := H
          have A29 := Aside0.mk A290
          clear A290
          have H' := Aside0.mk H
          clear H
          try go_wp2
          have n0_ := Aside0.mk (Kd.V_drew HO_338001.out)
          have n1_ := Aside0.mk (Kd.V_drew HO_341001.out)
          have n2_ := Aside0.mk (blk_drew BK337.out)
          have n3_ := Aside0.mk (blk_drew BK340.out)
          have n4_ := Aside0.mk (below_drew1 HB.out)
          clear HO_338001 HO_341001 BK337 BK340 HB
          revert n0_ n1_ n2_ n3_ n4_
          intro HO_338001 HO_341001 BK337 BK340 HB
          have p341 : 0 ≤ ((ji24) : Int) := of_decide_eq_true (G.asm)
          have q341 : (ji24) < (l1.length : Int) := of_decide_eq_true (G.asm)
          obtain ⟨ad341, e341, hx341_0⟩ := Kd.at_int HR1.out (ji24) p341 q341
          have hw341_0 := hx341_0
          cases e341
          replace hx341_0 := (HB.out.cell (World.block_lt_of_cell? w _ hx341_0)).trans hx341_0
          replace p341 := eq_true p341
          replace q341 := eq_true q341
          have p342 : 0 ≤ (x6_2 : Int) := of_decide_eq_true (G.asm)
          have q342 : x6_2 < (l1.length : Int) := of_decide_eq_true (G.asm)
          obtain ⟨ad342, e342, hx342_0⟩ := Kd.at_int HR1.out x6_2 p342 q342
          have hw342_0 := hx342_0
          obtain rfl : ad341 = ad342 := (by injection e342)
          replace hx342_0 := (HB.out.cell (World.block_lt_of_cell? w _ hx342_0)).trans hx342_0
          replace p342 := eq_true p342
          replace q342 := eq_true q342
          refine start_ (n := 14) (S := fun w' => w'.cell? ⟨gb340, 0, none⟩ = some (.int .i64 x341000_2) ∧ w'.cell? ⟨gb340, 1, none⟩ = some (u341001) ∧ w'.cell? (ad341.add ((ji24)).toNat) = some (.int .i64 (rd l1 (ji24))) ∧ w'.cell? (ad341.add (x6_2).toNat) = some (.int .i64 (rd l1 x6_2))) (ds := [13]) (G.fl 14 0) (c17_6) rfl (c17_6) ⟨(blk_cell BK340.out 0).trans rfl, (blk_cell BK340.out 1).trans rfl, ((HB.out.cell (World.block_lt_of_cell? w _ hw341_0)).trans hw341_0), ((HB.out.cell (World.block_lt_of_cell? w _ hw342_0)).trans hw342_0)⟩ (fun hHeld => ?_); refine with_tabW impl_TrailOk.tab7 impl_TrailOk.bits7 (fun HT_ HW_ => ?_)
          generalize wr.drew = w30 at HO_338001 HO_341001 BK337 BK340 HB hx341_0 hx342_0 hHeld ⊢
          refine G.pu 1 (some 33) (G.fl 14 2) ?_
          refine G.pu 2 (some 34) (G.fl 14 6) ?_
          refine G.pu 3 (some 35) (G.fl 14 14) ?_
          refine G.pu 4 (some 36) (G.fl 14 30) ?_
          refine G.pu 6 (some 38) (G.fl 14 94) ?_
          refine G.pu 7 (some 39) (G.fl 14 222) ?_
          refine G.pu 8 (some 40) (G.fl 14 478) ?_
          refine G.ta4 0 (some 32) (G.fl 14 479) ?_
          refine G.ta4 5 (some 37) (G.fl 14 511) ?_
          refine G.ta4 9 (some 41) (G.fl 14 1023) ?_
          refine one_ (i := 10) (N := some 42) (G.fl 14 2047) rfl rfl (one_of HT_.out (c17_6)) (by decide) (fun K hK => ?_)
          refine goes_ Try.func51 (c17_6) rfl #[.int .i64 (rd l1 (ji24)), .int .i64 (rd l1 x6_2)] (by rfl) rfl rfl (by (try simp only [List.map_toArray, List.map_cons, List.map_nil]); first | done | (simp only [hji24]; rfl) | rfl | (simp only [List.length_drop, List.length_take]; rfl)) ?_
          with_reducible refine (impl_tie.calls (rd l1 (ji24)) (rd l1 x6_2) t343 t344 _ A28.out).mono ?_
          rintro e w31 ⟨rfl, hb⟩
          refine ⟨_, rfl, ?_⟩
          have n0_ := Aside0.mk (Kd.V_below (G.cV HO_338001.out) hb)
          have n1_ := Aside0.mk (Kd.V_below (G.cV HO_341001.out) hb)
          have n2_ := Aside0.mk (blk_below (g := gb337) (o := .cells #[.int .i64 a0_0, .slice A0_1 l0_1.length c0_1] 29 (0, 0)) (G.cb BK337.out) hb)
          have n3_ := Aside0.mk (blk_below (g := gb340) (o := .cells #[.int .i64 x341000_2, u341001] 29 (0, 0)) (G.cb BK340.out) hb)
          have n4_ := Aside0.mk (below_step (G.cB HB.out) hb)
          clear HO_338001 HO_341001 BK337 BK340 HB
          revert n0_ n1_ n2_ n3_ n4_
          intro HO_338001 HO_341001 BK337 BK340 HB
          (try clear hb)
          (try clear hb2)
          (try clear hk)
          (try clear hi)
          refine hK.out _ _ ⟨(blk_cell BK340.out 0).trans rfl, (blk_cell BK340.out 1).trans rfl, ((HB.out.cell (World.block_lt_of_cell? w _ hw341_0)).trans hw341_0), ((HB.out.cell (World.block_lt_of_cell? w _ hw342_0)).trans hw342_0)⟩ (fun hHeld => ?_)
          clear hK K
          refine G.no (some 42) ?_
          refine one_ (i := 11) (N := some 43) (G.fl 14 4095) rfl rfl (one_of HT_.out (c17_6)) (by decide) (fun K hK => ?_)
          refine Kd.R_lit_step k63 _ 63 ?hg (N := 43) ?hd (xs := ([(⟨t343, t344⟩ : S63)] : List (S63))) (inner := [.int .i64 t343, .int .i64 t344]) (ok := fun _ => True) (okp := fun _ => True) ?hr ?hp (fun _ hk => hk) trivial (Below.refl _ _) (Nat.le_refl _) (by simp) ?_; (case hd => rfl); (case hg => rfl); (case hr => first | (go_simp; done) | (go_simp; rfl)); (case hp => exact (Reps.c2 (show Kd.M k63 _ _ _ (⟨t343, t344⟩ : S63) [.int .i64 t343, .int .i64 t344] from (k63_mkM _ _ _ (⟨t343, t344⟩ : S63) )) (Reps.none _ _)))
          intro v346 w32 ho33 hb hg_ hnew_
          clear hg_ hnew_
          (first | rw [← Ny345.out] at ho33 | (simp only [Int.reduceToNat] at ho33; rw [← Ny345.out] at ho33))
          have n0_ := Aside0.mk (Kd.V_elder' (G.cV HO_338001.out) (Kd.R_base ho33) hb)
          have n1_ := Aside0.mk (Kd.V_elder' (G.cV HO_341001.out) (Kd.R_base ho33) hb)
          have n2_ := Aside0.mk (Kd.R_lower (Kd.R_newM (M := fun k_ => (w.heap.size ≤ k_)) ho33 (below_size (G.cB HB.out)) (fun k_ h_ => h_)) (below_size (G.cB HB.out)))
          have n3_ := Aside0.mk (blk_below (g := gb337) (o := .cells #[.int .i64 a0_0, .slice A0_1 l0_1.length c0_1] 29 (0, 0)) (G.cb BK337.out) hb)
          have n4_ := Aside0.mk (blk_below (g := gb340) (o := .cells #[.int .i64 x341000_2, u341001] 29 (0, 0)) (G.cb BK340.out) hb)
          have n5_ := Aside0.mk (below_step (G.cB HB.out) hb)
          clear HO_338001 HO_341001 BK337 BK340 HB
          revert n0_ n1_ n2_ n3_ n4_ n5_
          intro HO_338001 HO_341001 HO347 BK337 BK340 HB
          clear hb ho33
          obtain ⟨Ao34, co34, eo34⟩ := Kd.V_slice HO_341001.out
          (first | subst eo34 | (injection eo34 with f1_ f2_ f3_; have f4_ := f1_.symm; have f5_ := f3_.symm; clear f1_ f2_ f3_; subst f4_; subst f5_))
          obtain ⟨Ao35, co35, eo35⟩ := Kd.R_slice HO347.out
          (first | subst eo35 | (injection eo35 with f1_ f2_ f3_; have f4_ := f1_.symm; have f5_ := f3_.symm; clear f1_ f2_ f3_; subst f4_; subst f5_))
          refine hK.out _ _ ⟨(blk_cell BK340.out 0).trans rfl, (blk_cell BK340.out 1).trans rfl, ((HB.out.cell (World.block_lt_of_cell? w _ hw341_0)).trans hw341_0), ((HB.out.cell (World.block_lt_of_cell? w _ hw342_0)).trans hw342_0)⟩ (fun hHeld => ?_)
          clear hK K
          refine G.no (some 43) ?_
          refine one_ (i := 12) (N := some 44) (G.fl 14 8191) rfl rfl (one_of HT_.out (c17_6)) (by decide) (fun K hK => ?_)
          refine goes_ Try.func50 (c17_6) rfl #[.agg #[.int .i64 x341000_2, .slice Ao34 x341001_2.length co34], .slice Ao35 y345.length co35] (by rfl) rfl rfl (G.ar) ?_
          with_reducible refine (impl_Net_less.calls k2 x341000_2 _ _ x341001_2 _ _ y345 t348 t349 _ ?side1 ?side2 ?side3 ?side4 A29.out).mono ?_
          (case side1 => repeat (first | exact (Kd.V_reads' HO_341001.out).2.2 | (with_reducible refine Kd.C_alloc ?_ _) | (with_reducible refine Kd.C_drewN ?_ _) | (with_reducible refine Kd.C_drew ?_)))
          (case side2 => exact (Kd.V_reads' HO_341001.out).2.1)
          (case side3 => repeat (first | exact (Kd.R_reads' HO347.out).2.2 | (with_reducible refine Kd.C_alloc ?_ _) | (with_reducible refine Kd.C_drewN ?_ _) | (with_reducible refine Kd.C_drew ?_)))
          (case side4 => exact (Kd.R_reads' HO347.out).2.1)
          rintro e w36 ⟨v350, rfl, ho0, hb⟩
          refine ⟨_, rfl, ?_⟩
          have n0_ := Aside0.mk (Kd.V_elder' (G.cV HO_338001.out) (Kd.R_base ho0) hb)
          have n1_ := Aside0.mk (Kd.V_elder' (G.cV HO_341001.out) (Kd.R_base ho0) hb)
          have n2_ := Aside0.mk (Kd.R_elder' (G.cR HO347.out) (Kd.R_base ho0) hb)
          have n3_ := Aside0.mk (Kd.R_lower (Kd.R_new' (Kd.R_newM (M := fun k_ => (w.heap.size ≤ k_)) ho0 (below_size (G.cB HB.out)) (fun k_ h_ => h_)) (Kd.R_lt (G.cR HO347.out))) (below_size (G.cB HB.out)))
          have n4_ := Aside0.mk (blk_below (g := gb337) (o := .cells #[.int .i64 a0_0, .slice A0_1 l0_1.length c0_1] 29 (0, 0)) (G.cb BK337.out) hb)
          have n5_ := Aside0.mk (blk_below (g := gb340) (o := .cells #[.int .i64 x341000_2, .slice Ao34 x341001_2.length co34] 29 (0, 0)) (G.cb BK340.out) hb)
          have n6_ := Aside0.mk (below_step (G.cB HB.out) hb)
          clear HO_338001 HO_341001 HO347 BK337 BK340 HB
          revert n0_ n1_ n2_ n3_ n4_ n5_ n6_
          intro HO_338001 HO_341001 HO347 HO351 BK337 BK340 HB
          (try clear hb)
          (try clear hb2)
          (try clear hk)
          (try clear hi)
          (try clear ho0)
          obtain ⟨Ao38, co38, eo38⟩ := Kd.R_slice HO351.out
          (first | subst eo38 | (injection eo38 with f1_ f2_ f3_; have f4_ := f1_.symm; have f5_ := f3_.symm; clear f1_ f2_ f3_; subst f4_; subst f5_))
          refine hK.out _ _ ⟨(blk_cell BK340.out 0).trans rfl, (blk_cell BK340.out 1).trans rfl, ((HB.out.cell (World.block_lt_of_cell? w _ hw341_0)).trans hw341_0), ((HB.out.cell (World.block_lt_of_cell? w _ hw342_0)).trans hw342_0)⟩ (fun hHeld => ?_)
          clear hK K
          refine G.no (some 44) ?_
          refine last_ (i := 13) (N := none) (G.fl 14 16383) rfl rfl (one_of HT_.out (c17_6)) (by decide) (fun K hK => ?_)
          have hs37 : w36.cell? ⟨gb340, 0, none⟩ = some (.int .i64 x341000_2) := (blk_cell BK340.out 0).trans rfl
          have hfs37 := blk_frozen BK340.out 0
          have hns37_0 := NB337_340.out
          have hms37_0 := NB340_337.out
          have hs39 : w36.cell? ⟨gb340, 1, none⟩ = some (.slice Ao34 x341001_2.length co34) := (blk_cell BK340.out 1).trans rfl
          have hfs39 := blk_frozen BK340.out 1
          have hns39_0 := NB337_340.out
          have hms39_0 := NB340_337.out
          refine skip_ (w1 := ?_) (by rfl) rfl ?_ ?_
          rotate_left
          ·go_simp
           rfl
          refine hK.out _ _ ?_
          clear hK K
          refine done_ (done_of HT_.out (c17_6)) ?_
          try go_wp2
          go_roundg k2
          case measure => have := HJ2.out; have := HK2.out; omega
          case rel => exact ⟨(wrap64 (x6_2 + 1)), (t348), (t349), (.slice Ao38 t349.length co38), (c17_4), H', ⟨by have := HJ2.out; have := HK2.out; omega⟩, ⟨by (with_reducible repeat (first | apply Kd.V_alloc | apply Kd.V_drewN | apply Kd.V_drew)); exact Kd.V_mono (Kd.V_far (p := ⟨gb340, 1, none⟩) (Kd.V_far (p := ⟨gb340, 0, none⟩) (Kd.V_mono HO_338001.out (fun k_ hk => (⟨hk, hk.1.1.2.2⟩ : _ ∧ k_ ≠ gb340))) (fun _ hk => hk.2) (.int .i64 t348)) (fun _ hk => hk.2) (.slice Ao38 t349.length co38)) (fun _ hk => ⟨hk.1.1.1.1, ⟨hk.1.1.1.2.1, hk.1.1.1.2.2⟩⟩)⟩, ⟨G.RV2 (by (with_reducible repeat (first | apply Kd.R_alloc | apply Kd.R_drewN | apply Kd.R_drew)); exact Kd.R_mono (Kd.R_far (p := ⟨gb340, 1, none⟩) (Kd.R_far (p := ⟨gb340, 0, none⟩) (Kd.R_types (Kd.R_types (Kd.R_types HO351.out BK337.out (by decide)) BK340.out (by decide)) BK340.out (by decide)) (fun _ hk => hk.2) (.int .i64 t348)) (fun _ hk => hk.2) (.slice Ao38 t349.length co38)) (fun _ hk => ⟨hk.1.1.1.1.1, ⟨hk.1.1.2, hk.1.2⟩⟩))⟩, ⟨c17_0⟩, ⟨by (with_reducible repeat (first | refine blk_drewN ?_ _ | refine blk_drew ?_ | refine blk_alloc ?_ _)); refine blk_put (cs := #[.int .i64 t348, .slice Ao34 x341001_2.length co34]) ?_ 1 _ rfl; (with_reducible repeat (first | refine blk_drewN ?_ _ | refine blk_drew ?_ | refine blk_alloc ?_ _)); refine blk_put (cs := #[.int .i64 x341000_2, .slice Ao34 x341001_2.length co34]) ?_ 0 _ rfl; (with_reducible repeat (first | refine blk_drewN ?_ _ | refine blk_drew ?_ | refine blk_alloc ?_ _)); exact BK340.out⟩, ⟨G.cB HB.out⟩⟩
         ·rw [if_neg c27] at H
          exact absurd H (by simp)
        ·rw [if_neg c26] at H
         exact absurd H (by simp)
       ·rw [if_neg c25] at H
        exact absurd H (by simp)
      ·rw [if_neg c23] at H
       have c23b0 : decide (x6_2 < (l1.length : Int)) = false := decide_eq_false c23
       clear c23
       obtain rfl := Option.some.inj H
       have hnb40 := NB340_337.out
       have hnc40 := NB337_340.out
       have hcz41_0 : wr.cell? ⟨gb340, 0, none⟩ = some (.int .i64 x341000_2) := (blk_cell BK340.out 0).trans rfl
       have hcz41_1 : wr.cell? ⟨gb340, 1, none⟩ = some (u341001) := (blk_cell BK340.out 1).trans rfl
       have hfz41_0 := blk_frozen BK340.out 0
       have hfz41_1 := blk_frozen BK340.out 1
       obtain ⟨Ao42, co42, eo42⟩ := Kd.V_slice HO_341001.out
       subst eo42
       go_wp2
       go_ret
       exact ⟨c17_3, G.cB HB.out⟩

end Go.Proofs.Ytbkdpnfjcnkoeaa.P
