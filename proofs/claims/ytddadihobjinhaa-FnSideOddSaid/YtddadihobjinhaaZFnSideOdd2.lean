/- The proof's parts ahead of the row: of no condition of their own. -/
import Derived.Test.YtddadihobjinhaaZFnSideOdd1
set_option linter.unusedVariables false
set_option linter.unusedSimpArgs false
namespace Go.Proofs.Ytddadihobjinhaa.P
open Go.RowKit Go.Proofs.YtddadihobjinhaaW.PrintWords Go.Proofs.YtddadihobjinhaaW.PrintLast Go.Proofs.YtddadihobjinhaaW.PrintMore
attribute [local go_sem] max2_int min2_int max_two min_two max_three min_three max_four min_four
mutual
def impl_Net_ways.l0 : Nat → List Int → Int → List (List Int) → Int → Int → Int → Int → List (S53) → Option (List (List Int))
 | 0, _, _, _, _, _, _, _, _ => none
 | k + 1, x1, x2, x3, x9, x26, x27, x417000, x417001 => if x27 < x26 then ((impl_Net_has.f k x417000 x417001 x9 x27).bind fun t421 => (if t421 = true then ((slices_Contains_int_int.f k x1 x27).bind fun t422 => (impl_Net_ways.j1 k x1 x2 x3 x9 x27 x26 x27 (!t422) x417000 x417001)) else (impl_Net_ways.j1 k x1 x2 x3 x9 x27 x26 x27 false x417000 x417001))) else (some x3)
def impl_Net_ways.j1 : Nat → List Int → Int → List (List Int) → Int → Int → Int → Int → Bool → Int → List (S53) → Option (List (List Int))
 | 0, _, _, _, _, _, _, _, _, _, _ => none
 | k + 1, x1, x2, x3, x9, x10, x26, x27, x39, x417000, x417001 => if x39 = true then ((slices_Clone_int_int.f x1).bind fun t423 => ((some (([x10] : List Int) : List Int)).bind fun y426 => (if t423.length + y426.length < 17592186044416 then ((impl_Net_ways.f k x417000 x417001 (t423 ++ y426) x2 x3).bind fun t432 => (impl_Net_ways.l0 k x1 x2 t432 x9 x26 (wrap64 (x27 + 1)) x417000 x417001)) else (none)))) else (impl_Net_ways.l0 k x1 x2 x3 x9 x26 (wrap64 (x27 + 1)) x417000 x417001)
def impl_Net_ways.f : Nat → Int → List (S53) → List Int → Int → List (List Int) → Option (List (List Int))
 | 0, _, _, _, _, _ => none
 | k + 1, a0_0, l0_1, l1, a2, a3 => if 0 ≤ (wrap64 ((l1.length : Int) - 1)) then (if (wrap64 ((l1.length : Int) - 1)) < (l1.length : Int) then (if (rd l1 (wrap64 ((l1.length : Int) - 1))) = a2 then ((slices_Clone_int_int.f l1).bind fun t418 => (if a3.length < 5864062014805 then (some (a3 ++ [t418])) else (none))) else (impl_Net_ways.l0 k l1 a2 a3 (rd l1 (wrap64 ((l1.length : Int) - 1))) a0_0 0 a0_0 l0_1)) else (none)) else (none)
end
def impl_Net_ways.T8 : Bool × List (List Nat × List Nat) := (true, [([], []), ([], []), ([1], [1]), ([], []), ([3], [3]), ([2, 4, 2], [2, 4]), ([], []), ([], []), ([0, 5, 6, 7, 5], [0, 5, 6, 7]), ([8, 8, 0, 1, 2, 3, 4, 5, 6, 7, 8], [7, 8])])
def impl_Net_ways.B8 : List Nat := [0, 0, 2, 0, 8, 30, 0, 0, 255, 511]
theorem impl_Net_ways.tab8 : rtab .any (opsOf Try.f75 8) = impl_Net_ways.T8 := by kernel_rfl
theorem impl_Net_ways.bits8 : waitsOk impl_Net_ways.T8.2 impl_Net_ways.B8 = true := by kernel_rfl
set_option maxHeartbeats 8000000 in
set_option maxRecDepth 100000 in
theorem impl_Net_ways.calls (k : Nat) : ∀ (a0_0 : Int) (A0_1 : Option Addr) (c0_1 : Nat) (l0_1 : List (S53)) (A1 : Option Addr) (c1 : Nat) (l1 : List Int) (a2 : Int) (vo : Value) (a3 : List (List Int)) (r : List (List Int)) (w0 w : World) (hr0_1 : Kd.C k53 w0 A0_1 l0_1.length l0_1) (hc0_1 : l0_1.length ≤ c0_1) (hB0 : Below w0.heap.size w0 w) (hX : Kd.R (Kd.int .i64) 3 w w0.heap.size (fun _ => True) (.slice A1 l1.length c1) l1 ∧ Kd.S (Kd.slice 3 (Kd.int .i64)) 25 w w0.heap.size (fun _ => True) vo a3) (h : impl_Net_ways.f k a0_0 l0_1 l1 a2 a3 = some r),
  Calls Try.prog 75 #[.agg #[.int .i64 a0_0, .slice A0_1 l0_1.length c0_1], .slice A1 l1.length c1, .int .i64 a2, vo] w fun e w' => ∃ v1_ : Value, e = .returned v1_ ∧ Kd.S (Kd.slice 3 (Kd.int .i64)) 25 w' w0.heap.size (fun _ => True) v1_ r ∧ Below w0.heap.size w0 w' ∧ w.grownBy w' vo.ownBlock ∧ (v1_.ownBlock = vo.ownBlock ∨ ∃ b, v1_.ownBlock = some b ∧ w.heap.size ≤ b) := by
 induction k using Nat.strongRecOn with
 | _ k ih =>
 intro a0_0 A0_1 c0_1 l0_1 A1 c1 l1 a2 vo a3 r w0 w hr0_1 hc0_1 hB0 hX h
 cases k with
 | zero => exact absurd h (by simp [impl_Net_ways.f])
 | succ k =>
 simp only [impl_Net_ways.f] at h
 have hu30 := Try.underlying30
 have HRA := G.m hr0_1
 have HR0_1 := G.m (Kd.C_below hr0_1 hB0)
 have HC0_1 := G.m hc0_1
 clear hr0_1 hc0_1
 have HB0 := G.m hB0
 have HX := G.m (LX.start hB0 hX.1 hX.2)
 have HR1 := G.m (Kd.R_reads' hX.1).2.2
 have HC1 := G.m (Kd.R_reads' hX.1).2.1
 clear hB0 hX
 have HB := G.m (Below.refl w.heap.size w)
 have H : (if 0 ≤ (wrap64 ((l1.length : Int) - 1)) then (if (wrap64 ((l1.length : Int) - 1)) < (l1.length : Int) then (if (rd l1 (wrap64 ((l1.length : Int) - 1))) = a2 then ((slices_Clone_int_int.f l1).bind fun t418 => (if a3.length < 5864062014805 then (some (a3 ++ [t418])) else (none))) else (impl_Net_ways.l0 k l1 a2 a3 (rd l1 (wrap64 ((l1.length : Int) - 1))) a0_0 0 a0_0 l0_1)) else (none)) else (none)) = some r := h
 clear h
 obtain ⟨ji5, hji5⟩ : ∃ j_ : Int, (wrap64 ((l1.length : Int) - 1)) = j_ := ⟨_, rfl⟩
 replace H : (if 0 ≤ (ji5) then (if (ji5) < (l1.length : Int) then (if (rd l1 (ji5)) = a2 then ((slices_Clone_int_int.f l1).bind fun t418 => (if a3.length < 5864062014805 then (some (a3 ++ [t418])) else (none))) else (impl_Net_ways.l0 k l1 a2 a3 (rd l1 (ji5)) a0_0 0 a0_0 l0_1)) else (none)) else (none)) = some r := by first | (rw [hji5] at H; exact H) | (simp only [hji5] at H ⊢; exact H)
 have hji5w : (IntKind.i64.wrap ((l1.length : Int) - 1)) = ji5 := (i64_w _).trans hji5
 by_cases c6 : 0 ≤ (ji5)
 ·rw [if_pos c6] at H
  have c6b0 : decide (0 ≤ (ji5)) = true := decide_eq_true c6
  clear c6
  by_cases c7 : (ji5) < (l1.length : Int)
  ·rw [if_pos c7] at H
   have c7b0 : decide ((ji5) < (l1.length : Int)) = true := decide_eq_true c7
   clear c7
   by_cases c8 : (rd l1 (ji5)) = a2
   ·rw [if_pos c8] at H
    have c8b0 : ((rd l1 (ji5)) == a2) = true := beq_iff_eq.mpr c8
    have c8b1 : ((rd l1 (ji5)) != a2) = false := bne_eq_false_iff_eq.mpr c8
    clear c8
    obtain ⟨t418, A9, H⟩ := G.bi H
    replace H : (if a3.length < 5864062014805 then (some (a3 ++ [t418])) else (none)) = some r := H
    by_cases cLw : a3.length < 5864062014805
    ·rw [if_pos cLw] at H
     have LMw := G.m cLw
     clear cLw
     obtain rfl := Option.some.inj H
     go_enter Try.func75, Try.ntmps75
     go_wp2_with (first | ((with_reducible refine G.h 4 rfl ?_); refine G.be 4 #[.int .i64 a0_0, .slice A0_1 l0_1.length c0_1] 30 ?_; intro gb416 hg w10 hbox hb; have n0 := G.bs HB hb; have n1 := G.m (hbox); have n2 := G.m ((by rw [hg]; exact (below_size (G.cB HB.out)) : w.heap.size ≤ gb416)); have n3 := G.m ((by rw [hg]; exact (below_size (G.cB HB.out)) : w.heap.size ≤ gb416)); clear HB; revert n0 n1 n2 n3; intro HB BK416 GW416 GE416; clear hb hbox hg; have p417 : 0 ≤ ((ji5) : Int) := of_decide_eq_true (G.asm); have q417 : (ji5) < (l1.length : Int) := of_decide_eq_true (G.asm); obtain ⟨ad417, e417, hx417_0⟩ := Kd.at_int HR1.out (ji5) p417 q417; cases e417; replace hx417_0 := G.hx HB hx417_0; replace p417 := eq_true p417; replace q417 := eq_true q417) | ((with_reducible refine G.f 86 rfl ?_); refine G.gL 22 Try.func86 #[.slice (some ad417) l1.length c1] ?_; (with_reducible refine (slices_Clone_int_int.calls _ _ l1 t418 _ ?side1 ?side2 A9.out).mono ?_); (case side1 => exact G.cC (Kd.C_below HR1.out HB.out)); (case side2 => exact HC1.out); rintro e w11 ⟨v419, rfl, ho0, hb⟩; refine ⟨_, rfl, ?_⟩; have n0 := G.m (Kd.R_lower ho0 (below_size (G.cB HB.out))); have n1 := G.bb BK416 hb; have n2 := G.bs HB hb; clear BK416 HB; revert n0 n1 n2; intro HO420 BK416 HB; (try clear hb ho0); obtain ⟨Aow, cow, eow⟩ := Kd.R_slice HO420.out; subst eow) | ((with_reducible refine gate_builtin (b := .append) (xs := #[.tmp 20, .tmp 23]) rfl ?_); at_builtin; refine Kd.S_append (Kd.slice 3 (Kd.int .i64)) (w0 := w0) w0.heap.size rfl (.tmp 20) (.tmp 23) 63 25 (.slice none 0 0) 24 rfl Try.underlying63 info25 rfl (by decide) (by omega) vo a3 t418 [.slice Aow t418.length cow] (fun _ => True) (fun k_ => some k_ = (.slice Aow t418.length cow : Value).ownBlock) rfl rfl ?aP (fun k_ hk_ => ⟨trivial, fun e_ => by have h1_ := Kd.S_lt HX.out.row k_ e_.symm; have h2_ := Kd.R_base HO420.out k_ hk_.symm; omega⟩) ?aF ?aO ?aB ?aS ?aL ?_; (case aP => exact Kd.M_row (Kd.R_mono (Kd.R_tight rfl (Kd.R_lower HO420.out HB0.out.size)) (fun _ h_ => h_))); (case aB => exact (below_step HB0.out (G.cB HB.out))); (case aF => exact (fun _ _ => trivial)); (case aO => exact Kd.S_mono (Kd.S_below (Kd.S_bound HX.out.row) (G.cB HB.out)) (fun k_ hk => ⟨trivial, fun e_ => by have h2_ := Kd.R_base HO420.out k_ e_.symm; have h3_ := hk.2.2.1; omega⟩)); (case aS => exact Nat.le_trans HB0.out.size (below_size (G.cB HB.out))); (case aL => have := LMw.out; omega); intro vw_ ww_ ho hb hg hat; have HF := G.m (LX.app (G.cB HB.out) ho hb hg hat); clear ho hb hg hat BK416 HB))
     go_ret
     exact ⟨_, by first | rfl | (simp [errW_none, errW_some] <;> rfl), HF.out⟩
    ·rw [if_neg cLw] at H
     exact absurd H (by simp)
   ·rw [if_neg c8] at H
    have c8b0 : ((rd l1 (ji5)) == a2) = false := beq_eq_false_iff_ne.mpr c8
    have c8b1 : ((rd l1 (ji5)) != a2) = true := bne_iff_ne.mpr c8
    have H' := G.m H
    clear H
    go_enter Try.func75, Try.ntmps75
    go_wp2_with (first | ((with_reducible refine G.h 4 rfl ?_); refine G.be 4 #[.int .i64 a0_0, .slice A0_1 l0_1.length c0_1] 30 ?_; intro gb416 hg w12 hbox hb; have n0 := G.bs HB hb; have n1 := G.m (hbox); have n2 := G.m ((by rw [hg]; exact (below_size (G.cB HB.out)) : w.heap.size ≤ gb416)); have n3 := G.m ((by rw [hg]; exact (below_size (G.cB HB.out)) : w.heap.size ≤ gb416)); clear HB; revert n0 n1 n2 n3; intro HB BK416 GW416 GE416; clear hb hbox hg; have p417 : 0 ≤ ((ji5) : Int) := of_decide_eq_true (G.asm); have q417 : (ji5) < (l1.length : Int) := of_decide_eq_true (G.asm); obtain ⟨ad417, e417, hx417_0⟩ := Kd.at_int HR1.out (ji5) p417 q417; cases e417; replace hx417_0 := G.hx HB hx417_0; replace p417 := eq_true p417; replace q417 := eq_true q417; have ⟨hcz13_0, hcz13_1, hfz13_0, hfz13_1⟩ := G.d2 (w := w12) BK416))
    go_loopg [3, 27] k (fun kq v3 v27 w' => ∃ (vq : Value) (x3_1 : List (List Int)) (x27_1 : Int), vq = v3 ∧ v27 = .int .i64 x27_1 ∧ Aside0 (impl_Net_ways.l0 kq l1 a2 x3_1 (rd l1 (ji5)) a0_0 x27_1 a0_0 l0_1 = some r) ∧ Aside0 (kq ≤ k) ∧ Aside0 (w'.heap[gb416]? = some (.cells #[.int .i64 a0_0, (.slice A0_1 l0_1.length c0_1)] 30 (0, 0))) ∧ Aside0 (LX w0 w (some ad417) c1 l1 vo vq x3_1 w'))
    case atStart => exact ⟨vo, a3, (0), rfl, (by first | rfl | (simp; done) | (simp [*]; done)), H', ⟨Nat.le_refl _⟩, ⟨G.cb BK416.out⟩, ⟨LX.below HX.out (G.cB HB.out)⟩⟩
    case round =>
     clear H'
     (try clear c1 c6b0 c7b0 c8 c8b0 c8b1 hcz13_0 hcz13_1 hfz13_0 hfz13_1 hx417_0 p417 q417)
     obtain ⟨vq, x3_1, x27_1, rfl, rfl, HA, HK1, BK416, HL⟩ := hrel
     clear HR0_1 HR1 HB
     have HR0_1 := G.m (Kd.C_below HRA.out HL.out.b)
     have HR1 := G.m (Kd.R_reads' HL.out.way).2.2
     have HB := G.m (Below.refl wr.heap.size wr)
     cases gk with
     | zero => exact absurd HA.out (by simp [impl_Net_ways.l0])
     | succ k1 =>
      have H := HA.out
      clear HA
      simp only [impl_Net_ways.l0] at H
      by_cases c14 : x27_1 < a0_0
      ·rw [if_pos c14] at H
       have c14b0 : decide (x27_1 < a0_0) = true := decide_eq_true c14
       clear c14
       have HC15 := G.m H
       clear H
       go_upto_region 7 with (fail)
       go_cut [39] (fun v39 wc => ∃ (kq : Nat) (x39_14 : Bool), v39 = .bool x39_14 ∧ Aside0 (impl_Net_ways.j1 kq l1 a2 x3_1 (rd l1 (ji5)) x27_1 a0_0 x27_1 x39_14 a0_0 l0_1 = some r) ∧ Aside0 (kq ≤ k1) ∧ Aside0 (wc.heap[gb416]? = some (.cells #[.int .i64 a0_0, (.slice A0_1 l0_1.length c0_1)] 30 (0, 0))) ∧ Aside0 (Below wr.heap.size wr wc))
       case first =>
        have H := HC15.out
        clear HC15
        obtain ⟨t421, A16, H⟩ := G.bi H
        replace H : (if t421 = true then ((slices_Contains_int_int.f k1 l1 x27_1).bind fun t422 => (impl_Net_ways.j1 k1 l1 a2 x3_1 (rd l1 (ji5)) x27_1 a0_0 x27_1 (!t422) a0_0 l0_1)) else (impl_Net_ways.j1 k1 l1 a2 x3_1 (rd l1 (ji5)) x27_1 a0_0 x27_1 false a0_0 l0_1)) = some r := H
        by_cases c17 : t421 = true
        ·subst c17
         have H1 : ((slices_Contains_int_int.f k1 l1 x27_1).bind fun t422 => (impl_Net_ways.j1 k1 l1 a2 x3_1 (rd l1 (ji5)) x27_1 a0_0 x27_1 (!t422) a0_0 l0_1)) = some r := by rw [if_pos rfl] at H; exact H
         clear H
         have H := H1
         clear H1
         obtain ⟨t422, A18, H⟩ := G.bi H
         replace H : (impl_Net_ways.j1 k1 l1 a2 x3_1 (rd l1 (ji5)) x27_1 a0_0 x27_1 (!t422) a0_0 l0_1) = some r := H
         have H' := G.m H
         clear H
         have ⟨hcz19_0, hcz19_1, hfz19_0, hfz19_1⟩ := G.d2 (w := wr) BK416
         go_wp2_with (first | ((with_reducible refine gate_callee (f := 63) rfl ?_); refine goesL_ (some 33) rfl rfl Try.func63 (by kernel_rfl) rfl #[.agg #[.int .i64 a0_0, .slice A0_1 l0_1.length c0_1], .int .i64 (rd l1 (ji5)), .int .i64 x27_1] rfl ((by (try simp only [List.map_toArray, List.map_cons, List.map_nil]); first | done | (simp only [hji5]; rfl) | rfl | (simp only [List.length_drop, List.length_take]; rfl))) ?_; (with_reducible refine (impl_Net_has.calls k1 a0_0 _ _ l0_1 (rd l1 (ji5)) x27_1 true _ ?side1 ?side2 A16.out).mono ?_); (case side1 => exact G.cC (Kd.C_below HR0_1.out HB.out)); (case side2 => exact HC0_1.out); rintro e w20 ⟨rfl, hb⟩; refine ⟨_, rfl, ?_⟩; have n0 := G.bb BK416 hb; have n1 := G.bs HB hb; clear BK416 HB; revert n0 n1; intro BK416 HB; (try clear hb)) | (go_at_call 82; (with_reducible refine (slices_Contains_int_int.calls k1 _ _ l1 x27_1 t422 _ ?side1 ?side2 A18.out).mono ?_); (case side1 => exact G.cC (Kd.C_below HR1.out HB.out)); (case side2 => exact HC1.out); rintro e w' ⟨rfl, ⟨nd, rfl⟩⟩))
         go_meet
         case rel => exact ⟨_, (!t422), ((by first | rfl | (simp; done) | (simp [*]; done))), H', ⟨by have := HK1.out; first | omega | exact Nat.le_refl _⟩, ⟨G.cb BK416.out⟩, ⟨G.cB HB.out⟩⟩
        ·replace c17 := Bool.eq_false_iff.mpr c17
         subst c17
         have H1 : (impl_Net_ways.j1 k1 l1 a2 x3_1 (rd l1 (ji5)) x27_1 a0_0 x27_1 false a0_0 l0_1) = some r := by rw [if_neg (show ¬ (false = true) by decide)] at H; exact H
         clear H
         have H := H1
         clear H1
         have H' := G.m H
         clear H
         have ⟨hcz21_0, hcz21_1, hfz21_0, hfz21_1⟩ := G.d2 (w := wr) BK416
         go_wp2_with (first | ((with_reducible refine gate_callee (f := 63) rfl ?_); refine goesL_ (some 33) rfl rfl Try.func63 (by kernel_rfl) rfl #[.agg #[.int .i64 a0_0, .slice A0_1 l0_1.length c0_1], .int .i64 (rd l1 (ji5)), .int .i64 x27_1] rfl ((by (try simp only [List.map_toArray, List.map_cons, List.map_nil]); first | done | (simp only [hji5]; rfl) | rfl | (simp only [List.length_drop, List.length_take]; rfl))) ?_; (with_reducible refine (impl_Net_has.calls k1 a0_0 _ _ l0_1 (rd l1 (ji5)) x27_1 false _ ?side1 ?side2 A16.out).mono ?_); (case side1 => exact G.cC (Kd.C_below HR0_1.out HB.out)); (case side2 => exact HC0_1.out); rintro e w22 ⟨rfl, hb⟩; refine ⟨_, rfl, ?_⟩; have n0 := G.bb BK416 hb; have n1 := G.bs HB hb; clear BK416 HB; revert n0 n1; intro BK416 HB; (try clear hb)))
         go_meet
         case rel => exact ⟨_, (false), ((by first | rfl | (simp; done) | (simp [*]; done))), H', ⟨by have := HK1.out; first | omega | exact Nat.le_refl _⟩, ⟨G.cb BK416.out⟩, ⟨G.cB HB.out⟩⟩
       case rest =>
        clear HC15
        (try clear c14b0)
        obtain ⟨kq, x39_14, rfl, HA, HJ14, BK416, HB⟩ := hcut
        cases kq with
        | zero => exact absurd HA.out (by simp [impl_Net_ways.j1])
        | succ kj14 =>
         have H := HA.out
         clear HA
         simp only [impl_Net_ways.j1] at H
         by_cases c23 : x39_14 = true
         ·subst c23
          have H1 : ((slices_Clone_int_int.f l1).bind fun t423 => ((some (([x27_1] : List Int) : List Int)).bind fun y426 => (if t423.length + y426.length < 17592186044416 then ((impl_Net_ways.f kj14 a0_0 l0_1 (t423 ++ y426) a2 x3_1).bind fun t432 => (impl_Net_ways.l0 kj14 l1 a2 t432 (rd l1 (ji5)) a0_0 (wrap64 (x27_1 + 1)) a0_0 l0_1)) else (none)))) = some r := by rw [if_pos rfl] at H; exact H
          clear H
          have H := H1
          clear H1
          obtain ⟨t423, A24, H⟩ := G.bi H
          replace H : ((some (([x27_1] : List Int) : List Int)).bind fun y426 => (if t423.length + y426.length < 17592186044416 then ((impl_Net_ways.f kj14 a0_0 l0_1 (t423 ++ y426) a2 x3_1).bind fun t432 => (impl_Net_ways.l0 kj14 l1 a2 t432 (rd l1 (ji5)) a0_0 (wrap64 (x27_1 + 1)) a0_0 l0_1)) else (none))) = some r := H
          obtain ⟨y426, hy426⟩ : ∃ y_ : List Int, y_ = (([x27_1] : List Int)) := ⟨_, rfl⟩
          replace H : (if t423.length + y426.length < 17592186044416 then ((impl_Net_ways.f kj14 a0_0 l0_1 (t423 ++ y426) a2 x3_1).bind fun t432 => (impl_Net_ways.l0 kj14 l1 a2 t432 (rd l1 (ji5)) a0_0 (wrap64 (x27_1 + 1)) a0_0 l0_1)) else (none)) = some r := by first | (rw [hy426]; with_reducible exact H) | (have H2_ := (Option.bind_some _ _).symm.trans H; rw [hy426]; with_reducible exact H2_) | (have H2_ := (Option.bind_some _ _).symm.trans H; with_reducible exact H2_) | with_reducible exact H | (rw [hy426]; exact H) | exact H
          have Ny426 := G.m hy426
          clear hy426
          by_cases c25 : t423.length + y426.length < 17592186044416
          ·rw [if_pos c25] at H
           have LMc25 := G.m c25
           clear c25
           obtain ⟨y429, hy429⟩ : ∃ y_ : List Int, y_ = (t423 ++ y426) := ⟨_, rfl⟩
           replace H : ((impl_Net_ways.f kj14 a0_0 l0_1 y429 a2 x3_1).bind fun t432 => (impl_Net_ways.l0 kj14 l1 a2 t432 (rd l1 (ji5)) a0_0 (wrap64 (x27_1 + 1)) a0_0 l0_1)) = some r := by first | (rw [hy429]; with_reducible exact H) | (have H2_ := (Option.bind_some _ _).symm.trans H; rw [hy429]; with_reducible exact H2_) | (have H2_ := (Option.bind_some _ _).symm.trans H; with_reducible exact H2_) | with_reducible exact H | (rw [hy429]; exact H) | exact H
           have Ny429 := G.m hy429
           clear hy429
           obtain ⟨t432, A26, H⟩ := G.bi H
           replace H : (impl_Net_ways.l0 kj14 l1 a2 t432 (rd l1 (ji5)) a0_0 (wrap64 (x27_1 + 1)) a0_0 l0_1) = some r := H
           have H' := G.m H
           clear H
           try go_wp2
           have n0 := G.m (blk_drew BK416.out)
           have n1 := G.m (below_drew1 HB.out)
           clear BK416 HB
           revert n0 n1
           intro BK416 HB
           refine G.st 10 (S := fun w' => w'.cell? ⟨gb416, 0, none⟩ = some (.int .i64 a0_0) ∧ w'.cell? ⟨gb416, 1, none⟩ = some (.slice A0_1 l0_1.length c0_1)) [] ⟨G.z BK416 0, G.z BK416 1⟩ impl_Net_ways.tab8 impl_Net_ways.bits8 (fun hHeld HT_ HW_ => ?_)
           generalize wc.drew = w27 at BK416 HB hHeld ⊢
           refine G.pu 1 41 2 ?_
           refine G.pu 3 43 10 ?_
           refine G.pu 6 46 74 ?_
           refine G.pu 7 47 202 ?_
           refine G.ta2 0 40 203 ?_
           refine join_ (σ := Value × Value) 3 (G.fl 10 223) (fun s_ => [(42, s_.1), (44, s_.2)]) (fun s_ w' => (w'.cell? ⟨gb416, 0, none⟩ = some (.int .i64 a0_0) ∧ w'.cell? ⟨gb416, 1, none⟩ = some (.slice A0_1 l0_1.length c0_1)) ∧ (Kd.R (Kd.int .i64) 3 w' wr.heap.size (fun k_ => some k_ ≠ (s_.2 : Value).ownBlock) s_.1 t423) ∧ (Kd.R (Kd.int .i64) 3 w' wr.heap.size (fun k_ => some k_ ≠ (s_.1 : Value).ownBlock) s_.2 y426) ∧ (w'.heap[gb416]? = some (.cells #[.int .i64 a0_0, .slice A0_1 l0_1.length c0_1] 30 (0, 0))) ∧ (Below wr.heap.size wr w')) ?_ ?_
           rotate_left
           ·intro hCont
            refine two_ (i := 2) (j := 4) (Ni := some 42) (Nj := some 44) (G.fl 10 207) (G.fl 10 219) rfl rfl rfl rfl (two_of HT_.out (by kernel_rfl)) (by decide) (by decide) (fun K hK => ?_) (fun K hK => ?_)
            ·skip
             refine G.gs Try.func86 #[.slice (some ad417) l1.length c1] ?_
             with_reducible refine (slices_Clone_int_int.calls _ _ l1 t423 _ ?side1 ?side2 A24.out).mono ?_
             (case side1 => exact G.cC (Kd.C_below HR1.out HB.out))
             (case side2 => exact HC1.out)
             rintro e w28 ⟨v424, rfl, ho0, hb⟩
             refine ⟨_, rfl, ?_⟩
             have n0 := G.m (Kd.R_lower ho0 (below_size (G.cB HB.out)))
             have n1 := G.bb BK416 hb
             have n2 := G.bs HB hb
             clear BK416 HB
             revert n0 n1 n2
             intro HO425 BK416 HB
             (try clear hb ho0)
             refine hK.out _ _ ⟨G.z BK416 0, G.z BK416 1⟩ (fun hHeld => ?_)
             clear hK K
             refine G.no 42 ?_
             refine G.on 4 44 223 (fun K hK => ?_)
             refine Kd.R_lit_step (Kd.int .i64) _ 3 ?hg (N := 44) ?hd (xs := ([x27_1] : List Int)) (inner := [.int .i64 x27_1]) (ok := fun _ => True) (okp := fun _ => True) ?hr ?hp (fun _ hk => hk) trivial (Below.refl _ _) (Nat.le_refl _) (by simp) ?_; (case hd => rfl); (case hg => rfl); (case hr => first | (go_simp; done) | (go_simp; rfl)); (case hp => exact (Reps.one (show Kd.M (Kd.int .i64) _ _ _ x27_1 [.int .i64 x27_1] from rfl) (Reps.none _ _)))
             intro v427 w29 ho30 hb hg_ hnew_
             clear hg_ hnew_
             (first | rw [← Ny426.out] at ho30 | (simp only [Int.reduceToNat] at ho30; rw [← Ny426.out] at ho30))
             have n0 := G.re HO425 ho30 hb
             have n1 := G.m (Kd.R_lower (Kd.R_new' ho30 (Kd.R_lt (G.cR HO425.out))) (below_size (G.cB HB.out)))
             have n2 := G.bb BK416 hb
             have n3 := G.bs HB hb
             clear HO425 BK416 HB
             revert n0 n1 n2 n3
             intro HO425 HO428 BK416 HB
             clear hb ho30
             refine hK.out _ _ ⟨G.z BK416 0, G.z BK416 1⟩ (fun hHeld => ?_)
             clear hK K
             refine G.no 44 ?_
             exact norm_ (by simp only [putAll, Act.put, List.setIfInBounds_toArray, List.set_cons_zero, List.set_cons_succ]) (hCont (v424, v427) _ ⟨hHeld, ((by (with_reducible repeat (first | apply Kd.R_alloc | apply Kd.R_drewN | apply Kd.R_drew)); exact Kd.R_mono HO425.out (fun _ hk => hk.2))), ((by (with_reducible repeat (first | apply Kd.R_alloc | apply Kd.R_drewN | apply Kd.R_drew)); exact Kd.R_mono HO428.out (fun _ hk => hk.2))), (G.cb BK416.out), (G.cB HB.out)⟩)
            ·skip
             refine Kd.R_lit_step (Kd.int .i64) _ 3 ?hg (N := 44) ?hd (xs := ([x27_1] : List Int)) (inner := [.int .i64 x27_1]) (ok := fun _ => True) (okp := fun _ => True) ?hr ?hp (fun _ hk => hk) trivial (Below.refl _ _) (Nat.le_refl _) (by simp) ?_; (case hd => rfl); (case hg => rfl); (case hr => first | (go_simp; done) | (go_simp; rfl)); (case hp => exact (Reps.one (show Kd.M (Kd.int .i64) _ _ _ x27_1 [.int .i64 x27_1] from rfl) (Reps.none _ _)))
             intro v427 w28 ho29 hb hg_ hnew_
             clear hg_ hnew_
             (first | rw [← Ny426.out] at ho29 | (simp only [Int.reduceToNat] at ho29; rw [← Ny426.out] at ho29))
             have n0 := G.m (Kd.R_lower ho29 (below_size (G.cB HB.out)))
             have n1 := G.bb BK416 hb
             have n2 := G.bs HB hb
             clear BK416 HB
             revert n0 n1 n2
             intro HO428 BK416 HB
             clear hb ho29
             refine hK.out _ _ ⟨G.z BK416 0, G.z BK416 1⟩ (fun hHeld => ?_)
             clear hK K
             refine G.no 44 ?_
             refine G.on 2 42 223 (fun K hK => ?_)
             refine G.gs Try.func86 #[.slice (some ad417) l1.length c1] ?_
             with_reducible refine (slices_Clone_int_int.calls _ _ l1 t423 _ ?side1 ?side2 A24.out).mono ?_
             (case side1 => exact G.cC (Kd.C_below HR1.out HB.out))
             (case side2 => exact HC1.out)
             rintro e w30 ⟨v424, rfl, ho0, hb⟩
             refine ⟨_, rfl, ?_⟩
             have n0 := G.re HO428 ho0 hb
             have n1 := G.m (Kd.R_lower (Kd.R_new' ho0 (Kd.R_lt (G.cR HO428.out))) (below_size (G.cB HB.out)))
             have n2 := G.bb BK416 hb
             have n3 := G.bs HB hb
             clear HO428 BK416 HB
             revert n0 n1 n2 n3
             intro HO428 HO425 BK416 HB
             (try clear hb ho0)
             refine hK.out _ _ ⟨G.z BK416 0, G.z BK416 1⟩ (fun hHeld => ?_)
             clear hK K
             refine G.no 42 ?_
             exact norm_ (by simp only [putAll, Act.put, List.setIfInBounds_toArray, List.set_cons_zero, List.set_cons_succ]) (hCont (v424, v427) _ ⟨hHeld, ((by (with_reducible repeat (first | apply Kd.R_alloc | apply Kd.R_drewN | apply Kd.R_drew)); exact Kd.R_mono HO425.out (fun _ hk => hk.2))), ((by (with_reducible repeat (first | apply Kd.R_alloc | apply Kd.R_drewN | apply Kd.R_drew)); exact Kd.R_mono HO428.out (fun _ hk => hk.2))), (G.cb BK416.out), (G.cB HB.out)⟩)
           rintro ⟨v424, v427⟩ w31 ⟨hS_, h0_, h1_, h2_, h3_⟩
           have n0 : Aside0 (Kd.R (Kd.int .i64) 3 w31 wr.heap.size (fun k_ => some k_ ≠ (v427 : Value).ownBlock) v424 t423) := ⟨h0_⟩
           have n1 : Aside0 (Kd.R (Kd.int .i64) 3 w31 wr.heap.size (fun k_ => some k_ ≠ (v424 : Value).ownBlock) v427 y426) := ⟨h1_⟩
           have n2 : Aside0 (w31.heap[gb416]? = some (.cells #[.int .i64 a0_0, .slice A0_1 l0_1.length c0_1] 30 (0, 0))) := ⟨h2_⟩
           have n3 : Aside0 (Below wr.heap.size wr w31) := ⟨h3_⟩
           clear BK416 HB
           clear h0_ h1_ h2_ h3_
           revert n0 n1 n2 n3
           intro HO425 HO428 BK416 HB
           have hHeld : w31.cell? ⟨gb416, 0, none⟩ = some (.int .i64 a0_0) ∧ w31.cell? ⟨gb416, 1, none⟩ = some (.slice A0_1 l0_1.length c0_1) := hS_
           obtain ⟨Ao33, co33, eo33⟩ := Kd.R_slice HO428.out
           (first | subst eo33 | (injection eo33 with f1_ f2_ f3_; have f4_ := f1_.symm; have f5_ := f3_.symm; clear f1_ f2_ f3_; subst f4_; subst f5_))
           refine norm_ (a' := ?_) ?_ ?_
           rotate_left
           ·simp only [putAll, Act.put, List.setIfInBounds_toArray, List.set_cons_zero, List.set_cons_succ]
            rfl
           refine G.on 5 45 255 (fun K hK => ?_)
           refine Kd.R_append_rows_step (Kd.int .i64) (w0 := wr) wr.heap.size (by rfl) (.tmp 42) (.tmp 44) 25 3 (.int .i64 0) 8 rfl Try.underlying25 info3 rfl (by decide) (by omega) v424 t423 y426 _ _ _ (fun k_ => some k_ ≠ (.slice Ao33 y426.length co33 : Value).ownBlock) (fun _ => False) rfl rfl ?aO ?aR (fun _ _ h => h) (fun _ h => h.elim) ?aF ?aB ?aS ?aL ?_
           (case aR => exact G.cC (Kd.R_reads' HO428.out).2.2)
           (case aB => exact (G.cB HB.out))
           (case aF => exact (fun k_ hk => Kd.fresh' (Kd.R_lt (G.cR HO428.out)) k_ hk))
           (case aO => exact (G.cR HO425.out))
           (case aS => exact (below_size (G.cB HB.out)))
           (case aL => have := LMc25.out; omega)
           intro v430 w32 ho hb hg hat
           rw [← Ny429.out] at ho
           have n0 := G.bg BK416 hg (Kd.R_ne HO425.out BK416.out (by decide))
           have n1 := G.m (Kd.R_after (ok := (fun _ => True)) (by (with_reducible repeat (first | apply Kd.R_alloc | apply Kd.R_drewN | apply Kd.R_drew)); exact Kd.R_mono HO428.out (fun _ hk => ⟨trivial, hk⟩)) hg hat)
           have n2 := G.m (hb)
           have n3 := G.m (ho)
           clear BK416 HO428 HB HO425
           revert n0 n1 n2 n3
           intro BK416 HO428 HB HO431
           clear ho hb hg hat
           obtain ⟨Ao34, co34, eo34⟩ := Kd.R_slice HO431.out
           (first | subst eo34 | (injection eo34 with f1_ f2_ f3_; have f4_ := f1_.symm; have f5_ := f3_.symm; clear f1_ f2_ f3_; subst f4_; subst f5_))
           refine hK.out _ _ ⟨G.z BK416 0, G.z BK416 1⟩ (fun hHeld => ?_)
           clear hK K
           refine G.no 45 ?_
           refine G.on 8 48 511 (fun K hK => ?_)
           have HLc := G.m (LX.below HL.out (G.cB HB.out))
           refine G.gs Try.func75 #[.agg #[.int .i64 a0_0, .slice A0_1 l0_1.length c0_1], .slice Ao34 y429.length co34, .int .i64 a2, vq] ?_
           with_reducible refine (ih kj14 (by have := HK1.out; have := HJ14.out; omega) a0_0 _ _ l0_1 _ _ y429 a2 vq x3_1 t432 w0 _ ?side1 ?side2 ?side3 ?side4 A26.out).mono ?_
           (case side1 => exact HRA.out)
           (case side2 => exact HC0_1.out)
           (case side3 => exact HLc.out.b)
           (case side4 => exact ⟨Kd.R_mono (Kd.R_lower (G.cR HO431.out) HL.out.b.size) (fun _ _ => trivial), HLc.out.row⟩)
           rintro e w35 ⟨v1_, rfl, hS_, hb0_, hg_, hat_⟩
           refine ⟨_, rfl, ?_⟩
           have n0 := G.m (blk_grown (g := gb416) (o := .cells #[.int .i64 a0_0, .slice A0_1 l0_1.length c0_1] 30 (0, 0)) (G.cb BK416.out) hg_ (Kd.S_ne HLc.out.row (G.cb BK416.out) (by decide)))
           have n1 := G.m (LX.step HLc.out hS_ hb0_ hg_ hat_)
           have n2 := G.m (Below.refl w35.heap.size w35)
           clear HO428 HO431 BK416 HB HL HLc hS_ hb0_ hg_ hat_ HR0_1 HR1
           revert n0 n1 n2
           intro BK416 HL HB
           refine hK.out _ _ ⟨G.z BK416 0, G.z BK416 1⟩ (fun hHeld => ?_)
           clear hK K
           refine G.no 48 ?_
           refine G.pu 9 3 1023 ?_
           refine done_ (done_of HT_.out (by kernel_rfl)) ?_
           try go_wp2
           go_roundg kj14
           case measure => have := HK1.out; have := HJ14.out; omega
           case rel => exact ⟨_, t432, (wrap64 (x27_1 + 1)), rfl, (by first | rfl | (simp; done) | (simp [*]; done)), H', ⟨by have := HK1.out; have := HJ14.out; omega⟩, ⟨G.cb BK416.out⟩, ⟨LX.below HL.out (G.cB HB.out)⟩⟩
          ·rw [if_neg c25] at H
           exact absurd H (by simp)
         ·replace c23 := Bool.eq_false_iff.mpr c23
          subst c23
          have H1 : (impl_Net_ways.l0 kj14 l1 a2 x3_1 (rd l1 (ji5)) a0_0 (wrap64 (x27_1 + 1)) a0_0 l0_1) = some r := by rw [if_neg (show ¬ (false = true) by decide)] at H; exact H
          clear H
          have H := H1
          clear H1
          have H' := G.m H
          clear H
          go_wp2
          go_roundg kj14
          case measure => have := HK1.out; have := HJ14.out; omega
          case rel => exact ⟨_, x3_1, (wrap64 (x27_1 + 1)), rfl, (by first | rfl | (simp; done) | (simp [*]; done)), H', ⟨by have := HK1.out; have := HJ14.out; omega⟩, ⟨G.cb BK416.out⟩, ⟨LX.below HL.out (G.cB HB.out)⟩⟩
      ·rw [if_neg c14] at H
       have c14b0 : decide (x27_1 < a0_0) = false := decide_eq_false c14
       clear c14
       obtain rfl := Option.some.inj H
       go_wp2
       go_ret
       exact ⟨_, by first | rfl | (simp [errW_none, errW_some] <;> rfl), (LX.below HL.out (G.cB HB.out)).fin⟩
  ·rw [if_neg c7] at H
   exact absurd H (by simp)
 ·rw [if_neg c6] at H
  exact absurd H (by simp)
end Go.Proofs.Ytddadihobjinhaa.P
