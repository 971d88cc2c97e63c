-- Printed by a program of this session (mp.py, over the kit's print). Not trusted: Lean checks it.
import Derived.Test.YtddadihobjinhaaF0
namespace Go.Proofs.Ytddadihobjinhaa.P
open Go.RowKit Go.Proofs.YtddadihobjinhaaW.PrintWords Go.Proofs.YtddadihobjinhaaW.PrintLast Go.Proofs.YtddadihobjinhaaW.PrintMore
attribute [local go_sem] max2_int min2_int max_two min_two max_three min_three max_four min_four   -- for this text's walks alone
set_option linter.unusedVariables false
set_option linter.unusedSimpArgs false

theorem cac3 {p : Prop} (h : p := by repeat (first | (with_reducible first | exact HK.out | apply Kept.alloc | apply Kept.drewN | apply Kept.drew) | exact HK.out)) : p := h
theorem cac4 {p : Prop} (h : p := by first | rfl | (simp [errW_none, errW_some] <;> rfl) | (simp [*, errW_none, errW_some] <;> rfl)) : p := h
theorem cac2 {p : Prop} (h : p := by first | rfl | (simp; done) | (simp [*]; done)) : p := h
/-! ### laws_markTieS: function 53 -/
def laws_markTieS.l0 : Nat → List (S53) → Int → Int → Option (Int × (List (S53)))
 | 0, _, _, _ => none
 | k + 1, x0, x1, x5 => if x5 < (x0.length : Int) then (if 0 ≤ x5 then ((some (x0.set (x5 : Int).toNat (⟨x1, (rd_T53 x0 x5).f1⟩ : S53) : List (S53))).bind fun aj => (laws_markTieS.l0 k (aj.set (x5 : Int).toNat (⟨(rd_T53 aj x5).f0, wrap64 (x1 + 1)⟩ : S53)) (wrap64 ((wrap64 (x1 + 1)) + 1)) (wrap64 (x5 + 1)))) else (none)) else (some (x1, x0))
def laws_markTieS.f (k : Nat) (l0 : List (S53)) (a1 : Int) : Option (Int × (List (S53))) := laws_markTieS.l0 k l0 a1 0
theorem laws_markTieS.mono_l : ∀ k, (∀ y0 y1 y2, LeO (laws_markTieS.l0 k y0 y1 y2) (laws_markTieS.l0 (k + 1) y0 y1 y2))
 | 0 => fun _ _ _ r h => by simp [laws_markTieS.l0] at h
 | k + 1 => by
  have ak := laws_markTieS.mono_l k
  ·intro y0 y1 y2; unfold laws_markTieS.l0
   repeat' first
   | (with_reducible exact ak _ _ _)
   | (with_reducible exact LeO.refl _)
   | (with_reducible exact LeO.none _)
   | (with_reducible refine LeO.ite ?_ ?_)
   | (with_reducible refine LeO.bind ?_ (fun _ => ?_))
   | exact ak _ _ _
   | exact LeO.none _
   | refine LeO.ite ?_ ?_
   | refine LeO.bind ?_ (fun _ => ?_)
theorem laws_markTieS.mono : ∀ a0 a1 k, LeO (laws_markTieS.f k a0 a1) (laws_markTieS.f (k + 1) a0 a1) := by
 intro a0 a1 k; have ak := laws_markTieS.mono_l k; unfold laws_markTieS.f
 repeat' first | (with_reducible first | exact ak _ _ _ | exact LeO.refl _ | exact LeO.none _ | refine LeO.ite ?_ ?_ | refine LeO.bind ?_ (fun _ => ?_)) | exact ak _ _ _ | exact LeO.none _ | refine LeO.ite ?_ ?_ | refine LeO.bind ?_ (fun _ => ?_)
set_option maxHeartbeats 8000000 in
set_option maxRecDepth 100000 in
theorem laws_markTieS.calls (k : Nat) (ag : Nat → Prop) (af : Value) (l0 : List (S53)) (a1 : Int) (r1 : Int) (r2 : List (S53)) (w0 w : World) (hB : Below w0.heap.size w0 w) (aY : Kd.R k53 53 w w0.heap.size ag af l0) (h : laws_markTieS.f k l0 a1 = some (r1, r2)) :
  Calls Try.prog 53 #[af, .int .i64 a1] w fun e w' => e = .returned (.int .i64 r1) ∧ Kd.R k53 53 w' w0.heap.size (fun k_ => (ag k_ ∨ w.heap.size ≤ k_)) af r2 ∧ Below w0.heap.size w0 w' ∧ Kept w w' (fun k_ => ag k_) := by
 have aZ := G.m (show Kd.R k53 53 w w0.heap.size (fun k_ => (ag k_ ∨ w.heap.size ≤ k_)) af l0 from Kd.R_mono aY (fun k_ hk => (.inl hk))); have HK := G.m (Kept.refl w (fun k_ => ag k_)); have bv := G.m hB.size; have HB := G.m hB; clear hB; have H : (laws_markTieS.l0 k l0 a1 0) = some (r1, r2) := h; clear h; have H' := G.m H; clear H
 go_enter Try.func53, Try.ntmps53
 go_wp2
 go_loopg [1, 5] k (fun kq v1 v5 w' => ∃ (ac : List (S53)) (ab : Int) (aa : Int), v1 = .int .i64 ab ∧ v5 = .int .i64 aa ∧ Aside0 (laws_markTieS.l0 kq ac ab aa = some (r1, r2)) ∧ Aside0 (kq ≤ k) ∧ Aside0 (Kd.R k53 53 w' w0.heap.size (fun k_ => (ag k_ ∨ w.heap.size ≤ k_)) af ac) ∧ Aside0 (Kept w w' (fun k_ => ag k_)) ∧ Aside0 (Below w0.heap.size w0 w'))
 case atStart => exact ⟨(l0), (a1), (0), (cac2), (cac2), H', ⟨Nat.le_refl _⟩, ⟨G.cR aZ.out⟩, ⟨cac3⟩, ⟨G.cB HB.out⟩⟩
 case round =>
  clear H'; try clear p2
  obtain ⟨ac, ab, aa, rfl, rfl, HA, az, ae, HK, HB⟩ := hrel; cases gk with
  | zero => exact absurd HA.out (by simp [laws_markTieS.l0])
  | succ k1 =>
   have H := HA.out; clear HA; simp only [laws_markTieS.l0] at H
   by_cases c3 : aa < (ac.length : Int)
   ·rw [if_pos c3] at H; have aA : decide (aa < (ac.length : Int)) = true := decide_eq_true c3; clear c3
    by_cases c4 : 0 ≤ aa
    ·rw [if_pos c4] at H; have a3 : decide (0 ≤ aa) = true := decide_eq_true c4; clear c4; obtain ⟨aj, au⟩ : ∃ y_ : List (S53), y_ = (ac.set (aa : Int).toNat (⟨ab, (rd_T53 ac aa).f1⟩ : S53)) := ⟨_, rfl⟩; replace H : (laws_markTieS.l0 k1 (aj.set (aa : Int).toNat (⟨(rd_T53 aj aa).f0, wrap64 (ab + 1)⟩ : S53)) (wrap64 ((wrap64 (ab + 1)) + 1)) (wrap64 (aa + 1))) = some (r1, r2) := by first | (rw [au]; with_reducible exact H) | (have ao := (Option.bind_some _ _).symm.trans H; rw [au]; with_reducible exact ao) | (have ao := (Option.bind_some _ _).symm.trans H; with_reducible exact ao) | with_reducible exact H | (rw [au]; exact H) | exact H
     have bj := G.m au; clear au; obtain ⟨aG, av⟩ : ∃ y_ : List (S53), y_ = (aj.set (aa : Int).toNat (⟨(rd_T53 aj aa).f0, wrap64 (ab + 1)⟩ : S53)) := ⟨_, rfl⟩; replace H : (laws_markTieS.l0 k1 aG (wrap64 ((wrap64 (ab + 1)) + 1)) (wrap64 (aa + 1))) = some (r1, r2) := by first | (rw [av]; with_reducible exact H) | (have ao := (Option.bind_some _ _).symm.trans H; rw [av]; with_reducible exact ao) | (have ao := (Option.bind_some _ _).symm.trans H; with_reducible exact ao) | with_reducible exact H | (rw [av]; exact H) | exact H
     have bk := G.m av; clear av; have H' := G.m H; clear H; obtain ⟨b8, aP, bK⟩ := Kd.R_slice ae.out; subst bK; have p5 : 0 ≤ (aa : Int) := of_decide_eq_true (G.asm); have q5 : (aa : Int) < ((ac.length : Int) : Int) := of_decide_eq_true (G.asm); obtain ⟨ah, bL, aD, aE, a4, bM, aF⟩ := Kd.R_form ae.out (by omega); (first | cases aD | (injection aD with ea_ en_ ec_; (first | subst ea_ | (injection ea_ with ea_; subst ea_)); subst ec_; clear en_)); have aQ := G.m aE; have bN := G.m aF; clear aE a4 aF; have bl := G.m (show (ag ah ∨ w.heap.size ≤ ah) from (ae.out.1 _ rfl)); obtain ⟨b9, bF, bw, aH, aI⟩ := Kd.R_elem ae.out z53 (aa : Int) p5 q5; obtain rfl := k53_openM bw; have bm : wr.cell? ⟨ah, (aa : Int).toNat * 2, none⟩ = some (.int .i64 ((rd_T53 ac aa).f0)) := aH 0 _ rfl; have bW : wr.cell? ⟨ah, (aa : Int).toNat * 2 + 1, none⟩ = some (.int .i64 ((rd_T53 ac aa).f1)) := aH 1 _ rfl; have bn : wr.frozen? ⟨ah, (aa : Int).toNat * 2, none⟩ = false := aI 0; have bX : wr.frozen? ⟨ah, (aa : Int).toNat * 2 + 1, none⟩ = false := aI 1; clear bF aH aI bw; replace p5 := eq_true p5; replace q5 := eq_true q5; have bx := G.m (show Kd.R k53 53 wr w0.heap.size (fun k_ => (ag k_ ∨ w.heap.size ≤ k_)) (.slice (some ⟨ah, 0, none⟩) ac.length aP) ac from (G.cR ae.out)); obtain ⟨b_, a5, bz, aJ, a6⟩ := Kd.R_elem bx.out z53 (aa : Int) (of_decide_eq_true (G.asm)) (by have h_ : (aa : Int) < ((ac.length : Int) : Int) := of_decide_eq_true (G.asm); first | exact h_ | (have e_ := (Kd.R_reads' ae.out).1; omega) | simpa using h_); obtain rfl := k53_openM bz; have a7 := Kd.R_seg bx.out (aa : Int) (of_decide_eq_true (G.asm)) (by have h_ : (aa : Int) < ((ac.length : Int) : Int) := of_decide_eq_true (G.asm); first | exact h_ | (have e_ := (Kd.R_reads' ae.out).1; omega) | simpa using h_) (seg := [.int .i64 ab]) (j := 0) a5 aJ (show 1 ≤ 2 from by decide) (x' := (⟨ab, (rd_T53 ac aa).f1⟩ : S53)) (k53_mkM _ _ _ (⟨ab, (rd_T53 ac aa).f1⟩ : S53) ) (fun _ hk => hk); have bo := aJ 0 _ rfl; (try simp only [show (k53).sz = 2 from rfl, Nat.mul_one, Nat.add_zero] at bo); have bp := a6 0; (try simp only [show (k53).sz = 2 from rfl, Nat.mul_one, Nat.add_zero] at bp); clear a5 aJ a6 bz
     go_wp2_with (first | ((with_reducible refine gate_store (t := 3) (p := 16) rfl ?_); refine store_event (t := 3) (p := 16) (v := ?vo_w9) (w1 := (wr.setCell ⟨ah, (aa : Int).toNat * 2, none⟩ (.int .i64 ab))) ?hg ?ho ?hn ?hr ?_; (case ho => rfl); (case hg => rfl); (case hn => rfl); (case hr => first | (go_simp; done) | (go_simp; rfl)); intro w9 hw; have hg : wr.grownBy w9 (some ah) := (by rw [hw]; exact a7.2); have hp_ : Kd.R k53 53 w9 w0.heap.size (fun k_ => (ag k_ ∨ w.heap.size ≤ k_)) (.slice (some ⟨ah, 0, none⟩) ac.length aP) aj := (by rw [hw, bj.out]; exact a7.1); clear a7; have n0 := G.m (hp_); have n1 := G.m ((by rw [hw]; exact below_set (HB.out) aQ.out : Below w0.heap.size w0 w9)); have n2 := G.m (Kept.of_grown (S := (fun k_ => ag k_)) hg (cac3) (fun k_ e_ => (ae.out.1 k_ e_))); clear ae HB HK; revert n0 n1 n2; intro ae HB HK; clear hg hw hp_; have p6 : 0 ≤ (aa : Int) := of_decide_eq_true (G.asm); have q6 : (aa : Int) < ((ac.length : Int) : Int) := of_decide_eq_true (G.asm); obtain ⟨ca, bG, bA, aK, aL⟩ := Kd.R_elem ae.out z53 (aa : Int) p6 q6; obtain rfl := k53_openM bA; have bY : w9.cell? ⟨ah, (aa : Int).toNat * 2, none⟩ = some (.int .i64 ((rd_T53 aj aa).f0)) := aK 0 _ rfl; have bZ : w9.cell? ⟨ah, (aa : Int).toNat * 2 + 1, none⟩ = some (.int .i64 ((rd_T53 aj aa).f1)) := aK 1 _ rfl; have b1 : w9.frozen? ⟨ah, (aa : Int).toNat * 2, none⟩ = false := aL 0; have b2 : w9.frozen? ⟨ah, (aa : Int).toNat * 2 + 1, none⟩ = false := aL 1; clear bG aK aL bA; replace p6 := eq_true p6; replace q6 := eq_true q6; have a8 := G.m (show Kd.R k53 53 w9 w0.heap.size (fun k_ => (ag k_ ∨ w.heap.size ≤ k_)) (.slice (some ⟨ah, 0, none⟩) ac.length aP) aj from (G.cR ae.out)); obtain ⟨b4, aR, a9, aB, aS⟩ := Kd.R_elem a8.out z53 (aa : Int) (of_decide_eq_true (G.asm)) (by have h_ : (aa : Int) < ((ac.length : Int) : Int) := of_decide_eq_true (G.asm); first | exact h_ | (have e_ := (Kd.R_reads' ae.out).1; omega) | simpa using h_); obtain rfl := k53_openM a9; have aM := Kd.R_seg a8.out (aa : Int) (of_decide_eq_true (G.asm)) (by have h_ : (aa : Int) < ((ac.length : Int) : Int) := of_decide_eq_true (G.asm); first | exact h_ | (have e_ := (Kd.R_reads' ae.out).1; omega) | simpa using h_) (seg := [.int .i64 (wrap64 (ab + 1))]) (j := 1) aR aB (show 2 ≤ 2 from by decide) (x' := (⟨(rd_T53 aj aa).f0, wrap64 (ab + 1)⟩ : S53)) (k53_mkM _ _ _ (⟨(rd_T53 aj aa).f0, wrap64 (ab + 1)⟩ : S53) ) (fun _ hk => hk); have a_ := aB 1 _ rfl; (try simp only [show (k53).sz = 2 from rfl, Nat.mul_one, Nat.add_zero] at a_); have ba := aS 1; (try simp only [show (k53).sz = 2 from rfl, Nat.mul_one, Nat.add_zero] at ba); clear aR aB aS a9) | ((with_reducible refine gate_store (t := 3) (p := 23) rfl ?_); refine store_event (t := 3) (p := 23) (v := ?vo_w11) (w1 := (w9.setCell ⟨ah, (aa : Int).toNat * 2 + 1, none⟩ (.int .i64 (wrap64 (ab + 1))))) ?hg ?ho ?hn ?hr ?_; (case ho => rfl); (case hg => rfl); (case hn => rfl); (case hr => first | (go_simp; done) | (go_simp; rfl)); intro bc hw; have hg : w9.grownBy bc (some ah) := (by rw [hw]; exact aM.2); have hp_ : Kd.R k53 53 bc w0.heap.size (fun k_ => (ag k_ ∨ w.heap.size ≤ k_)) (.slice (some ⟨ah, 0, none⟩) ac.length aP) aG := (by rw [hw, bk.out]; exact aM.1); clear aM; have n0 := G.m (hp_); have n1 := G.m ((by rw [hw]; exact below_set (HB.out) aQ.out : Below w0.heap.size w0 bc)); have n2 := G.m (Kept.of_grown (S := (fun k_ => ag k_)) hg (cac3) (fun k_ e_ => (ae.out.1 k_ e_))); clear ae HB HK; revert n0 n1 n2; intro ae HB HK; clear hg hw hp_))
     go_roundg k1
     case measure => have := az.out; omega
     case rel => exact ⟨(aG), (wrap64 ((wrap64 (ab + 1)) + 1)), (wrap64 (aa + 1)), (cac2), (cac2), H', ⟨by have := az.out; omega⟩, ⟨G.cR ae.out⟩, ⟨cac3⟩, ⟨G.cB HB.out⟩⟩
    ·rw [if_neg c4] at H; exact absurd H (by simp)
   ·rw [if_neg c3] at H; have aA : decide (aa < (ac.length : Int)) = false := decide_eq_false c3; clear c3; simp only [Option.some.injEq, Prod.mk.injEq] at H; obtain ⟨rfl, rfl⟩ := H; obtain ⟨b5, b6, bH⟩ := Kd.R_slice ae.out; subst bH
    go_wp2
    go_ret
    exact ⟨cac4, G.cR ae.out, G.cB HB.out, by repeat (first | (with_reducible first | exact HK.out | apply Kept.alloc | apply Kept.drewN | apply Kept.drew) | exact HK.out)⟩

/-! ### laws_markNet: function 23 -/
def laws_markNet.f (k : Nat) (aC : Int) (al : List (S53)) (a1 : Int) : Option (Int × (List (S53))) := (laws_markTieS.f k al a1).bind fun aw => (some (aw.1, aw.2))
theorem laws_markNet.mono : ∀ a0 a1 a2 k, LeO (laws_markNet.f k a0 a1 a2) (laws_markNet.f (k + 1) a0 a1 a2) := by
 intro a0 a1 a2 k; unfold laws_markNet.f
 repeat' first | (with_reducible first | exact laws_markTieS.mono _ _ _ | exact LeO.refl _ | exact LeO.none _ | refine LeO.ite ?_ ?_ | refine LeO.bind ?_ (fun _ => ?_)) | exact laws_markTieS.mono _ _ _ | exact LeO.none _ | refine LeO.ite ?_ ?_ | refine LeO.bind ?_ (fun _ => ?_)
set_option maxHeartbeats 8000000 in
set_option maxRecDepth 100000 in
theorem laws_markNet.calls (k : Nat) (aC : Int) (am : Nat → Prop) (af : Value) (al : List (S53)) (a1 : Int) (r1 : Int) (r2 : List (S53)) (w0 w : World) (hB : Below w0.heap.size w0 w) (bq : Kd.R k53 53 w w0.heap.size am af al) (h : laws_markNet.f k aC al a1 = some (r1, r2)) :
  Calls Try.prog 23 #[.agg #[.int .i64 aC, af], .int .i64 a1] w fun e w' => e = .returned (.int .i64 r1) ∧ Kd.R k53 53 w' w0.heap.size (fun k_ => (am k_ ∨ w.heap.size ≤ k_)) af r2 ∧ Below w0.heap.size w0 w' ∧ Kept w w' (fun k_ => am k_) := by
 have b7 := Try.underlying30; have ai := G.m (show Kd.R k53 53 w w0.heap.size (fun k_ => (am k_ ∨ w.heap.size ≤ k_)) af al from Kd.R_mono bq (fun k_ hk => (.inl hk))); have HK := G.m (Kept.refl w (fun k_ => am k_)); have bv := G.m hB.size; have HB := G.m hB; clear hB; have H : ((laws_markTieS.f k al a1).bind fun aw => (some (aw.1, aw.2))) = some (r1, r2) := h; clear h; obtain ⟨⟨bd, bf⟩, A3, H⟩ := G.bi H; replace H : (some (bd, bf)) = some (r1, r2) := H; simp only [Option.some.injEq, Prod.mk.injEq] at H; obtain ⟨rfl, rfl⟩ := H; obtain ⟨aT, aU, bO⟩ := Kd.R_slice ai.out; subst bO
 go_enter Try.func23, Try.ntmps23
 go_wp2_with (first | ((with_reducible refine G.h 2 rfl ?_); refine G.be 2 #[.int .i64 aC, .slice aT al.length aU] 30 ?_; intro aV hg w5 hbox hb; have n0 := G.rb ai hb; have n1 := G.m (Kept.below (S := (fun k_ => am k_)) (cac3) hb); have n2 := G.bs HB hb; have n3 := G.m (hbox); have n4 := G.m ((by rw [hg]; exact (by first | exact HK.out.1 | exact (show Kept w _ (fun k_ => am k_) from by repeat (first | (with_reducible first | exact HK.out | apply Kept.alloc | apply Kept.drewN | apply Kept.drew) | exact HK.out)).1) : w.heap.size ≤ aV)); have n5 := G.m ((by rw [hg]; exact (below_size (G.cB HB.out)) : w0.heap.size ≤ aV)); clear ai HK HB; revert n0 n1 n2 n3 n4 n5; intro ai HK HB ax aW b3; clear hb hbox hg; have ⟨bP, bQ, bR, bS⟩ := G.d2 (w := w5) ax) | ((with_reducible refine G.f 53 rfl ?_); refine G.gL 8 Try.func53 #[.slice aT al.length aU, .int .i64 a1] ?_; (with_reducible refine (laws_markTieS.calls k (fun k_ => some k_ = (.slice aT al.length aU : Value).ownBlock) (.slice aT al.length aU) al a1 bd bf w0 _ ?side1 ?side2 A3.out).mono ?_); (case side1 => exact G.cB HB.out); (case side2 => exact Kd.R_tight rfl ai.out); rintro e w7 ⟨rfl, bB, hb, hkp⟩; refine ⟨_, rfl, ?_⟩; have n0 := G.m (Kd.R_reok rfl bB (fun k_ e_ => ai.out.1 k_ e_)); have n1 := G.m (blk_kept (G.cb ax.out) hkp (fun hs_ => (fun e_ => (Kd.R_ne ai.out ax.out (by decide)) e_) hs_)); have n2 := G.m (Kept.then_ (S := (fun k_ => am k_)) (by repeat (first | (with_reducible first | exact HK.out | apply Kept.alloc | apply Kept.drewN | apply Kept.drew | refine Kept.setCell ?_ (.inr aW.out) _) | exact HK.out)) hkp (fun k_ hs_ => (fun e_ => (ai.out.1 k_ e_.symm)) hs_)); have n3 := G.m (hb); clear ai ax HK HB; revert n0 n1 n2 n3; intro ai ax HK HB; (try clear hb hkp bB)))
 go_ret
 exact ⟨cac4, G.cR ai.out, G.cB HB.out, by repeat (first | (with_reducible first | exact HK.out | apply Kept.alloc | apply Kept.drewN | apply Kept.drew | refine Kept.setCell ?_ (.inr aW.out) _) | exact HK.out)⟩

/-! ### laws_markIntS: function 24 -/
def laws_markIntS.l0 : Nat → List Int → Int → Int → Option (Int × List Int)
 | 0, _, _, _ => none
 | k + 1, x0, x1, x5 => if x5 < (x0.length : Int) then (if 0 ≤ x5 then (laws_markIntS.l0 k (x0.set (x5 : Int).toNat x1) (wrap64 (x1 + 1)) (wrap64 (x5 + 1))) else (none)) else (some (x1, x0))
def laws_markIntS.f (k : Nat) (l0 : List Int) (a1 : Int) : Option (Int × List Int) := laws_markIntS.l0 k l0 a1 0
theorem laws_markIntS.mono_l : ∀ k, (∀ y0 y1 y2, LeO (laws_markIntS.l0 k y0 y1 y2) (laws_markIntS.l0 (k + 1) y0 y1 y2))
 | 0 => fun _ _ _ r h => by simp [laws_markIntS.l0] at h
 | k + 1 => by
  have ak := laws_markIntS.mono_l k
  ·intro y0 y1 y2; unfold laws_markIntS.l0
   repeat' first
   | (with_reducible exact ak _ _ _)
   | (with_reducible exact LeO.refl _)
   | (with_reducible exact LeO.none _)
   | (with_reducible refine LeO.ite ?_ ?_)
   | (with_reducible refine LeO.bind ?_ (fun _ => ?_))
   | exact ak _ _ _
   | exact LeO.none _
   | refine LeO.ite ?_ ?_
   | refine LeO.bind ?_ (fun _ => ?_)
theorem laws_markIntS.mono : ∀ a0 a1 k, LeO (laws_markIntS.f k a0 a1) (laws_markIntS.f (k + 1) a0 a1) := by
 intro a0 a1 k; have ak := laws_markIntS.mono_l k; unfold laws_markIntS.f
 repeat' first | (with_reducible first | exact ak _ _ _ | exact LeO.refl _ | exact LeO.none _ | refine LeO.ite ?_ ?_ | refine LeO.bind ?_ (fun _ => ?_)) | exact ak _ _ _ | exact LeO.none _ | refine LeO.ite ?_ ?_ | refine LeO.bind ?_ (fun _ => ?_)
set_option maxHeartbeats 8000000 in
set_option maxRecDepth 100000 in
theorem laws_markIntS.calls (k : Nat) (ag : Nat → Prop) (af : Value) (l0 : List Int) (a1 : Int) (r1 : Int) (r2 : List Int) (w0 w : World) (hB : Below w0.heap.size w0 w) (aY : Kd.R (Kd.int .i64) 3 w w0.heap.size ag af l0) (h : laws_markIntS.f k l0 a1 = some (r1, r2)) :
  Calls Try.prog 24 #[af, .int .i64 a1] w fun e w' => e = .returned (.int .i64 r1) ∧ Kd.R (Kd.int .i64) 3 w' w0.heap.size (fun k_ => (ag k_ ∨ w.heap.size ≤ k_)) af r2 ∧ Below w0.heap.size w0 w' ∧ Kept w w' (fun k_ => ag k_) := by
 have aZ := G.m (show Kd.R (Kd.int .i64) 3 w w0.heap.size (fun k_ => (ag k_ ∨ w.heap.size ≤ k_)) af l0 from Kd.R_mono aY (fun k_ hk => (.inl hk))); have HK := G.m (Kept.refl w (fun k_ => ag k_)); have bv := G.m hB.size; have HB := G.m hB; clear hB; have H : (laws_markIntS.l0 k l0 a1 0) = some (r1, r2) := h; clear h; have H' := G.m H; clear H
 go_enter Try.func24, Try.ntmps24
 go_wp2
 go_loopg [1, 5] k (fun kq v1 v5 w' => ∃ (ac : List Int) (ab : Int) (aa : Int), v1 = .int .i64 ab ∧ v5 = .int .i64 aa ∧ Aside0 (laws_markIntS.l0 kq ac ab aa = some (r1, r2)) ∧ Aside0 (kq ≤ k) ∧ Aside0 (Kd.R (Kd.int .i64) 3 w' w0.heap.size (fun k_ => (ag k_ ∨ w.heap.size ≤ k_)) af ac) ∧ Aside0 (Kept w w' (fun k_ => ag k_)) ∧ Aside0 (Below w0.heap.size w0 w'))
 case atStart => exact ⟨(l0), (a1), (0), (cac2), (cac2), H', ⟨Nat.le_refl _⟩, ⟨G.cR aZ.out⟩, ⟨cac3⟩, ⟨G.cB HB.out⟩⟩
 case round =>
  clear H'; obtain ⟨ac, ab, aa, rfl, rfl, HA, az, ae, HK, HB⟩ := hrel; cases gk with
  | zero => exact absurd HA.out (by simp [laws_markIntS.l0])
  | succ k1 =>
   have H := HA.out; clear HA; simp only [laws_markIntS.l0] at H
   by_cases c3 : aa < (ac.length : Int)
   ·rw [if_pos c3] at H; have aA : decide (aa < (ac.length : Int)) = true := decide_eq_true c3; clear c3
    by_cases c4 : 0 ≤ aa
    ·rw [if_pos c4] at H; have a3 : decide (0 ≤ aa) = true := decide_eq_true c4; clear c4; obtain ⟨aN, ay⟩ : ∃ y_ : List Int, y_ = (ac.set (aa : Int).toNat ab) := ⟨_, rfl⟩; replace H : (laws_markIntS.l0 k1 aN (wrap64 (ab + 1)) (wrap64 (aa + 1))) = some (r1, r2) := by first | (rw [ay]; with_reducible exact H) | (have ao := (Option.bind_some _ _).symm.trans H; rw [ay]; with_reducible exact ao) | (have ao := (Option.bind_some _ _).symm.trans H; with_reducible exact ao) | with_reducible exact H | (rw [ay]; exact H) | exact H
     have br := G.m ay; clear ay; have H' := G.m H; clear H; obtain ⟨cd, bT, bU⟩ := Kd.R_slice ae.out; subst bU; have p5 : 0 ≤ (aa : Int) := of_decide_eq_true (G.asm); have q5 : (aa : Int) < ((ac.length : Int) : Int) := of_decide_eq_true (G.asm); obtain ⟨ah, bL, aD, aE, a4, bM, aF⟩ := Kd.R_form ae.out (by omega); (first | cases aD | (injection aD with ea_ en_ ec_; (first | subst ea_ | (injection ea_ with ea_; subst ea_)); subst ec_; clear en_)); have aQ := G.m aE; have bN := G.m aF; clear aE a4 aF; have bl := G.m (show (ag ah ∨ w.heap.size ≤ ah) from (ae.out.1 _ rfl)); obtain ⟨bm, bn⟩ := Kd.R_celln 0 ae.out (aa : Int) p5 q5; replace p5 := eq_true p5; replace q5 := eq_true q5; have bh := Kd.R_putg ae.out (aa : Int) ab
     go_wp2_with (first | ((with_reducible refine gate_store (t := 3) (p := 15) rfl ?_); refine store_event (t := 3) (p := 15) (v := ?vo_w8) (w1 := (wr.setCell ⟨ah, (aa : Int).toNat, none⟩ (.int .i64 ab))) ?hg ?ho ?hn ?hr ?_; (case ho => rfl); (case hg => rfl); (case hn => rfl); (case hr => first | (go_simp; done) | (go_simp; rfl)); intro w8 hw; have hg : wr.grownBy w8 (some ah) := (by rw [hw]; exact bh.2); have hp_ : Kd.R (Kd.int .i64) 3 w8 w0.heap.size (fun k_ => (ag k_ ∨ w.heap.size ≤ k_)) (.slice (some ⟨ah, 0, none⟩) ac.length bT) aN := (by rw [hw, br.out]; exact bh.1); clear bh; have n0 := G.m (hp_); have n1 := G.m ((by rw [hw]; exact below_set (HB.out) aQ.out : Below w0.heap.size w0 w8)); have n2 := G.m (Kept.of_grown (S := (fun k_ => ag k_)) hg (cac3) (fun k_ e_ => (ae.out.1 k_ e_))); clear ae HB HK; revert n0 n1 n2; intro ae HB HK; clear hg hw hp_))
     go_roundg k1
     case measure => have := az.out; omega
     case rel => exact ⟨(aN), (wrap64 (ab + 1)), (wrap64 (aa + 1)), (cac2), (cac2), H', ⟨by have := az.out; omega⟩, ⟨G.cR ae.out⟩, ⟨cac3⟩, ⟨G.cB HB.out⟩⟩
    ·rw [if_neg c4] at H; exact absurd H (by simp)
   ·rw [if_neg c3] at H; have aA : decide (aa < (ac.length : Int)) = false := decide_eq_false c3; clear c3; simp only [Option.some.injEq, Prod.mk.injEq] at H; obtain ⟨rfl, rfl⟩ := H; obtain ⟨ce, cf, bV⟩ := Kd.R_slice ae.out; subst bV
    go_wp2
    go_ret
    exact ⟨cac4, G.cR ae.out, G.cB HB.out, by repeat (first | (with_reducible first | exact HK.out | apply Kept.alloc | apply Kept.drewN | apply Kept.drew) | exact HK.out)⟩

/-! ### laws_heldIntS: function 25 -/
def laws_heldIntS.l0 : Nat → List Int → Int → Int → Option (Int)
 | 0, _, _, _ => none
 | k + 1, x0, x1, x5 => if x5 < (x0.length : Int) then (if 0 ≤ x5 then (if (rd x0 x5) = x1 then (laws_heldIntS.l0 k x0 (wrap64 (x1 + 1)) (wrap64 (x5 + 1))) else (some (-1))) else (none)) else (some x1)
def laws_heldIntS.f (k : Nat) (l0 : List Int) (a1 : Int) : Option (Int) := laws_heldIntS.l0 k l0 a1 0
theorem laws_heldIntS.mono_l : ∀ k, (∀ y0 y1 y2, LeO (laws_heldIntS.l0 k y0 y1 y2) (laws_heldIntS.l0 (k + 1) y0 y1 y2))
 | 0 => fun _ _ _ r h => by simp [laws_heldIntS.l0] at h
 | k + 1 => by
  have ak := laws_heldIntS.mono_l k
  ·intro y0 y1 y2; unfold laws_heldIntS.l0
   repeat' first
   | (with_reducible exact ak _ _ _)
   | (with_reducible exact LeO.refl _)
   | (with_reducible exact LeO.none _)
   | (with_reducible refine LeO.ite ?_ ?_)
   | (with_reducible refine LeO.bind ?_ (fun _ => ?_))
   | exact ak _ _ _
   | exact LeO.none _
   | refine LeO.ite ?_ ?_
   | refine LeO.bind ?_ (fun _ => ?_)
theorem laws_heldIntS.mono : ∀ a0 a1 k, LeO (laws_heldIntS.f k a0 a1) (laws_heldIntS.f (k + 1) a0 a1) := by
 intro a0 a1 k; have ak := laws_heldIntS.mono_l k; unfold laws_heldIntS.f
 repeat' first | (with_reducible first | exact ak _ _ _ | exact LeO.refl _ | exact LeO.none _ | refine LeO.ite ?_ ?_ | refine LeO.bind ?_ (fun _ => ?_)) | exact ak _ _ _ | exact LeO.none _ | refine LeO.ite ?_ ?_ | refine LeO.bind ?_ (fun _ => ?_)
set_option maxHeartbeats 8000000 in
set_option maxRecDepth 100000 in
theorem laws_heldIntS.calls (k : Nat) (A0 : Option Addr) (c0 : Nat) (l0 : List Int) (a1 : Int) (r : Int) (w : World) (bC : Kd.C (Kd.int .i64) w A0 l0.length l0) (bD : l0.length ≤ c0) (h : laws_heldIntS.f k l0 a1 = some r) :
  Calls Try.prog 25 #[.slice A0 l0.length c0, .int .i64 a1] w fun e w' => e = .returned (.int .i64 r) ∧ Drawn0 w w' := by
 have bE := G.m bC; have cg := G.m bD; clear bC bD; have H : (laws_heldIntS.l0 k l0 a1 0) = some r := h; clear h; have H' := G.m H; clear H
 go_enter Try.func25, Try.ntmps25
 go_wp2
 go_loopg [1, 5] k (fun kq v1 v5 w' => ∃ (ab : Int) (aa : Int), v1 = .int .i64 ab ∧ v5 = .int .i64 aa ∧ Aside0 (laws_heldIntS.l0 kq l0 ab aa = some r) ∧ Aside0 (kq ≤ k) ∧ Drawn0 w w')
 case atStart => exact ⟨(a1), (0), (cac2), (cac2), H', ⟨Nat.le_refl _⟩, by repeat (first | exact Drawn0.refl _ | apply Drawn0.step)⟩
 case round =>
  clear H'; obtain ⟨ab, aa, rfl, rfl, HA, az, ⟨m1, rfl⟩⟩ := hrel; cases gk with
  | zero => exact absurd HA.out (by simp [laws_heldIntS.l0])
  | succ k1 =>
   have H := HA.out; clear HA; simp only [laws_heldIntS.l0] at H
   by_cases c3 : aa < (l0.length : Int)
   ·rw [if_pos c3] at H; have aA : decide (aa < (l0.length : Int)) = true := decide_eq_true c3; clear c3
    by_cases c4 : 0 ≤ aa
    ·rw [if_pos c4] at H; have a3 : decide (0 ≤ aa) = true := decide_eq_true c4; clear c4
     by_cases c5 : (rd l0 aa) = ab
     ·rw [if_pos c5] at H; have bI : ((rd l0 aa) == ab) = true := beq_iff_eq.mpr c5; have bJ : ((rd l0 aa) != ab) = false := bne_eq_false_iff_eq.mpr c5; clear c5; have H' := G.m H; clear H; have ap : 0 ≤ (aa : Int) := of_decide_eq_true (G.asm); have aq : aa < (l0.length : Int) := of_decide_eq_true (G.asm); obtain ⟨bu, aO, aX⟩ := Kd.at_int bE.out aa ap aq; cases aO; replace ap := eq_true ap; replace aq := eq_true aq
      go_wp2
      go_roundg k1
      case measure => have := az.out; omega
      case rel => exact ⟨(wrap64 (ab + 1)), (wrap64 (aa + 1)), (cac2), (cac2), H', ⟨by have := az.out; omega⟩, by repeat (first | exact Drawn0.refl _ | apply Drawn0.step)⟩
     ·rw [if_neg c5] at H; have bI : ((rd l0 aa) == ab) = false := beq_eq_false_iff_ne.mpr c5; have bJ : ((rd l0 aa) != ab) = true := bne_iff_ne.mpr c5; obtain rfl := Option.some.inj H; have ap : 0 ≤ (aa : Int) := of_decide_eq_true (G.asm); have aq : aa < (l0.length : Int) := of_decide_eq_true (G.asm); obtain ⟨bu, aO, aX⟩ := Kd.at_int bE.out aa ap aq; cases aO; replace ap := eq_true ap; replace aq := eq_true aq
      go_wp2
      go_ret
      exact ⟨cac2, by repeat (first | exact Drawn0.refl _ | apply Drawn0.step)⟩
    ·rw [if_neg c4] at H; exact absurd H (by simp)
   ·rw [if_neg c3] at H; have aA : decide (aa < (l0.length : Int)) = false := decide_eq_false c3; clear c3; obtain rfl := Option.some.inj H
    go_wp2
    go_ret
    exact ⟨cac2, by repeat (first | exact Drawn0.refl _ | apply Drawn0.step)⟩

end Go.Proofs.Ytddadihobjinhaa.P
