/- The walk of EarOk. -/
import Derived.Test.YtgeonpciodepgaaBsetm
import Derived.Test.YtgeonpciodepgaaF4
import Derived.Test.YtgeonpciodepgaaF11
import Derived.Test.YtgeonpciodepgaaF19
namespace Go.Proofs.Ytgeonpciodepgaa.P
set_option linter.unusedSimpArgs false
set_option linter.unusedVariables false
open Go.RowKit Go.Proofs.YtgeonpciodepgaaW.PrintWords Go.Proofs.YtgeonpciodepgaaW.PrintLast Go.Proofs.YtgeonpciodepgaaW.PrintMore
attribute [local go_sem] max2_int min2_int max_two min_two max_three min_three max_four min_four
theorem ce_0 {p : Prop} (h : p := by first | rfl | (simp [errW_none, errW_some] <;> rfl) | (simp only [← hji31]; first | rfl | (simp [errW_none, errW_some] <;> rfl)) | (simp [*, errW_none, errW_some] <;> rfl)) : p := h
theorem ce_1 {p : Prop} (h : p := by (try simp only [List.map_toArray, List.map_cons, List.map_nil]); first | done | (simp only [hji71]; rfl) | rfl | (simp only [List.length_drop, List.length_take]; rfl)) : p := h
theorem ce_2 {p : Prop} (h : p := by have := HJ3.out; have := HK2.out; have := HJ22.out; have := HJ33.out; have := HJ42.out; have := HK6.out; have := HK7.out; have := HK8.out; omega) : p := h
theorem ce_3 {p : Prop} (h : p := by rw [hg]; exact Nat.ne_of_lt (blk_lt (g := gb257) (o := .cells #[.int .i64 a0_0, .slice A0_1 l0_1.length c0_1] 31 (0, 0)) (G.cb BK257.out))) : p := h
theorem ce_4 {p : Prop} (h : p := by rw [hg]; exact Nat.ne_of_gt (blk_lt (g := gb257) (o := .cells #[.int .i64 a0_0, .slice A0_1 l0_1.length c0_1] 31 (0, 0)) (G.cb BK257.out))) : p := h
theorem ce_5 {p : Prop} (h : p := by rw [hg]; exact Nat.ne_of_lt (blk_lt (g := gb259) (o := mObj x260000_7) (G.cb BK259.out))) : p := h
theorem ce_6 {p : Prop} (h : p := by rw [hg]; exact Nat.ne_of_gt (blk_lt (g := gb259) (o := mObj x260000_7) (G.cb BK259.out))) : p := h
theorem ce_7 {p : Prop} (h : p := by first | rfl | (simp [errW_none, errW_some] <;> rfl) | (simp [*, errW_none, errW_some] <;> rfl)) : p := h
theorem ce_8 {p : Prop} (h : p := by have := HJ3.out; have := HK2.out; have := HJ22.out; first | omega | exact Nat.le_refl _) : p := h
theorem ce_9 {p : Prop} (h : p := by first | rfl | (simp; done) | (simp [*]; done)) : p := h
theorem ce_10 {p : Prop} (h : p := by rw [hg]; exact (below_size (G.cB HB.out))) : p := h
theorem ce_11 {p : Prop} (h : p := by kernel_rfl) : p := h
mutual
def earOkW.j0 : Nat → List (List Int) → List Int → Bool → Int → List (S59) → Option (Bool)
 | 0, _, _, _, _, _ => none
 | k + 1, x1, x2, x25, x258000, x258001 => if x25 = true then (some false) else (if 0 ≤ x258000 then (if (x258000 : Int).toNat ≤ 281474976710656 then (earOkW.l0 k x2 (List.replicate (x258000 : Int).toNat false) x1 (x1.length : Int) 0 x258000 x258001 [] 0) else (none)) else (none))
def earOkW.l0 : Nat → List Int → List Bool → List (List Int) → Int → Int → Int → List (S59) → List (S59) → Int → Option (Bool)
 | 0, _, _, _, _, _, _, _, _, _ => none
 | k + 1, x2, x6, x30, x31, x32, x258000, x258001, x260000, x260001 => if x32 < x31 then (if 0 ≤ x32 then (if x32 < (x30.length : Int) then (if ((rd_L2 x30 x32).length : Int) < 2 then (earOkW.j2 k x2 x6 x32 (rd_L2 x30 x32) x30 x31 x32 true x258000 x258001 x260000 x260001) else ((impl_Net_walk.f k x258000 x258001 (rd_L2 x30 x32)).bind fun t265 => (earOkW.j2 k x2 x6 x32 (rd_L2 x30 x32) x30 x31 x32 (!t265) x258000 x258001 x260000 x260001))) else (none)) else (none)) else (if (x260000.length : Int) = (x258001.length : Int) then ((slices_Contains_bool_bool.f k x6 false).bind fun t263 => (some (!t263))) else (some false))
def earOkW.j2 : Nat → List Int → List Bool → Int → List Int → List (List Int) → Int → Int → Bool → Int → List (S59) → List (S59) → Int → Option (Bool)
 | 0, _, _, _, _, _, _, _, _, _, _, _, _ => none
 | k + 1, x2, x6, x7, x8, x30, x31, x32, x45, x258000, x258001, x260000, x260001 => if x45 = true then (some false) else (if 0 < (x8.length : Int) then (if 0 ≤ (wrap64 ((x8.length : Int) - 1)) then (if (wrap64 ((x8.length : Int) - 1)) < (x8.length : Int) then (if (rd x8 0) = (rd x8 (wrap64 ((x8.length : Int) - 1))) then (if (x8.length : Int) < 4 then (earOkW.j3 k x2 x6 x7 x8 (rd x8 0) (rd x8 (wrap64 ((x8.length : Int) - 1))) x30 x31 x32 true x258000 x258001 x260000 x260001) else (if x7 = 0 then (earOkW.j3 k x2 x6 x7 x8 (rd x8 0) (rd x8 (wrap64 ((x8.length : Int) - 1))) x30 x31 x32 ((rd x8 0) != (rd x8 (wrap64 ((x8.length : Int) - 1)))) x258000 x258001 x260000 x260001) else (earOkW.j3 k x2 x6 x7 x8 (rd x8 0) (rd x8 (wrap64 ((x8.length : Int) - 1))) x30 x31 x32 false x258000 x258001 x260000 x260001))) else (if x7 = 0 then (earOkW.j3 k x2 x6 x7 x8 (rd x8 0) (rd x8 (wrap64 ((x8.length : Int) - 1))) x30 x31 x32 ((rd x8 0) != (rd x8 (wrap64 ((x8.length : Int) - 1)))) x258000 x258001 x260000 x260001) else (earOkW.j3 k x2 x6 x7 x8 (rd x8 0) (rd x8 (wrap64 ((x8.length : Int) - 1))) x30 x31 x32 false x258000 x258001 x260000 x260001))) else (none)) else (none)) else (none))
def earOkW.j3 : Nat → List Int → List Bool → Int → List Int → Int → Int → List (List Int) → Int → Int → Bool → Int → List (S59) → List (S59) → Int → Option (Bool)
 | 0, _, _, _, _, _, _, _, _, _, _, _, _, _, _ => none
 | k + 1, x2, x6, x7, x8, x9, x10, x30, x31, x32, x71, x258000, x258001, x260000, x260001 => if x71 = true then (some false) else (if 1 ≤ (wrap64 ((x8.length : Int) - 1)) then (if (wrap64 ((x8.length : Int) - 1)) ≤ (x8.length : Int) then (if x7 = 0 then (if 1 ≤ (x8.length : Int) then (earOkW.j4 k x2 x6 x8 (x8.drop 1) x30 x31 x32 x258000 x258001 x260000 x260001) else (none)) else (if 0 ≤ x9 then (if x9 < (x6.length : Int) then (if rdOf false x6 x9 = true then (if 0 ≤ x10 then (if x10 < (x6.length : Int) then (if rdOf false x6 x10 = true then (earOkW.j4 k x2 x6 x8 ((x8.take (wrap64 ((x8.length : Int) - 1)).toNat).drop 1) x30 x31 x32 x258000 x258001 x260000 x260001) else (some false)) else (none)) else (none)) else (some false)) else (none)) else (none))) else (none)) else (none))
def earOkW.j4 : Nat → List Int → List Bool → List Int → List Int → List (List Int) → Int → Int → Int → List (S59) → List (S59) → Int → Option (Bool)
 | 0, _, _, _, _, _, _, _, _, _, _, _ => none
 | k + 1, x2, x6, x8, x11, x30, x31, x32, x258000, x258001, x260000, x260001 => (impl_different.f k x11).bind fun t272 => (if t272 = true then (earOkW.l1 k x2 x6 x8 x30 x31 x32 x11 (x11.length : Int) 0 x258000 x258001 x260000 x260001) else (some false))
def earOkW.l1 : Nat → List Int → List Bool → List Int → List (List Int) → Int → Int → List Int → Int → Int → Int → List (S59) → List (S59) → Int → Option (Bool)
 | 0, _, _, _, _, _, _, _, _, _, _, _, _, _ => none
 | k + 1, x2, x6, x8, x30, x31, x32, x96, x97, x98, x258000, x258001, x260000, x260001 => if x98 < x97 then (if 0 ≤ x98 then (if x98 < (x96.length : Int) then (if 0 ≤ (rd x96 x98) then (if (rd x96 x98) < (x6.length : Int) then (if rdOf false x6 (rd x96 x98) = true then (some false) else (earOkW.l1 k x2 x6 x8 x30 x31 x32 x96 x97 (wrap64 (x98 + 1)) x258000 x258001 x260000 x260001)) else (none)) else (none)) else (none)) else (none)) else (earOkW.l2 k x2 x6 x8 1 x30 x31 x32 x258000 x258001 x260000 x260001)
def earOkW.l2 : Nat → List Int → List Bool → List Int → Int → List (List Int) → Int → Int → Int → List (S59) → List (S59) → Int → Option (Bool)
 | 0, _, _, _, _, _, _, _, _, _, _, _ => none
 | k + 1, x2, x6, x8, x14, x30, x31, x32, x258000, x258001, x260000, x260001 => if x14 < (x8.length : Int) then (if 0 ≤ (wrap64 (x14 - 1)) then (if (wrap64 (x14 - 1)) < (x8.length : Int) then (if 0 ≤ x14 then ((impl_tie.f (rd x8 (wrap64 (x14 - 1))) (rd x8 x14)).bind fun bt277 => (if tHas x260000 bt277.1 bt277.2 = true then (some false) else (earOkW.l2 k x2 x6 x8 (wrap64 (x14 + 1)) x30 x31 x32 x258000 x258001 (x260000 ++ [⟨bt277.1, bt277.2⟩]) x260001))) else (none)) else (none)) else (none)) else (earOkW.l3 k x2 x6 x30 x31 x32 x8 (x8.length : Int) 0 x258000 x258001 x260000 x260001)
def earOkW.l3 : Nat → List Int → List Bool → List (List Int) → Int → Int → List Int → Int → Int → Int → List (S59) → List (S59) → Int → Option (Bool)
 | 0, _, _, _, _, _, _, _, _, _, _, _, _ => none
 | k + 1, x2, x6, x30, x31, x32, x128, x129, x130, x258000, x258001, x260000, x260001 => if x130 < x129 then (if 0 ≤ x130 then (if x130 < (x128.length : Int) then (if 0 ≤ (rd x128 x130) then (if (rd x128 x130) < (x6.length : Int) then (earOkW.l3 k x2 (x6.set ((rd x128 x130) : Int).toNat true) x30 x31 x32 x128 x129 (wrap64 (x130 + 1)) x258000 x258001 x260000 x260001) else (none)) else (none)) else (none)) else (none)) else (earOkW.l0 k x2 x6 x30 x31 (wrap64 (x32 + 1)) x258000 x258001 x260000 x260001)
end
def earOkW.f (k : Nat) (a0_0 : Int) (l0_1 : List (S59)) (l1 : List (List Int)) (l2 : List Int) : Option (Bool) := (impl_NetOk.f k a0_0 l0_1).bind fun t258 => (if t258 = true then (earOkW.j0 k l1 l2 ((l1.length : Int) == 0) a0_0 l0_1) else (earOkW.j0 k l1 l2 true a0_0 l0_1))
theorem earOkW.mono_l : ∀ k, (∀ y0 y1 y2 y3 y4, LeO (earOkW.j0 k y0 y1 y2 y3 y4) (earOkW.j0 (k + 1) y0 y1 y2 y3 y4)) ∧ (∀ y0 y1 y2 y3 y4 y5 y6 y7 y8, LeO (earOkW.l0 k y0 y1 y2 y3 y4 y5 y6 y7 y8) (earOkW.l0 (k + 1) y0 y1 y2 y3 y4 y5 y6 y7 y8)) ∧ (∀ y0 y1 y2 y3 y4 y5 y6 y7 y8 y9 y10 y11, LeO (earOkW.j2 k y0 y1 y2 y3 y4 y5 y6 y7 y8 y9 y10 y11) (earOkW.j2 (k + 1) y0 y1 y2 y3 y4 y5 y6 y7 y8 y9 y10 y11)) ∧ (∀ y0 y1 y2 y3 y4 y5 y6 y7 y8 y9 y10 y11 y12 y13, LeO (earOkW.j3 k y0 y1 y2 y3 y4 y5 y6 y7 y8 y9 y10 y11 y12 y13) (earOkW.j3 (k + 1) y0 y1 y2 y3 y4 y5 y6 y7 y8 y9 y10 y11 y12 y13)) ∧ (∀ y0 y1 y2 y3 y4 y5 y6 y7 y8 y9 y10, LeO (earOkW.j4 k y0 y1 y2 y3 y4 y5 y6 y7 y8 y9 y10) (earOkW.j4 (k + 1) y0 y1 y2 y3 y4 y5 y6 y7 y8 y9 y10)) ∧ (∀ y0 y1 y2 y3 y4 y5 y6 y7 y8 y9 y10 y11 y12, LeO (earOkW.l1 k y0 y1 y2 y3 y4 y5 y6 y7 y8 y9 y10 y11 y12) (earOkW.l1 (k + 1) y0 y1 y2 y3 y4 y5 y6 y7 y8 y9 y10 y11 y12)) ∧ (∀ y0 y1 y2 y3 y4 y5 y6 y7 y8 y9 y10, LeO (earOkW.l2 k y0 y1 y2 y3 y4 y5 y6 y7 y8 y9 y10) (earOkW.l2 (k + 1) y0 y1 y2 y3 y4 y5 y6 y7 y8 y9 y10)) ∧ (∀ y0 y1 y2 y3 y4 y5 y6 y7 y8 y9 y10 y11, LeO (earOkW.l3 k y0 y1 y2 y3 y4 y5 y6 y7 y8 y9 y10 y11) (earOkW.l3 (k + 1) y0 y1 y2 y3 y4 y5 y6 y7 y8 y9 y10 y11))
 | 0 => ⟨fun _ _ _ _ _ r h => by simp [earOkW.j0] at h, fun _ _ _ _ _ _ _ _ _ r h => by simp [earOkW.l0] at h, fun _ _ _ _ _ _ _ _ _ _ _ _ r h => by simp [earOkW.j2] at h, fun _ _ _ _ _ _ _ _ _ _ _ _ _ _ r h => by simp [earOkW.j3] at h, fun _ _ _ _ _ _ _ _ _ _ _ r h => by simp [earOkW.j4] at h, fun _ _ _ _ _ _ _ _ _ _ _ _ _ r h => by simp [earOkW.l1] at h, fun _ _ _ _ _ _ _ _ _ _ _ r h => by simp [earOkW.l2] at h, fun _ _ _ _ _ _ _ _ _ _ _ _ r h => by simp [earOkW.l3] at h⟩
 | k + 1 => by
  obtain ⟨ih0, ih1, ih2, ih3, ih4, ih5, ih6, ih7⟩ := earOkW.mono_l k
  refine ⟨?_, ?_, ?_, ?_, ?_, ?_, ?_, ?_⟩ <;> intros
  all_goals first | unfold earOkW.j0 | unfold earOkW.l0 | unfold earOkW.j2 | unfold earOkW.j3 | unfold earOkW.j4 | unfold earOkW.l1 | unfold earOkW.l2 | unfold earOkW.l3
  repeat' first | (with_reducible first | exact ih0 _ _ _ _ _ | exact ih1 _ _ _ _ _ _ _ _ _ | exact ih2 _ _ _ _ _ _ _ _ _ _ _ _ | exact ih3 _ _ _ _ _ _ _ _ _ _ _ _ _ _ | exact ih4 _ _ _ _ _ _ _ _ _ _ _ | exact ih5 _ _ _ _ _ _ _ _ _ _ _ _ _ | exact ih6 _ _ _ _ _ _ _ _ _ _ _ | exact ih7 _ _ _ _ _ _ _ _ _ _ _ _ | exact impl_NetOk.mono _ _ _ | exact impl_Net_walk.mono _ _ _ _ | exact impl_different.mono _ _ | exact slices_Contains_bool_bool.mono _ _ _ | exact LeO.refl _ | exact LeO.none _ | refine LeO.ite ?_ ?_ | refine LeO.bind ?_ (fun _ => ?_)) | exact ih0 _ _ _ _ _ | exact ih1 _ _ _ _ _ _ _ _ _ | exact ih2 _ _ _ _ _ _ _ _ _ _ _ _ | exact ih3 _ _ _ _ _ _ _ _ _ _ _ _ _ _ | exact ih4 _ _ _ _ _ _ _ _ _ _ _ | exact ih5 _ _ _ _ _ _ _ _ _ _ _ _ _ | exact ih6 _ _ _ _ _ _ _ _ _ _ _ | exact ih7 _ _ _ _ _ _ _ _ _ _ _ _ | exact impl_NetOk.mono _ _ _ | exact impl_Net_walk.mono _ _ _ _ | exact impl_different.mono _ _ | exact slices_Contains_bool_bool.mono _ _ _ | exact LeO.none _ | refine LeO.ite ?_ ?_ | refine LeO.bind ?_ (fun _ => ?_)
theorem earOkW.mono : ∀ a0 a1 a2 a3 k, LeO (earOkW.f k a0 a1 a2 a3) (earOkW.f (k + 1) a0 a1 a2 a3) := by
 intro a0 a1 a2 a3 k
 obtain ⟨ih0, ih1, ih2, ih3, ih4, ih5, ih6, ih7⟩ := earOkW.mono_l k
 unfold earOkW.f
 repeat' first | (with_reducible first | exact ih0 _ _ _ _ _ | exact ih1 _ _ _ _ _ _ _ _ _ | exact ih2 _ _ _ _ _ _ _ _ _ _ _ _ | exact ih3 _ _ _ _ _ _ _ _ _ _ _ _ _ _ | exact ih4 _ _ _ _ _ _ _ _ _ _ _ | exact ih5 _ _ _ _ _ _ _ _ _ _ _ _ _ | exact ih6 _ _ _ _ _ _ _ _ _ _ _ | exact ih7 _ _ _ _ _ _ _ _ _ _ _ _ | exact impl_NetOk.mono _ _ _ | exact impl_Net_walk.mono _ _ _ _ | exact impl_different.mono _ _ | exact slices_Contains_bool_bool.mono _ _ _ | exact LeO.refl _ | exact LeO.none _ | refine LeO.ite ?_ ?_ | refine LeO.bind ?_ (fun _ => ?_)) | exact ih0 _ _ _ _ _ | exact ih1 _ _ _ _ _ _ _ _ _ | exact ih2 _ _ _ _ _ _ _ _ _ _ _ _ | exact ih3 _ _ _ _ _ _ _ _ _ _ _ _ _ _ | exact ih4 _ _ _ _ _ _ _ _ _ _ _ | exact ih5 _ _ _ _ _ _ _ _ _ _ _ _ _ | exact ih6 _ _ _ _ _ _ _ _ _ _ _ | exact ih7 _ _ _ _ _ _ _ _ _ _ _ _ | exact impl_NetOk.mono _ _ _ | exact impl_Net_walk.mono _ _ _ _ | exact impl_different.mono _ _ | exact slices_Contains_bool_bool.mono _ _ _ | exact LeO.none _ | refine LeO.ite ?_ ?_ | refine LeO.bind ?_ (fun _ => ?_)
def earOkW.T10 : Bool × List (List Nat × List Nat) := (true, [([], []), ([0], [0]), ([1], [1]), ([], []), ([], []), ([4], [4]), ([5], [5]), ([3, 6], [3, 6]), ([7], [7]), ([2, 0, 1, 2], [2]), ([8, 9, 0, 1, 2, 3, 4, 5, 6, 7, 8, 9], [8])])
def earOkW.B10 : List Nat := [0, 1, 3, 0, 0, 16, 48, 120, 248, 7, 1023]
theorem earOkW.tab10 : rtab .any (opsOf Try.f19 10) = earOkW.T10 := by kernel_rfl
theorem earOkW.bits10 : waitsOk earOkW.T10.2 earOkW.B10 = true := by kernel_rfl
def earOkW.T29 : Bool × List (List Nat × List Nat) := (true, [([], []), ([], []), ([1], [1]), ([0, 2], [0, 2]), ([3], [3]), ([], []), ([], []), ([5, 6], [5, 6]), ([7], [7]), ([4, 8], [4, 8]), ([], []), ([10, 9, 9, 0, 1, 2, 3, 4, 5, 6, 7, 8, 9, 10], [9, 10])])
def earOkW.B29 : List Nat := [0, 0, 2, 7, 15, 0, 0, 96, 224, 511, 0, 2047]
theorem earOkW.tab29 : rtab .any (opsOf Try.f19 29) = earOkW.T29 := by kernel_rfl
theorem earOkW.bits29 : waitsOk earOkW.T29.2 earOkW.B29 = true := by kernel_rfl
set_option maxHeartbeats 8000000 in
set_option maxRecDepth 100000 in
theorem earOkW.calls (k : Nat) (a0_0 : Int) (A0_1 : Option Addr) (c0_1 : Nat) (l0_1 : List (S59)) (A1 : Option Addr) (c1 : Nat) (l1 : List (List Int)) (l2 : List Int) (r : Bool) (w : World) (hr0_1 : Kd.C k59 w A0_1 l0_1.length l0_1) (hc0_1 : l0_1.length ≤ c0_1) (hr1 : Kd.C (Kd.slice 3 (Kd.int .i64)) w A1 l1.length l1) (hc1 : l1.length ≤ c1) (h : earOkW.f k a0_0 l0_1 l1 l2 = some r) :
  Calls Try.prog 19 #[.agg #[.int .i64 a0_0, .slice A0_1 l0_1.length c0_1], .slice A1 l1.length c1] w fun e w' => e = .returned (.bool r) ∧ Below w.heap.size w w' := by
 have hu31 := Try.underlying31
 have hu59 := Try.underlying59
 have HR0_1 := G.m hr0_1
 have HC0_1 := G.m hc0_1
 clear hr0_1 hc0_1
 have HR1 := G.m hr1
 have HC1 := G.m hc1
 clear hr1 hc1
 have HB := G.m (Below.refl w.heap.size w)
 have H : ((impl_NetOk.f k a0_0 l0_1).bind fun t258 => (if t258 = true then (earOkW.j0 k l1 l2 ((l1.length : Int) == 0) a0_0 l0_1) else (earOkW.j0 k l1 l2 true a0_0 l0_1))) = some r := h
 clear h
 have HC4 := G.m H
 clear H
 go_enter Try.func19, Try.ntmps19
 go_upto_region 1 with (first | ((with_reducible refine G.h 2 rfl ?_); (try (refine gate_guard (by rfl) ?_; dsimp only)); refine G.be 2 #[.int .i64 a0_0, .slice A0_1 l0_1.length c0_1] 31 ?_; intro gb257 hg w5 hbox hb; have n0 := G.bs HB hb; have n1 := G.m (hbox); have n2 := G.m (ce_10 : w.heap.size ≤ gb257); have n3 := G.m (ce_10 : w.heap.size ≤ gb257); clear HB; revert n0 n1 n2 n3; intro HB BK257 GW257 GE257; clear hb hbox hg))
 (try simp only [Act.put, List.setIfInBounds_toArray, List.set_cons_zero, List.set_cons_succ])
 go_cut [25] (fun v25 wc => ∃ (kq : Nat) (x25_3 : Bool), v25 = .bool x25_3 ∧ Aside0 (earOkW.j0 kq l1 l2 x25_3 a0_0 l0_1 = some r) ∧ Aside0 (kq ≤ k) ∧ Aside0 (wc.heap[gb257]? = some (.cells #[.int .i64 a0_0, (.slice A0_1 l0_1.length c0_1)] 31 (0, 0))) ∧ Aside0 (Below w.heap.size w wc))
 case first =>
  have H := HC4.out
  clear HC4
  obtain ⟨t258, A6, H⟩ := G.bi H
  replace H : (if t258 = true then (earOkW.j0 k l1 l2 ((l1.length : Int) == 0) a0_0 l0_1) else (earOkW.j0 k l1 l2 true a0_0 l0_1)) = some r := H
  by_cases c7 : t258 = true
  ·subst c7
   have H1 : (earOkW.j0 k l1 l2 ((l1.length : Int) == 0) a0_0 l0_1) = some r := by rw [if_pos rfl] at H; exact H
   clear H
   have H := H1
   clear H1
   have H' := G.m H
   clear H
   have ⟨hcz8_0, hcz8_1, hfz8_0, hfz8_1⟩ := G.d2 (w := w5) BK257
   go_wp2_with (first | ((with_reducible refine gate_callee (f := 50) rfl ?_); refine goesL_ (some 19) rfl rfl Try.func50 (ce_11) rfl #[.agg #[.int .i64 a0_0, .slice A0_1 l0_1.length c0_1]] rfl (G.ar) ?_; (with_reducible refine (impl_NetOk.calls k a0_0 _ _ l0_1 true _ ?side1 ?side2 A6.out).mono ?_); (case side1 => exact G.cC (Kd.C_below HR0_1.out HB.out)); (case side2 => exact HC0_1.out); rintro e w9 ⟨rfl, hb⟩; refine ⟨_, rfl, ?_⟩; have n0 := G.bb BK257 hb; have n1 := G.bs HB hb; clear BK257 HB; revert n0 n1; intro BK257 HB; (try clear hb)))
   go_meet
   case rel => exact ⟨_, (((l1.length : Int) == 0)), (ce_9), H', ⟨by first | omega | exact Nat.le_refl _⟩, ⟨G.cb BK257.out⟩, ⟨G.cB HB.out⟩⟩
  ·replace c7 := Bool.eq_false_iff.mpr c7
   subst c7
   have H1 : (earOkW.j0 k l1 l2 true a0_0 l0_1) = some r := by rw [if_neg (show ¬ (false = true) by decide)] at H; exact H
   clear H
   have H := H1
   clear H1
   have H' := G.m H
   clear H
   have ⟨hcz10_0, hcz10_1, hfz10_0, hfz10_1⟩ := G.d2 (w := w5) BK257
   go_wp2_with (first | ((with_reducible refine gate_callee (f := 50) rfl ?_); refine goesL_ (some 19) rfl rfl Try.func50 (ce_11) rfl #[.agg #[.int .i64 a0_0, .slice A0_1 l0_1.length c0_1]] rfl (G.ar) ?_; (with_reducible refine (impl_NetOk.calls k a0_0 _ _ l0_1 false _ ?side1 ?side2 A6.out).mono ?_); (case side1 => exact G.cC (Kd.C_below HR0_1.out HB.out)); (case side2 => exact HC0_1.out); rintro e w11 ⟨rfl, hb⟩; refine ⟨_, rfl, ?_⟩; have n0 := G.bb BK257 hb; have n1 := G.bs HB hb; clear BK257 HB; revert n0 n1; intro BK257 HB; (try clear hb)))
   go_meet
   case rel => exact ⟨_, (true), (ce_9), H', ⟨by first | omega | exact Nat.le_refl _⟩, ⟨G.cb BK257.out⟩, ⟨G.cB HB.out⟩⟩
 case rest =>
  clear HC4
  obtain ⟨kq, x25_3, rfl, HA, HJ3, BK257, HB⟩ := hcut
  cases kq with
  | zero => exact absurd HA.out (by simp [earOkW.j0])
  | succ kj3 =>
   have H := HA.out
   clear HA
   simp only [earOkW.j0] at H
   by_cases c12 : x25_3 = true
   ·subst c12
    have H1 : (some false) = some r := by rw [if_pos rfl] at H; exact H
    clear H
    have H := H1
    clear H1
    obtain rfl := Option.some.inj H
    go_wp2
    go_ret
    exact ⟨ce_7, G.cB HB.out⟩
   ·replace c12 := Bool.eq_false_iff.mpr c12
    subst c12
    have H1 : (if 0 ≤ a0_0 then (if (a0_0 : Int).toNat ≤ 281474976710656 then (earOkW.l0 kj3 l2 (List.replicate (a0_0 : Int).toNat false) l1 (l1.length : Int) 0 a0_0 l0_1 [] 0) else (none)) else (none)) = some r := by rw [if_neg (show ¬ (false = true) by decide)] at H; exact H
    clear H
    have H := H1
    clear H1
    by_cases c13 : 0 ≤ a0_0
    ·rw [if_pos c13] at H
     have c13b0 := eq_true c13
     have c13b1 : decide (0 ≤ a0_0) = true := decide_eq_true c13
     clear c13
     by_cases c14 : (a0_0 : Int).toNat ≤ 281474976710656
     ·rw [if_pos c14] at H
      have c14b0 := eq_true c14
      have c14b1 : decide ((a0_0 : Int).toNat ≤ 281474976710656) = true := decide_eq_true c14
      clear c14
      obtain ⟨y260, hy260⟩ : ∃ y_ : List Bool, y_ = (List.replicate (a0_0 : Int).toNat false) := ⟨_, rfl⟩
      replace H : (earOkW.l0 kj3 l2 y260 l1 (l1.length : Int) 0 a0_0 l0_1 [] 0) = some r := by first | (rw [hy260]; with_reducible exact H) | (have H2_ := (Option.bind_some _ _).symm.trans H; rw [hy260]; with_reducible exact H2_) | (have H2_ := (Option.bind_some _ _).symm.trans H; with_reducible exact H2_) | with_reducible exact H | (rw [hy260]; exact H) | exact H
      have Ny260 := G.m hy260
      clear hy260
      have H' := G.m H
      clear H
      go_wp2_with (first | ((with_reducible refine G.h 26 rfl ?_); refine mMake 26 ?_; intro gb259 hg w15 hbox hb; have n0 := G.bb BK257 hb; have n1 := G.bs HB hb; have n2 := G.m (hbox); have n3 := G.m (ce_10 : w.heap.size ≤ gb259); have n4 := G.m (ce_10 : w.heap.size ≤ gb259); have n5 := G.m (ce_3 : gb257 ≠ gb259); have n6 := G.m (ce_4 : gb259 ≠ gb257); clear BK257 HB; revert n0 n1 n2 n3 n4 n5 n6; intro BK257 HB BK259 GW259 GE259 NB257_259 NB259_257; clear hb hbox hg; have hnb16 := NB257_259.out; have hnc16 := NB259_257.out; have ⟨hcz17_0, hcz17_1, hfz17_0, hfz17_1⟩ := G.d2 (w := w15) BK257) | ((with_reducible refine G.h 29 rfl ?_); (try (refine gate_guard (by rfl) ?_; dsimp only)); refine Kd.R_make Kd.bool _ 4 rfl (N := 29) rfl 54 _ _ rfl a0_0 rfl rfl Try.underlying54 (.bool false) 1 info4 rfl (by decide) (by omega) false (ok := fun _ => True) (okp := fun _ => True) rfl (fun _ hk => hk) trivial (of_decide_eq_true (G.asm)) (Nat.le_trans (Nat.mul_le_mul_right _ (of_decide_eq_true (G.asm) : a0_0.toNat ≤ 281474976710656)) (by omega)) (Below.refl _ _) (Nat.le_refl _) ?_; intro v261 w18 ho19 hb hg_ hnew_; clear hg_ hnew_; (first | rw [← Ny260.out] at ho19 | (simp only [Int.reduceToNat] at ho19; rw [← Ny260.out] at ho19)); have n0 := G.m (Kd.R_lower ho19 (below_size (G.cB HB.out))); have n1 := G.bb BK257 hb; have n2 := G.bb BK259 hb; have n3 := G.bs HB hb; clear BK257 BK259 HB; revert n0 n1 n2 n3; intro HO262 BK257 BK259 HB; clear hb ho19))
      go_loopg [32] kj3 (fun kq v32 w' => ∃ (x6_2 : List Bool) (x32_2 : Int) (x260000_2 : List (S59)), v32 = .int .i64 x32_2 ∧ Aside0 (earOkW.l0 kq l2 x6_2 l1 (l1.length : Int) x32_2 a0_0 l0_1 x260000_2 0 = some r) ∧ Aside0 (kq ≤ kj3) ∧ Aside0 (Kd.R Kd.bool 4 w' w.heap.size (fun _ => True) v261 x6_2) ∧ Aside0 (w'.heap[gb257]? = some (.cells #[.int .i64 a0_0, (.slice A0_1 l0_1.length c0_1)] 31 (0, 0))) ∧ Aside0 (w'.heap[gb259]? = some (mObj x260000_2)) ∧ Aside0 (Below w.heap.size w w'))
      case atStart => exact ⟨(y260), (0), [], (ce_9), H', ⟨Nat.le_refl _⟩, ⟨G.cR HO262.out⟩, ⟨G.cb BK257.out⟩, ⟨G.cb BK259.out⟩, ⟨G.cB HB.out⟩⟩
      case round =>
       clear H'
       (try clear c12 c13b0 c13b1 c14b0 c14b1 hcz17_0 hcz17_1 hfz17_0 hfz17_1)
       obtain ⟨x6_2, x32_2, x260000_2, rfl, HA, HK2, HO_6, BK257, BK259, HB⟩ := hrel
       cases gk with
       | zero => exact absurd HA.out (by simp [earOkW.l0])
       | succ k2 =>
        have H := HA.out
        clear HA
        simp only [earOkW.l0] at H
        by_cases c20 : x32_2 < (l1.length : Int)
        ·rw [if_pos c20] at H
         have c20b0 : decide (x32_2 < (l1.length : Int)) = true := decide_eq_true c20
         clear c20
         by_cases c21 : 0 ≤ x32_2
         ·rw [if_pos c21] at H
          have c21b0 : decide (0 ≤ x32_2) = true := decide_eq_true c21
          clear c21
          by_cases c22 : x32_2 < (l1.length : Int)
          ·rw [if_pos c22] at H
           have c22b0 : decide (x32_2 < (l1.length : Int)) = true := decide_eq_true c22
           clear c22
           have HC23 := G.m H
           clear H
           have p264 : 0 ≤ (x32_2 : Int) := of_decide_eq_true (G.asm)
           have q264 : x32_2 < (l1.length : Int) := of_decide_eq_true (G.asm)
           obtain ⟨ad264, A264_0, c264_0, e264, hx264_0, hl264_0, hi264_0⟩ := at_L2 HR1.out x32_2 p264 q264
           cases e264
           replace hx264_0 := G.hx HB hx264_0
           have HR264_0 := G.m hi264_0
           have HC264_0 := G.m hl264_0
           clear hi264_0 hl264_0
           replace p264 := eq_true p264
           replace q264 := eq_true q264
           go_upto_region 8 with (fail)
           go_cut [45] (fun v45 wc => ∃ (kq : Nat) (x45_22 : Bool), v45 = .bool x45_22 ∧ Aside0 (earOkW.j2 kq l2 x6_2 x32_2 (rd_L2 l1 x32_2) l1 (l1.length : Int) x32_2 x45_22 a0_0 l0_1 x260000_2 0 = some r) ∧ Aside0 (kq ≤ k2) ∧ Aside0 (Kd.R Kd.bool 4 wc w.heap.size (fun _ => True) v261 x6_2) ∧ Aside0 (wc.heap[gb257]? = some (.cells #[.int .i64 a0_0, (.slice A0_1 l0_1.length c0_1)] 31 (0, 0))) ∧ Aside0 (wc.heap[gb259]? = some (mObj x260000_2)) ∧ Aside0 (Below w.heap.size w wc))
           case first =>
            have H := HC23.out
            clear HC23
            by_cases c24 : ((rd_L2 l1 x32_2).length : Int) < 2
            ·rw [if_pos c24] at H
             have c24b0 : decide (((rd_L2 l1 x32_2).length : Int) < 2) = true := decide_eq_true c24
             have c24b1 : decide ((rd_L2 l1 x32_2).length < 2) = true := decide_eq_true (by omega)
             clear c24
             (first | rw [c24b0] | (simp only [i64_w, i32_w]; rw [c24b0]) | skip)
             have H' := G.m H
             clear H
             go_wp2
             go_meet
             case rel => exact ⟨_, (true), (ce_9), H', ⟨by have := HJ3.out; have := HK2.out; first | omega | exact Nat.le_refl _⟩, ⟨G.cR HO_6.out⟩, ⟨G.cb BK257.out⟩, ⟨G.cb BK259.out⟩, ⟨G.cB HB.out⟩⟩
            ·rw [if_neg c24] at H
             have c24b0 : decide (((rd_L2 l1 x32_2).length : Int) < 2) = false := decide_eq_false c24
             have c24b1 : decide ((rd_L2 l1 x32_2).length < 2) = false := decide_eq_false (by omega)
             clear c24
             (first | rw [c24b0] | (simp only [i64_w, i32_w]; rw [c24b0]) | skip)
             obtain ⟨t265, A25, H⟩ := G.bi H
             replace H : (earOkW.j2 k2 l2 x6_2 x32_2 (rd_L2 l1 x32_2) l1 (l1.length : Int) x32_2 (!t265) a0_0 l0_1 x260000_2 0) = some r := H
             have H' := G.m H
             clear H
             have hnb26 := NB257_259.out
             have hnc26 := NB259_257.out
             have ⟨hcz27_0, hcz27_1, hfz27_0, hfz27_1⟩ := G.d2 (w := wr) BK257
             go_wp2_with (first | (go_at_call 51; (with_reducible refine (impl_Net_walk.calls k2 a0_0 _ _ l0_1 _ _ (rd_L2 l1 x32_2) t265 _ ?side1 ?side2 ?side3 ?side4 A25.out).mono ?_); (case side1 => exact G.cC (Kd.C_below HR0_1.out HB.out)); (case side2 => exact HC0_1.out); (case side3 => exact G.cC (Kd.C_below HR264_0.out HB.out)); (case side4 => exact HC264_0.out); rintro e w28 ⟨rfl, hb⟩; have n0 := G.rb HO_6 hb; have n1 := G.bb BK257 hb; have n2 := G.bb BK259 hb; have n3 := G.bs HB hb; clear HO_6 BK257 BK259 HB; revert n0 n1 n2 n3; intro HO_6 BK257 BK259 HB; (try clear hb)))
             go_meet
             case rel => exact ⟨_, (!t265), (ce_9), H', ⟨by have := HJ3.out; have := HK2.out; first | omega | exact Nat.le_refl _⟩, ⟨G.cR HO_6.out⟩, ⟨G.cb BK257.out⟩, ⟨G.cb BK259.out⟩, ⟨G.cB HB.out⟩⟩
           case rest =>
            clear HC23
            (try clear c20b0 c21b0 c22b0 hx264_0 p264 q264)
            obtain ⟨kq, x45_22, rfl, HA, HJ22, HO_6, BK257, BK259, HB⟩ := hcut
            cases kq with
            | zero => exact absurd HA.out (by simp [earOkW.j2])
            | succ kj22 =>
             have H := HA.out
             clear HA
             simp only [earOkW.j2] at H
             by_cases c29 : x45_22 = true
             ·subst c29
              have H1 : (some false) = some r := by rw [if_pos rfl] at H; exact H
              clear H
              have H := H1
              clear H1
              obtain rfl := Option.some.inj H
              go_wp2
              go_ret
              exact ⟨ce_7, G.cB HB.out⟩
             ·replace c29 := Bool.eq_false_iff.mpr c29
              subst c29
              have H1 : (if 0 < ((rd_L2 l1 x32_2).length : Int) then (if 0 ≤ (wrap64 (((rd_L2 l1 x32_2).length : Int) - 1)) then (if (wrap64 (((rd_L2 l1 x32_2).length : Int) - 1)) < ((rd_L2 l1 x32_2).length : Int) then (if (rd (rd_L2 l1 x32_2) 0) = (rd (rd_L2 l1 x32_2) (wrap64 (((rd_L2 l1 x32_2).length : Int) - 1))) then (if ((rd_L2 l1 x32_2).length : Int) < 4 then (earOkW.j3 kj22 l2 x6_2 x32_2 (rd_L2 l1 x32_2) (rd (rd_L2 l1 x32_2) 0) (rd (rd_L2 l1 x32_2) (wrap64 (((rd_L2 l1 x32_2).length : Int) - 1))) l1 (l1.length : Int) x32_2 true a0_0 l0_1 x260000_2 0) else (if x32_2 = 0 then (earOkW.j3 kj22 l2 x6_2 x32_2 (rd_L2 l1 x32_2) (rd (rd_L2 l1 x32_2) 0) (rd (rd_L2 l1 x32_2) (wrap64 (((rd_L2 l1 x32_2).length : Int) - 1))) l1 (l1.length : Int) x32_2 ((rd (rd_L2 l1 x32_2) 0) != (rd (rd_L2 l1 x32_2) (wrap64 (((rd_L2 l1 x32_2).length : Int) - 1)))) a0_0 l0_1 x260000_2 0) else (earOkW.j3 kj22 l2 x6_2 x32_2 (rd_L2 l1 x32_2) (rd (rd_L2 l1 x32_2) 0) (rd (rd_L2 l1 x32_2) (wrap64 (((rd_L2 l1 x32_2).length : Int) - 1))) l1 (l1.length : Int) x32_2 false a0_0 l0_1 x260000_2 0))) else (if x32_2 = 0 then (earOkW.j3 kj22 l2 x6_2 x32_2 (rd_L2 l1 x32_2) (rd (rd_L2 l1 x32_2) 0) (rd (rd_L2 l1 x32_2) (wrap64 (((rd_L2 l1 x32_2).length : Int) - 1))) l1 (l1.length : Int) x32_2 ((rd (rd_L2 l1 x32_2) 0) != (rd (rd_L2 l1 x32_2) (wrap64 (((rd_L2 l1 x32_2).length : Int) - 1)))) a0_0 l0_1 x260000_2 0) else (earOkW.j3 kj22 l2 x6_2 x32_2 (rd_L2 l1 x32_2) (rd (rd_L2 l1 x32_2) 0) (rd (rd_L2 l1 x32_2) (wrap64 (((rd_L2 l1 x32_2).length : Int) - 1))) l1 (l1.length : Int) x32_2 false a0_0 l0_1 x260000_2 0))) else (none)) else (none)) else (none)) = some r := by rw [if_neg (show ¬ (false = true) by decide)] at H; exact H
              clear H
              have H := H1
              clear H1
              by_cases c30 : 0 < ((rd_L2 l1 x32_2).length : Int)
              ·rw [if_pos c30] at H
               have c30b0 : decide (0 < ((rd_L2 l1 x32_2).length : Int)) = true := decide_eq_true c30
               have c30b1 : decide (0 < (rd_L2 l1 x32_2).length) = true := decide_eq_true (by omega)
               clear c30
               obtain ⟨ji31, hji31⟩ : ∃ j_ : Int, (wrap64 (((rd_L2 l1 x32_2).length : Int) - 1)) = j_ := ⟨_, rfl⟩
               replace H : (if 0 ≤ (ji31) then (if (ji31) < ((rd_L2 l1 x32_2).length : Int) then (if (rd (rd_L2 l1 x32_2) 0) = (rd (rd_L2 l1 x32_2) (ji31)) then (if ((rd_L2 l1 x32_2).length : Int) < 4 then (earOkW.j3 kj22 l2 x6_2 x32_2 (rd_L2 l1 x32_2) (rd (rd_L2 l1 x32_2) 0) (rd (rd_L2 l1 x32_2) (ji31)) l1 (l1.length : Int) x32_2 true a0_0 l0_1 x260000_2 0) else (if x32_2 = 0 then (earOkW.j3 kj22 l2 x6_2 x32_2 (rd_L2 l1 x32_2) (rd (rd_L2 l1 x32_2) 0) (rd (rd_L2 l1 x32_2) (ji31)) l1 (l1.length : Int) x32_2 ((rd (rd_L2 l1 x32_2) 0) != (rd (rd_L2 l1 x32_2) (ji31))) a0_0 l0_1 x260000_2 0) else (earOkW.j3 kj22 l2 x6_2 x32_2 (rd_L2 l1 x32_2) (rd (rd_L2 l1 x32_2) 0) (rd (rd_L2 l1 x32_2) (ji31)) l1 (l1.length : Int) x32_2 false a0_0 l0_1 x260000_2 0))) else (if x32_2 = 0 then (earOkW.j3 kj22 l2 x6_2 x32_2 (rd_L2 l1 x32_2) (rd (rd_L2 l1 x32_2) 0) (rd (rd_L2 l1 x32_2) (ji31)) l1 (l1.length : Int) x32_2 ((rd (rd_L2 l1 x32_2) 0) != (rd (rd_L2 l1 x32_2) (ji31))) a0_0 l0_1 x260000_2 0) else (earOkW.j3 kj22 l2 x6_2 x32_2 (rd_L2 l1 x32_2) (rd (rd_L2 l1 x32_2) 0) (rd (rd_L2 l1 x32_2) (ji31)) l1 (l1.length : Int) x32_2 false a0_0 l0_1 x260000_2 0))) else (none)) else (none)) = some r := by first | (rw [hji31] at H; exact H) | (simp only [hji31] at H ⊢; exact H)
               have hji31w : (IntKind.i64.wrap (((rd_L2 l1 x32_2).length : Int) - 1)) = ji31 := (i64_w _).trans hji31
               by_cases c32 : 0 ≤ (ji31)
               ·rw [if_pos c32] at H
                have c32b0 : decide (0 ≤ (ji31)) = true := decide_eq_true c32
                clear c32
                by_cases c33 : (ji31) < ((rd_L2 l1 x32_2).length : Int)
                ·rw [if_pos c33] at H
                 have c33b0 : decide ((ji31) < ((rd_L2 l1 x32_2).length : Int)) = true := decide_eq_true c33
                 clear c33
                 have HC34 := G.m H
                 clear H
                 try go_wp2
                 have n0 := G.m (Kd.R_drew HO_6.out)
                 have n1 := G.m (blk_drew BK257.out)
                 have n2 := G.m (blk_drew BK259.out)
                 have n3 := G.m (below_drew1 HB.out)
                 clear HO_6 BK257 BK259 HB
                 revert n0 n1 n2 n3
                 intro HO_6 BK257 BK259 HB
                 have p266 : 0 ≤ (0 : Int) := (by omega)
                 have q266 : 0 < ((rd_L2 l1 x32_2).length : Int) := of_decide_eq_true (G.asm)
                 obtain ⟨ad266, e266, hx266_0⟩ := Kd.at_int HR264_0.out 0 p266 q266
                 have hw266_0 := hx266_0
                 (try rw [show ((0 : Int)).toNat = 0 from rfl] at hw266_0)
                 (try rw [show 0 * 1 = 0 from rfl] at hw266_0)
                 (try rw [Addr.add_zero'] at hw266_0)
                 cases e266
                 have qi266 : (0 < (rd_L2 l1 x32_2).length) = True := eq_true (by omega)
                 (try rw [show ((0 : Int)).toNat = 0 from rfl] at hx266_0)
                 (try rw [Addr.add_zero'] at hx266_0)
                 replace hx266_0 := G.hx HB hx266_0
                 replace p266 := eq_true p266
                 replace q266 := eq_true q266
                 have p267 : 0 ≤ ((ji31) : Int) := of_decide_eq_true (G.asm)
                 have q267 : (ji31) < ((rd_L2 l1 x32_2).length : Int) := of_decide_eq_true (G.asm)
                 obtain ⟨ad267, e267, hx267_0⟩ := Kd.at_int HR264_0.out (ji31) p267 q267
                 have hw267_0 := hx267_0
                 obtain rfl : ad266 = ad267 := (by injection e267)
                 replace hx267_0 := G.hx HB hx267_0
                 replace p267 := eq_true p267
                 replace q267 := eq_true q267
                 refine start_ (n := 11) (S := fun w' => w'.cell? ad266 = some (.int .i64 (rd (rd_L2 l1 x32_2) 0)) ∧ w'.cell? (ad266.add ((ji31)).toNat) = some (.int .i64 (rd (rd_L2 l1 x32_2) (ji31)))) (ds := []) (G.fl 11 0) (ce_11) rfl (ce_11) ⟨(G.hx HB hw266_0), (G.hx HB hw267_0)⟩ (fun hHeld => ?_); refine with_tabW earOkW.tab10 earOkW.bits10 (fun HT_ HW_ => ?_)
                 generalize wc.drew = w35 at HO_6 BK257 BK259 HB hx266_0 hx267_0 hHeld ⊢
                 refine G.pu 0 46 1 ?_
                 refine G.pu 1 47 3 ?_
                 refine G.pu 3 49 11 ?_
                 refine G.pu 4 50 27 ?_
                 refine G.pu 5 51 59 ?_
                 refine G.pu 6 52 123 ?_
                 refine G.pu 7 53 251 ?_
                 refine G.ta2 2 48 255 ?_
                 refine G.pu 9 9 767 ?_
                 refine G.ta2 8 54 1023 ?_
                 refine G.pu 10 10 2047 ?_
                 refine done_ (done_of HT_.out (ce_11)) ?_
                 go_upto_region 11 with (fail)
                 go_cut [71] (fun v71 wc => ∃ (kq : Nat) (x71_33 : Bool), v71 = .bool x71_33 ∧ Aside0 (earOkW.j3 kq l2 x6_2 x32_2 (rd_L2 l1 x32_2) (rd (rd_L2 l1 x32_2) 0) (rd (rd_L2 l1 x32_2) (ji31)) l1 (l1.length : Int) x32_2 x71_33 a0_0 l0_1 x260000_2 0 = some r) ∧ Aside0 (kq ≤ kj22) ∧ Aside0 (Kd.R Kd.bool 4 wc w.heap.size (fun _ => True) v261 x6_2) ∧ Aside0 (wc.heap[gb257]? = some (.cells #[.int .i64 a0_0, (.slice A0_1 l0_1.length c0_1)] 31 (0, 0))) ∧ Aside0 (wc.heap[gb259]? = some (mObj x260000_2)) ∧ Aside0 (Below w.heap.size w wc))
                 case first =>
                  have H := HC34.out
                  clear HC34
                  by_cases c36 : (rd (rd_L2 l1 x32_2) 0) = (rd (rd_L2 l1 x32_2) (ji31))
                  ·rw [if_pos c36] at H
                   have c36b0 : ((rd (rd_L2 l1 x32_2) 0) == (rd (rd_L2 l1 x32_2) (ji31))) = true := beq_iff_eq.mpr c36
                   have c36b1 : ((rd (rd_L2 l1 x32_2) 0) != (rd (rd_L2 l1 x32_2) (ji31))) = false := bne_eq_false_iff_eq.mpr c36
                   clear c36
                   (first | rw [c36b0] | (simp only [i64_w, i32_w]; rw [c36b0]) | skip)
                   by_cases c37 : ((rd_L2 l1 x32_2).length : Int) < 4
                   ·rw [if_pos c37] at H
                    have c37b0 : decide (((rd_L2 l1 x32_2).length : Int) < 4) = true := decide_eq_true c37
                    have c37b1 : decide ((rd_L2 l1 x32_2).length < 4) = true := decide_eq_true (by omega)
                    clear c37
                    have H' := G.m H
                    clear H
                    go_wp2
                    go_meet
                    case rel => exact ⟨_, (true), (ce_9), H', ⟨ce_8⟩, ⟨G.cR HO_6.out⟩, ⟨G.cb BK257.out⟩, ⟨G.cb BK259.out⟩, ⟨G.cB HB.out⟩⟩
                   ·rw [if_neg c37] at H
                    have c37b0 : decide (((rd_L2 l1 x32_2).length : Int) < 4) = false := decide_eq_false c37
                    have c37b1 : decide ((rd_L2 l1 x32_2).length < 4) = false := decide_eq_false (by omega)
                    clear c37
                    by_cases c38 : x32_2 = 0
                    ·rw [if_pos c38] at H
                     have c38b0 : (x32_2 == 0) = true := beq_iff_eq.mpr c38
                     have c38b1 : (x32_2 != 0) = false := bne_eq_false_iff_eq.mpr c38
                     clear c38
                     have H' := G.m H
                     clear H
                     go_wp2
                     go_meet
                     case rel => exact ⟨_, (((rd (rd_L2 l1 x32_2) 0) != (rd (rd_L2 l1 x32_2) (ji31)))), (by first | rfl | (simp; done) | (simp [*]; done) | (simp only [← hji31]; done) | (simp [bne, *]; done)), H', ⟨ce_8⟩, ⟨G.cR HO_6.out⟩, ⟨G.cb BK257.out⟩, ⟨G.cb BK259.out⟩, ⟨G.cB HB.out⟩⟩
                    ·rw [if_neg c38] at H
                     have c38b0 : (x32_2 == 0) = false := beq_eq_false_iff_ne.mpr c38
                     have c38b1 : (x32_2 != 0) = true := bne_iff_ne.mpr c38
                     have H' := G.m H
                     clear H
                     go_wp2
                     go_meet
                     case rel => exact ⟨_, (false), (ce_9), H', ⟨ce_8⟩, ⟨G.cR HO_6.out⟩, ⟨G.cb BK257.out⟩, ⟨G.cb BK259.out⟩, ⟨G.cB HB.out⟩⟩
                  ·rw [if_neg c36] at H
                   have c36b0 : ((rd (rd_L2 l1 x32_2) 0) == (rd (rd_L2 l1 x32_2) (ji31))) = false := beq_eq_false_iff_ne.mpr c36
                   have c36b1 : ((rd (rd_L2 l1 x32_2) 0) != (rd (rd_L2 l1 x32_2) (ji31))) = true := bne_iff_ne.mpr c36
                   (first | rw [c36b0] | (simp only [i64_w, i32_w]; rw [c36b0]) | skip)
                   by_cases c39 : x32_2 = 0
                   ·rw [if_pos c39] at H
                    have c39b0 : (x32_2 == 0) = true := beq_iff_eq.mpr c39
                    have c39b1 : (x32_2 != 0) = false := bne_eq_false_iff_eq.mpr c39
                    clear c39
                    have H' := G.m H
                    clear H
                    go_wp2
                    go_meet
                    case rel => exact ⟨_, (((rd (rd_L2 l1 x32_2) 0) != (rd (rd_L2 l1 x32_2) (ji31)))), (by first | rfl | (simp; done) | (simp [*]; done) | (simp only [← hji31]; done) | (simp [bne, *]; done)), H', ⟨ce_8⟩, ⟨G.cR HO_6.out⟩, ⟨G.cb BK257.out⟩, ⟨G.cb BK259.out⟩, ⟨G.cB HB.out⟩⟩
                   ·rw [if_neg c39] at H
                    have c39b0 : (x32_2 == 0) = false := beq_eq_false_iff_ne.mpr c39
                    have c39b1 : (x32_2 != 0) = true := bne_iff_ne.mpr c39
                    have H' := G.m H
                    clear H
                    go_wp2
                    go_meet
                    case rel => exact ⟨_, (false), (ce_9), H', ⟨ce_8⟩, ⟨G.cR HO_6.out⟩, ⟨G.cb BK257.out⟩, ⟨G.cb BK259.out⟩, ⟨G.cB HB.out⟩⟩
                 case rest =>
                  clear HC34
                  (try clear c29 c30b0 c30b1 c32b0 c33b0 hx266_0 hx267_0 p266 p267 q266 q267)
                  obtain ⟨kq, x71_33, rfl, HA, HJ33, HO_6, BK257, BK259, HB⟩ := hcut
                  cases kq with
                  | zero => exact absurd HA.out (by simp [earOkW.j3])
                  | succ kj33 =>
                   have H := HA.out
                   clear HA
                   simp only [earOkW.j3] at H
                   by_cases c40 : x71_33 = true
                   ·subst c40
                    have H1 : (some false) = some r := by rw [if_pos rfl] at H; exact H
                    clear H
                    have H := H1
                    clear H1
                    obtain rfl := Option.some.inj H
                    go_wp2
                    go_ret
                    exact ⟨ce_0, G.cB HB.out⟩
                   ·replace c40 := Bool.eq_false_iff.mpr c40
                    subst c40
                    have H1 : (if 1 ≤ (wrap64 (((rd_L2 l1 x32_2).length : Int) - 1)) then (if (wrap64 (((rd_L2 l1 x32_2).length : Int) - 1)) ≤ ((rd_L2 l1 x32_2).length : Int) then (if x32_2 = 0 then (if 1 ≤ ((rd_L2 l1 x32_2).length : Int) then (earOkW.j4 kj33 l2 x6_2 (rd_L2 l1 x32_2) ((rd_L2 l1 x32_2).drop 1) l1 (l1.length : Int) x32_2 a0_0 l0_1 x260000_2 0) else (none)) else (if 0 ≤ (rd (rd_L2 l1 x32_2) 0) then (if (rd (rd_L2 l1 x32_2) 0) < (x6_2.length : Int) then (if rdOf false x6_2 (rd (rd_L2 l1 x32_2) 0) = true then (if 0 ≤ (rd (rd_L2 l1 x32_2) (ji31)) then (if (rd (rd_L2 l1 x32_2) (ji31)) < (x6_2.length : Int) then (if rdOf false x6_2 (rd (rd_L2 l1 x32_2) (ji31)) = true then (earOkW.j4 kj33 l2 x6_2 (rd_L2 l1 x32_2) (((rd_L2 l1 x32_2).take (wrap64 (((rd_L2 l1 x32_2).length : Int) - 1)).toNat).drop 1) l1 (l1.length : Int) x32_2 a0_0 l0_1 x260000_2 0) else (some false)) else (none)) else (none)) else (some false)) else (none)) else (none))) else (none)) else (none)) = some r := by rw [if_neg (show ¬ (false = true) by decide)] at H; exact H
                    clear H
                    have H := H1
                    clear H1
                    by_cases c41 : 1 ≤ (wrap64 (((rd_L2 l1 x32_2).length : Int) - 1))
                    ·rw [if_pos c41] at H
                     have c41b0 := eq_true c41
                     have c41b1 : decide (1 ≤ (wrap64 (((rd_L2 l1 x32_2).length : Int) - 1))) = true := decide_eq_true c41
                     clear c41
                     by_cases c42 : (wrap64 (((rd_L2 l1 x32_2).length : Int) - 1)) ≤ ((rd_L2 l1 x32_2).length : Int)
                     ·rw [if_pos c42] at H
                      have c42b0 := eq_true c42
                      have c42b1 : decide ((wrap64 (((rd_L2 l1 x32_2).length : Int) - 1)) ≤ ((rd_L2 l1 x32_2).length : Int)) = true := decide_eq_true c42
                      clear c42
                      have HC43 := G.m H
                      clear H
                      obtain ⟨i044, hi044, _, hsz44, _⟩ := info_parts info3
                      obtain ⟨A44, hcut44, hA44, hC44⟩ := print_mid_of (P := Try.prog) (Value.int .i64) 0 45 3 .i64 .i64 Try.underlying45 hi044 hsz44 (some ad266) c264_0 (rd_L2 l1 x32_2) 1 (wrap64 (((rd_L2 l1 x32_2).length : Int) - 1)) (by omega) (by first | omega | exact of_decide_eq_true (G.asm)) (of_decide_eq_true (G.asm)) HC264_0.out
                      simp only [hji31] at hcut44
                      have HR268 := G.m (Kd.C_of_reads (h1 := fun _ => rfl) (hA44 _ (Kd.reads_of_C HR264_0.out)))
                      have HC268 := G.m hC44
                      clear hA44 hC44 hi044 hsz44
                      go_upto_if 78 with (fail)
                      go_cut [11] (fun v11 wc => ∃ (kq : Nat) (x11_42 : List Int) (A2 : Option Addr) (c2 : Nat), v11 = .slice A2 x11_42.length c2 ∧ Aside0 (Kd.C (Kd.int .i64) w A2 x11_42.length x11_42) ∧ Aside0 (x11_42.length ≤ c2) ∧ Aside0 (earOkW.j4 kq l2 x6_2 (rd_L2 l1 x32_2) x11_42 l1 (l1.length : Int) x32_2 a0_0 l0_1 x260000_2 0 = some r) ∧ Aside0 (kq ≤ kj33) ∧ Aside0 (Kd.R Kd.bool 4 wc w.heap.size (fun _ => True) v261 x6_2) ∧ Aside0 (wc.heap[gb257]? = some (.cells #[.int .i64 a0_0, (.slice A0_1 l0_1.length c0_1)] 31 (0, 0))) ∧ Aside0 (wc.heap[gb259]? = some (mObj x260000_2)) ∧ Aside0 (Below w.heap.size w wc))
                      case first =>
                       have H := HC43.out
                       clear HC43
                       by_cases c45 : x32_2 = 0
                       ·rw [if_pos c45] at H
                        have c45b0 : (x32_2 == 0) = true := beq_iff_eq.mpr c45
                        have c45b1 : (x32_2 != 0) = false := bne_eq_false_iff_eq.mpr c45
                        clear c45
                        (first | rw [c45b0] | (simp only [i64_w, i32_w]; rw [c45b0]) | skip)
                        by_cases c46 : 1 ≤ ((rd_L2 l1 x32_2).length : Int)
                        ·rw [if_pos c46] at H
                         have c46b0 := eq_true c46
                         have c46b1 : decide (1 ≤ ((rd_L2 l1 x32_2).length : Int)) = true := decide_eq_true c46
                         clear c46
                         have H' := G.m H
                         clear H
                         obtain ⟨i047, hi047, _, hsz47, _⟩ := info_parts info3
                         obtain ⟨A47, hcut47, hA47, hC47⟩ := print_drop_of (P := Try.prog) (Value.int .i64) 0 45 3 .i64 Try.underlying45 hi047 hsz47 (some ad266) c264_0 (rd_L2 l1 x32_2) 1 (by omega) (of_decide_eq_true (G.asm)) HC264_0.out
                         have HR269 := G.m (Kd.C_of_reads (h1 := fun _ => rfl) (hA47 _ (Kd.reads_of_C HR264_0.out)))
                         have HC269 := G.m hC47
                         clear hA47 hC47 hi047 hsz47
                         go_wp2
                         go_meet
                         case rel => exact ⟨_, ((rd_L2 l1 x32_2).drop 1), A47, c264_0 - 1, (by first | rfl | (simp [List.length_drop, List.length_take]; done) | (simp [List.length_drop, List.length_take, ← hji31]; done)), HR269, HC269, H', ⟨by have := HJ3.out; have := HK2.out; have := HJ22.out; have := HJ33.out; first | omega | exact Nat.le_refl _⟩, ⟨G.cR HO_6.out⟩, ⟨G.cb BK257.out⟩, ⟨G.cb BK259.out⟩, ⟨G.cB HB.out⟩⟩
                        ·rw [if_neg c46] at H
                         exact absurd H (by simp)
                       ·rw [if_neg c45] at H
                        have c45b0 : (x32_2 == 0) = false := beq_eq_false_iff_ne.mpr c45
                        have c45b1 : (x32_2 != 0) = true := bne_iff_ne.mpr c45
                        (first | rw [c45b0] | (simp only [i64_w, i32_w]; rw [c45b0]) | skip)
                        by_cases c48 : 0 ≤ (rd (rd_L2 l1 x32_2) 0)
                        ·rw [if_pos c48] at H
                         have c48b0 : decide (0 ≤ (rd (rd_L2 l1 x32_2) 0)) = true := decide_eq_true c48
                         clear c48
                         by_cases c49 : (rd (rd_L2 l1 x32_2) 0) < (x6_2.length : Int)
                         ·rw [if_pos c49] at H
                          have c49b0 : decide ((rd (rd_L2 l1 x32_2) 0) < (x6_2.length : Int)) = true := decide_eq_true c49
                          clear c49
                          obtain ⟨bq50, hbq50⟩ : ∃ b_ : Bool, b_ = (rdOf false x6_2 (rd (rd_L2 l1 x32_2) 0)) := ⟨_, rfl⟩
                          replace H : (if bq50 = true then (if 0 ≤ (rd (rd_L2 l1 x32_2) (ji31)) then (if (rd (rd_L2 l1 x32_2) (ji31)) < (x6_2.length : Int) then (if rdOf false x6_2 (rd (rd_L2 l1 x32_2) (ji31)) = true then (earOkW.j4 kj33 l2 x6_2 (rd_L2 l1 x32_2) (((rd_L2 l1 x32_2).take (wrap64 (((rd_L2 l1 x32_2).length : Int) - 1)).toNat).drop 1) l1 (l1.length : Int) x32_2 a0_0 l0_1 x260000_2 0) else (some false)) else (none)) else (none)) else (some false)) = some r := by rw [← hbq50] at H; exact H
                          have Nbq50 := G.m hbq50
                          clear hbq50
                          by_cases c51 : bq50 = true
                          ·subst c51
                           have H1 : (if 0 ≤ (rd (rd_L2 l1 x32_2) (ji31)) then (if (rd (rd_L2 l1 x32_2) (ji31)) < (x6_2.length : Int) then (if rdOf false x6_2 (rd (rd_L2 l1 x32_2) (ji31)) = true then (earOkW.j4 kj33 l2 x6_2 (rd_L2 l1 x32_2) (((rd_L2 l1 x32_2).take (wrap64 (((rd_L2 l1 x32_2).length : Int) - 1)).toNat).drop 1) l1 (l1.length : Int) x32_2 a0_0 l0_1 x260000_2 0) else (some false)) else (none)) else (none)) = some r := by rw [if_pos rfl] at H; exact H
                           clear H
                           have H := H1
                           clear H1
                           by_cases c52 : 0 ≤ (rd (rd_L2 l1 x32_2) (ji31))
                           ·rw [if_pos c52] at H
                            have c52b0 : decide (0 ≤ (rd (rd_L2 l1 x32_2) (ji31))) = true := decide_eq_true c52
                            clear c52
                            by_cases c53 : (rd (rd_L2 l1 x32_2) (ji31)) < (x6_2.length : Int)
                            ·rw [if_pos c53] at H
                             have c53b0 : decide ((rd (rd_L2 l1 x32_2) (ji31)) < (x6_2.length : Int)) = true := decide_eq_true c53
                             clear c53
                             obtain ⟨bq54, hbq54⟩ : ∃ b_ : Bool, b_ = (rdOf false x6_2 (rd (rd_L2 l1 x32_2) (ji31))) := ⟨_, rfl⟩
                             replace H : (if bq54 = true then (earOkW.j4 kj33 l2 x6_2 (rd_L2 l1 x32_2) (((rd_L2 l1 x32_2).take (wrap64 (((rd_L2 l1 x32_2).length : Int) - 1)).toNat).drop 1) l1 (l1.length : Int) x32_2 a0_0 l0_1 x260000_2 0) else (some false)) = some r := by rw [← hbq54] at H; exact H
                             have Nbq54 := G.m hbq54
                             clear hbq54
                             by_cases c55 : bq54 = true
                             ·subst c55
                              have H1 : (earOkW.j4 kj33 l2 x6_2 (rd_L2 l1 x32_2) (((rd_L2 l1 x32_2).take (wrap64 (((rd_L2 l1 x32_2).length : Int) - 1)).toNat).drop 1) l1 (l1.length : Int) x32_2 a0_0 l0_1 x260000_2 0) = some r := by rw [if_pos rfl] at H; exact H
                              clear H
                              have H := H1
                              clear H1
                              have H' := G.m H
                              clear H
                              obtain ⟨Ao56, co56, eo56⟩ := Kd.R_slice HO_6.out
                              subst eo56
                              have p270 : 0 ≤ ((rd (rd_L2 l1 x32_2) 0) : Int) := of_decide_eq_true (G.asm)
                              have q270 : (rd (rd_L2 l1 x32_2) 0) < (x6_2.length : Int) := of_decide_eq_true (G.asm)
                              obtain ⟨ad270, e270, hx270_0⟩ := Kd.at_bool (Kd.R_reads' HO_6.out).2.2 (rd (rd_L2 l1 x32_2) 0) p270 q270
                              (try rw [← Nbq50.out] at hx270_0)
                              (try rw [← Nbq54.out] at hx270_0)
                              cases e270
                              replace p270 := eq_true p270
                              replace q270 := eq_true q270
                              have p271 : 0 ≤ ((rd (rd_L2 l1 x32_2) (ji31)) : Int) := of_decide_eq_true (G.asm)
                              have q271 : (rd (rd_L2 l1 x32_2) (ji31)) < (x6_2.length : Int) := of_decide_eq_true (G.asm)
                              obtain ⟨ad271, e271, hx271_0⟩ := Kd.at_bool (Kd.R_reads' HO_6.out).2.2 (rd (rd_L2 l1 x32_2) (ji31)) p271 q271
                              (try rw [← Nbq50.out] at hx271_0)
                              (try rw [← Nbq54.out] at hx271_0)
                              obtain rfl : ad270 = ad271 := (by injection e271)
                              replace p271 := eq_true p271
                              replace q271 := eq_true q271
                              go_wp2
                              go_meet
                              case rel => exact ⟨_, (((rd_L2 l1 x32_2).take (wrap64 (((rd_L2 l1 x32_2).length : Int) - 1)).toNat).drop 1), A44, c264_0 - 1, (by first | rfl | (simp [List.length_drop, List.length_take]; done) | (simp [List.length_drop, List.length_take, ← hji31]; done)), HR268, HC268, H', ⟨by have := HJ3.out; have := HK2.out; have := HJ22.out; have := HJ33.out; first | omega | exact Nat.le_refl _⟩, ⟨G.cR HO_6.out⟩, ⟨G.cb BK257.out⟩, ⟨G.cb BK259.out⟩, ⟨G.cB HB.out⟩⟩
                             ·replace c55 := Bool.eq_false_iff.mpr c55
                              subst c55
                              have H1 : (some false) = some r := by rw [if_neg (show ¬ (false = true) by decide)] at H; exact H
                              clear H
                              have H := H1
                              clear H1
                              obtain rfl := Option.some.inj H
                              obtain ⟨Ao57, co57, eo57⟩ := Kd.R_slice HO_6.out
                              subst eo57
                              have p270 : 0 ≤ ((rd (rd_L2 l1 x32_2) 0) : Int) := of_decide_eq_true (G.asm)
                              have q270 : (rd (rd_L2 l1 x32_2) 0) < (x6_2.length : Int) := of_decide_eq_true (G.asm)
                              obtain ⟨ad270, e270, hx270_0⟩ := Kd.at_bool (Kd.R_reads' HO_6.out).2.2 (rd (rd_L2 l1 x32_2) 0) p270 q270
                              (try rw [← Nbq50.out] at hx270_0)
                              (try rw [← Nbq54.out] at hx270_0)
                              cases e270
                              replace p270 := eq_true p270
                              replace q270 := eq_true q270
                              have p271 : 0 ≤ ((rd (rd_L2 l1 x32_2) (ji31)) : Int) := of_decide_eq_true (G.asm)
                              have q271 : (rd (rd_L2 l1 x32_2) (ji31)) < (x6_2.length : Int) := of_decide_eq_true (G.asm)
                              obtain ⟨ad271, e271, hx271_0⟩ := Kd.at_bool (Kd.R_reads' HO_6.out).2.2 (rd (rd_L2 l1 x32_2) (ji31)) p271 q271
                              (try rw [← Nbq50.out] at hx271_0)
                              (try rw [← Nbq54.out] at hx271_0)
                              obtain rfl : ad270 = ad271 := (by injection e271)
                              replace p271 := eq_true p271
                              replace q271 := eq_true q271
                              go_wp2
                              go_ret
                              exact ⟨ce_0, G.cB HB.out⟩
                            ·rw [if_neg c53] at H
                             exact absurd H (by simp)
                           ·rw [if_neg c52] at H
                            exact absurd H (by simp)
                          ·replace c51 := Bool.eq_false_iff.mpr c51
                           subst c51
                           have H1 : (some false) = some r := by rw [if_neg (show ¬ (false = true) by decide)] at H; exact H
                           clear H
                           have H := H1
                           clear H1
                           obtain rfl := Option.some.inj H
                           obtain ⟨Ao58, co58, eo58⟩ := Kd.R_slice HO_6.out
                           subst eo58
                           have p270 : 0 ≤ ((rd (rd_L2 l1 x32_2) 0) : Int) := of_decide_eq_true (G.asm)
                           have q270 : (rd (rd_L2 l1 x32_2) 0) < (x6_2.length : Int) := of_decide_eq_true (G.asm)
                           obtain ⟨ad270, e270, hx270_0⟩ := Kd.at_bool (Kd.R_reads' HO_6.out).2.2 (rd (rd_L2 l1 x32_2) 0) p270 q270
                           (try rw [← Nbq50.out] at hx270_0)
                           cases e270
                           replace p270 := eq_true p270
                           replace q270 := eq_true q270
                           go_wp2
                           go_ret
                           exact ⟨ce_0, G.cB HB.out⟩
                         ·rw [if_neg c49] at H
                          exact absurd H (by simp)
                        ·rw [if_neg c48] at H
                         exact absurd H (by simp)
                      case rest =>
                       clear HC43
                       (try clear c40 c41b0 c41b1 c42b0 c42b1)
                       obtain ⟨kq, x11_42, A2, c2, rfl, HR2, HC2, HA, HJ42, HO_6, BK257, BK259, HB⟩ := hcut
                       cases kq with
                       | zero => exact absurd HA.out (by simp [earOkW.j4])
                       | succ kj42 =>
                        have H := HA.out
                        clear HA
                        simp only [earOkW.j4] at H
                        obtain ⟨t272, A59, H⟩ := G.bi H
                        replace H : (if t272 = true then (earOkW.l1 kj42 l2 x6_2 (rd_L2 l1 x32_2) l1 (l1.length : Int) x32_2 x11_42 (x11_42.length : Int) 0 a0_0 l0_1 x260000_2 0) else (some false)) = some r := H
                        by_cases c60 : t272 = true
                        ·subst c60
                         have H1 : (earOkW.l1 kj42 l2 x6_2 (rd_L2 l1 x32_2) l1 (l1.length : Int) x32_2 x11_42 (x11_42.length : Int) 0 a0_0 l0_1 x260000_2 0) = some r := by rw [if_pos rfl] at H; exact H
                         clear H
                         have H := H1
                         clear H1
                         have H' := G.m H
                         clear H
                         go_wp2_with (first | ((with_reducible refine gate_callee (f := 52) rfl ?_); refine goesL_ (some 94) rfl rfl Try.func52 (ce_11) rfl #[.slice A2 x11_42.length c2] rfl (G.ar) ?_; (with_reducible refine (impl_different.calls kj42 _ _ x11_42 true _ ?side1 ?side2 A59.out).mono ?_); (case side1 => exact G.cC (Kd.C_below HR2.out HB.out)); (case side2 => exact HC2.out); rintro e w' ⟨rfl, ⟨nd, rfl⟩⟩; refine ⟨_, rfl, ?_⟩))
                         go_loopg [98] kj42 (fun kq v98 w' => ∃ (x98_6 : Int), v98 = .int .i64 x98_6 ∧ Aside0 (earOkW.l1 kq l2 x6_2 (rd_L2 l1 x32_2) l1 (l1.length : Int) x32_2 x11_42 (x11_42.length : Int) x98_6 a0_0 l0_1 x260000_2 0 = some r) ∧ Aside0 (kq ≤ kj42) ∧ Aside0 (Kd.R Kd.bool 4 w' w.heap.size (fun _ => True) v261 x6_2) ∧ Aside0 (w'.heap[gb257]? = some (.cells #[.int .i64 a0_0, (.slice A0_1 l0_1.length c0_1)] 31 (0, 0))) ∧ Aside0 (w'.heap[gb259]? = some (mObj x260000_2)) ∧ Aside0 (Below w.heap.size w w'))
                         case atStart => exact ⟨(0), (ce_9), H', ⟨Nat.le_refl _⟩, ⟨G.cR HO_6.out⟩, ⟨G.cb BK257.out⟩, ⟨G.cb BK259.out⟩, ⟨G.cB HB.out⟩⟩
                         case round =>
                          clear H'
                          (try clear c2 c60)
                          obtain ⟨x98_6, rfl, HA, HK6, HO_6, BK257, BK259, HB⟩ := hrel
                          cases gk with
                          | zero => exact absurd HA.out (by simp [earOkW.l1])
                          | succ k6 =>
                           have H := HA.out
                           clear HA
                           simp only [earOkW.l1] at H
                           by_cases c61 : x98_6 < (x11_42.length : Int)
                           ·rw [if_pos c61] at H
                            have c61b0 : decide (x98_6 < (x11_42.length : Int)) = true := decide_eq_true c61
                            clear c61
                            by_cases c62 : 0 ≤ x98_6
                            ·rw [if_pos c62] at H
                             have c62b0 : decide (0 ≤ x98_6) = true := decide_eq_true c62
                             clear c62
                             by_cases c63 : x98_6 < (x11_42.length : Int)
                             ·rw [if_pos c63] at H
                              have c63b0 : decide (x98_6 < (x11_42.length : Int)) = true := decide_eq_true c63
                              clear c63
                              by_cases c64 : 0 ≤ (rd x11_42 x98_6)
                              ·rw [if_pos c64] at H
                               have c64b0 : decide (0 ≤ (rd x11_42 x98_6)) = true := decide_eq_true c64
                               clear c64
                               by_cases c65 : (rd x11_42 x98_6) < (x6_2.length : Int)
                               ·rw [if_pos c65] at H
                                have c65b0 : decide ((rd x11_42 x98_6) < (x6_2.length : Int)) = true := decide_eq_true c65
                                clear c65
                                obtain ⟨bq66, hbq66⟩ : ∃ b_ : Bool, b_ = (rdOf false x6_2 (rd x11_42 x98_6)) := ⟨_, rfl⟩
                                replace H : (if bq66 = true then (some false) else (earOkW.l1 k6 l2 x6_2 (rd_L2 l1 x32_2) l1 (l1.length : Int) x32_2 x11_42 (x11_42.length : Int) (wrap64 (x98_6 + 1)) a0_0 l0_1 x260000_2 0)) = some r := by rw [← hbq66] at H; exact H
                                have Nbq66 := G.m hbq66
                                clear hbq66
                                by_cases c67 : bq66 = true
                                ·subst c67
                                 have H1 : (some false) = some r := by rw [if_pos rfl] at H; exact H
                                 clear H
                                 have H := H1
                                 clear H1
                                 obtain rfl := Option.some.inj H
                                 have p273 : 0 ≤ (x98_6 : Int) := of_decide_eq_true (G.asm)
                                 have q273 : x98_6 < (x11_42.length : Int) := of_decide_eq_true (G.asm)
                                 obtain ⟨ad273, e273, hx273_0⟩ := Kd.at_int HR2.out x98_6 p273 q273
                                 cases e273
                                 replace hx273_0 := G.hx HB hx273_0
                                 replace p273 := eq_true p273
                                 replace q273 := eq_true q273
                                 obtain ⟨Ao68, co68, eo68⟩ := Kd.R_slice HO_6.out
                                 subst eo68
                                 have p274 : 0 ≤ ((rd x11_42 x98_6) : Int) := of_decide_eq_true (G.asm)
                                 have q274 : (rd x11_42 x98_6) < (x6_2.length : Int) := of_decide_eq_true (G.asm)
                                 obtain ⟨ad274, e274, hx274_0⟩ := Kd.at_bool (Kd.R_reads' HO_6.out).2.2 (rd x11_42 x98_6) p274 q274
                                 (try rw [← Nbq66.out] at hx274_0)
                                 cases e274
                                 replace p274 := eq_true p274
                                 replace q274 := eq_true q274
                                 go_wp2
                                 go_ret
                                 exact ⟨ce_0, G.cB HB.out⟩
                                ·replace c67 := Bool.eq_false_iff.mpr c67
                                 subst c67
                                 have H1 : (earOkW.l1 k6 l2 x6_2 (rd_L2 l1 x32_2) l1 (l1.length : Int) x32_2 x11_42 (x11_42.length : Int) (wrap64 (x98_6 + 1)) a0_0 l0_1 x260000_2 0) = some r := by rw [if_neg (show ¬ (false = true) by decide)] at H; exact H
                                 clear H
                                 have H := H1
                                 clear H1
                                 have H' := G.m H
                                 clear H
                                 have p273 : 0 ≤ (x98_6 : Int) := of_decide_eq_true (G.asm)
                                 have q273 : x98_6 < (x11_42.length : Int) := of_decide_eq_true (G.asm)
                                 obtain ⟨ad273, e273, hx273_0⟩ := Kd.at_int HR2.out x98_6 p273 q273
                                 cases e273
                                 replace hx273_0 := G.hx HB hx273_0
                                 replace p273 := eq_true p273
                                 replace q273 := eq_true q273
                                 obtain ⟨Ao69, co69, eo69⟩ := Kd.R_slice HO_6.out
                                 subst eo69
                                 have p274 : 0 ≤ ((rd x11_42 x98_6) : Int) := of_decide_eq_true (G.asm)
                                 have q274 : (rd x11_42 x98_6) < (x6_2.length : Int) := of_decide_eq_true (G.asm)
                                 obtain ⟨ad274, e274, hx274_0⟩ := Kd.at_bool (Kd.R_reads' HO_6.out).2.2 (rd x11_42 x98_6) p274 q274
                                 (try rw [← Nbq66.out] at hx274_0)
                                 cases e274
                                 replace p274 := eq_true p274
                                 replace q274 := eq_true q274
                                 go_wp2
                                 go_roundg k6
                                 case measure => have := HJ3.out; have := HK2.out; have := HJ22.out; have := HJ33.out; have := HJ42.out; have := HK6.out; omega
                                 case rel => exact ⟨(wrap64 (x98_6 + 1)), (ce_9), H', ⟨by have := HJ3.out; have := HK2.out; have := HJ22.out; have := HJ33.out; have := HJ42.out; have := HK6.out; omega⟩, ⟨G.cR HO_6.out⟩, ⟨G.cb BK257.out⟩, ⟨G.cb BK259.out⟩, ⟨G.cB HB.out⟩⟩
                               ·rw [if_neg c65] at H
                                exact absurd H (by simp)
                              ·rw [if_neg c64] at H
                               exact absurd H (by simp)
                             ·rw [if_neg c63] at H
                              exact absurd H (by simp)
                            ·rw [if_neg c62] at H
                             exact absurd H (by simp)
                           ·rw [if_neg c61] at H
                            have c61b0 : decide (x98_6 < (x11_42.length : Int)) = false := decide_eq_false c61
                            clear c61
                            have H' := G.m H
                            clear H
                            go_wp2
                            go_loopg [14] k6 (fun kq v14 w' => ∃ (x14_7 : Int) (x260000_7 : List (S59)), v14 = .int .i64 x14_7 ∧ Aside0 (earOkW.l2 kq l2 x6_2 (rd_L2 l1 x32_2) x14_7 l1 (l1.length : Int) x32_2 a0_0 l0_1 x260000_7 0 = some r) ∧ Aside0 (kq ≤ k6) ∧ Aside0 (Kd.R Kd.bool 4 w' w.heap.size (fun _ => True) v261 x6_2) ∧ Aside0 (w'.heap[gb257]? = some (.cells #[.int .i64 a0_0, (.slice A0_1 l0_1.length c0_1)] 31 (0, 0))) ∧ Aside0 (w'.heap[gb259]? = some (mObj x260000_7)) ∧ Aside0 (Below w.heap.size w w'))
                            case atStart => exact ⟨(1), (x260000_2), (ce_9), H', ⟨Nat.le_refl _⟩, ⟨G.cR HO_6.out⟩, ⟨G.cb BK257.out⟩, ⟨G.cb BK259.out⟩, ⟨G.cB HB.out⟩⟩
                            case round =>
                             clear H'
                             (try clear c61b0)
                             obtain ⟨x14_7, x260000_7, rfl, HA, HK7, HO_6, BK257, BK259, HB⟩ := hrel
                             cases gk with
                             | zero => exact absurd HA.out (by simp [earOkW.l2])
                             | succ k7 =>
                              have H := HA.out
                              clear HA
                              simp only [earOkW.l2] at H
                              by_cases c70 : x14_7 < ((rd_L2 l1 x32_2).length : Int)
                              ·rw [if_pos c70] at H
                               have c70b0 : decide (x14_7 < ((rd_L2 l1 x32_2).length : Int)) = true := decide_eq_true c70
                               clear c70
                               obtain ⟨ji71, hji71⟩ : ∃ j_ : Int, (wrap64 (x14_7 - 1)) = j_ := ⟨_, rfl⟩
                               replace H : (if 0 ≤ (ji71) then (if (ji71) < ((rd_L2 l1 x32_2).length : Int) then (if 0 ≤ x14_7 then ((impl_tie.f (rd (rd_L2 l1 x32_2) (ji71)) (rd (rd_L2 l1 x32_2) x14_7)).bind fun bt277 => (if tHas x260000_7 bt277.1 bt277.2 = true then (some false) else (earOkW.l2 k7 l2 x6_2 (rd_L2 l1 x32_2) (wrap64 (x14_7 + 1)) l1 (l1.length : Int) x32_2 a0_0 l0_1 (x260000_7 ++ [⟨bt277.1, bt277.2⟩]) 0))) else (none)) else (none)) else (none)) = some r := by first | (rw [hji71] at H; exact H) | (simp only [hji71] at H ⊢; exact H)
                               have hji71w : (IntKind.i64.wrap (x14_7 - 1)) = ji71 := (i64_w _).trans hji71
                               by_cases c72 : 0 ≤ (ji71)
                               ·rw [if_pos c72] at H
                                have c72b0 : decide (0 ≤ (ji71)) = true := decide_eq_true c72
                                clear c72
                                by_cases c73 : (ji71) < ((rd_L2 l1 x32_2).length : Int)
                                ·rw [if_pos c73] at H
                                 have c73b0 : decide ((ji71) < ((rd_L2 l1 x32_2).length : Int)) = true := decide_eq_true c73
                                 clear c73
                                 by_cases c74 : 0 ≤ x14_7
                                 ·rw [if_pos c74] at H
                                  have c74b0 : decide (0 ≤ x14_7) = true := decide_eq_true c74
                                  clear c74
                                  obtain ⟨⟨t277, t278⟩, A75, H⟩ := G.bi H
                                  replace H : (if tHas x260000_7 t277 t278 = true then (some false) else (earOkW.l2 k7 l2 x6_2 (rd_L2 l1 x32_2) (wrap64 (x14_7 + 1)) l1 (l1.length : Int) x32_2 a0_0 l0_1 (x260000_7 ++ [⟨t277, t278⟩]) 0)) = some r := H
                                  by_cases c76 : tHas x260000_7 t277 t278 = true
                                  ·rw [if_pos c76] at H
                                   obtain rfl := Option.some.inj H
                                   try go_wp2
                                   have n0 := G.m (Kd.R_drew HO_6.out)
                                   have n1 := G.m (blk_drew BK257.out)
                                   have n2 := G.m (blk_drew BK259.out)
                                   have n3 := G.m (below_drew1 HB.out)
                                   clear HO_6 BK257 BK259 HB
                                   revert n0 n1 n2 n3
                                   intro HO_6 BK257 BK259 HB
                                   have p275 : 0 ≤ ((ji71) : Int) := of_decide_eq_true (G.asm)
                                   have q275 : (ji71) < ((rd_L2 l1 x32_2).length : Int) := of_decide_eq_true (G.asm)
                                   obtain ⟨ad275, e275, hx275_0⟩ := Kd.at_int HR264_0.out (ji71) p275 q275
                                   have hw275_0 := hx275_0
                                   obtain rfl : ad266 = ad275 := (by injection e275)
                                   replace hx275_0 := G.hx HB hx275_0
                                   replace p275 := eq_true p275
                                   replace q275 := eq_true q275
                                   have p276 : 0 ≤ (x14_7 : Int) := of_decide_eq_true (G.asm)
                                   have q276 : x14_7 < ((rd_L2 l1 x32_2).length : Int) := of_decide_eq_true (G.asm)
                                   obtain ⟨ad276, e276, hx276_0⟩ := Kd.at_int HR264_0.out x14_7 p276 q276
                                   have hw276_0 := hx276_0
                                   obtain rfl : ad266 = ad276 := (by injection e276)
                                   replace hx276_0 := G.hx HB hx276_0
                                   replace p276 := eq_true p276
                                   replace q276 := eq_true q276
                                   refine start_ (n := 12) (S := fun w' => w'.cell? (ad266.add ((ji71)).toNat) = some (.int .i64 (rd (rd_L2 l1 x32_2) (ji71))) ∧ w'.cell? (ad266.add (x14_7).toNat) = some (.int .i64 (rd (rd_L2 l1 x32_2) x14_7))) (ds := []) (G.fl 12 0) (ce_11) rfl (ce_11) ⟨(G.hx HB hw275_0), (G.hx HB hw276_0)⟩ (fun hHeld => ?_); refine with_tabW earOkW.tab29 earOkW.bits29 (fun HT_ HW_ => ?_)
                                   generalize wr.drew = w77 at HO_6 BK257 BK259 HB hx275_0 hx276_0 hHeld ⊢
                                   refine G.pu 0 113 1 ?_
                                   refine G.pu 1 114 3 ?_
                                   refine G.pu 2 115 7 ?_
                                   refine G.pu 3 116 15 ?_
                                   refine G.pu 5 118 47 ?_
                                   refine G.pu 6 119 111 ?_
                                   refine G.pu 7 120 239 ?_
                                   refine G.ta2 4 117 255 ?_
                                   refine G.ta2 8 121 511 ?_
                                   refine join_ (σ := Nat) 1 (G.fl 12 2047) (fun s_ => [(122, .agg #[.int .i64 t277, .int .i64 t278]), (15, .pointer (some ⟨s_, 0, none⟩))]) (fun s_ w' => (w'.cell? (ad266.add ((ji71)).toNat) = some (.int .i64 (rd (rd_L2 l1 x32_2) (ji71))) ∧ w'.cell? (ad266.add (x14_7).toNat) = some (.int .i64 (rd (rd_L2 l1 x32_2) x14_7))) ∧ (Kd.R Kd.bool 4 w' w.heap.size (fun _ => True) v261 x6_2) ∧ (w'.heap[gb257]? = some (.cells #[.int .i64 a0_0, .slice A0_1 l0_1.length c0_1] 31 (0, 0))) ∧ (w'.heap[gb259]? = some (mObj x260000_7)) ∧ (w'.heap[s_]? = some (.cells #[.int .i64 0, .int .i64 0] 59 (0, 0))) ∧ (w.heap.size ≤ s_) ∧ (w.heap.size ≤ s_) ∧ (gb257 ≠ s_) ∧ (s_ ≠ gb257) ∧ (gb259 ≠ s_) ∧ (s_ ≠ gb259) ∧ (Below w.heap.size w w')) ?_ ?_
                                   rotate_left
                                   ·intro hCont
                                    refine two_ (i := 9) (j := 10) (Ni := some 122) (Nj := some 15) (G.fl 12 1023) (G.fl 12 1535) rfl rfl rfl rfl (two_of HT_.out (ce_11)) (by decide) (by decide) (fun K hK => ?_) (fun K hK => ?_)
                                    ·skip
                                     refine goes_ Try.func53 (ce_11) rfl #[.int .i64 (rd (rd_L2 l1 x32_2) (ji71)), .int .i64 (rd (rd_L2 l1 x32_2) x14_7)] (by rfl) rfl rfl (ce_1) ?_
                                     with_reducible refine (impl_tie.calls (rd (rd_L2 l1 x32_2) (ji71)) (rd (rd_L2 l1 x32_2) x14_7) t277 t278 _ A75.out).mono ?_
                                     rintro e w78 ⟨rfl, hb⟩
                                     refine ⟨_, rfl, ?_⟩
                                     have n0 := G.rb HO_6 hb
                                     have n1 := G.bb BK257 hb
                                     have n2 := G.bb BK259 hb
                                     have n3 := G.bs HB hb
                                     clear HO_6 BK257 BK259 HB
                                     revert n0 n1 n2 n3
                                     intro HO_6 BK257 BK259 HB
                                     (try clear hb hk)
                                     refine hK.out _ _ ⟨(G.hx HB hw275_0), (G.hx HB hw276_0)⟩ (fun hHeld => ?_)
                                     clear hK K
                                     refine G.no 122 ?_
                                     refine one_ (i := 10) (N := some 15) (G.fl 12 2047) rfl rfl (one_of HT_.out (ce_11)) (by decide) (fun K hK => ?_)
                                     refine box_step ?hg (N := 15) ?hd (cs := #[.int .i64 0, .int .i64 0]) (t := 59) ?hr ?_; (case hd => rfl); (case hg => rfl); (case hr => first | (go_simp; done) | (go_simp; rfl))
                                     intro gb279 hg w79 hbox hb
                                     have n0 := G.rb HO_6 hb
                                     have n1 := G.bb BK257 hb
                                     have n2 := G.bb BK259 hb
                                     have n3 := G.bs HB hb
                                     have n4 := G.m (hbox)
                                     have n5 := G.m (ce_10 : w.heap.size ≤ gb279)
                                     have n6 := G.m (ce_10 : w.heap.size ≤ gb279)
                                     have n7 := G.m (ce_3 : gb257 ≠ gb279)
                                     have n8 := G.m (ce_4 : gb279 ≠ gb257)
                                     have n9 := G.m (ce_5 : gb259 ≠ gb279)
                                     have n10 := G.m (ce_6 : gb279 ≠ gb259)
                                     clear HO_6 BK257 BK259 HB
                                     revert n0 n1 n2 n3 n4 n5 n6 n7 n8 n9 n10
                                     intro HO_6 BK257 BK259 HB BK279 GW279 GE279 NB257_279 NB279_257 NB259_279 NB279_259
                                     clear hb hbox hg
                                     refine hK.out _ _ ⟨(G.hx HB hw275_0), (G.hx HB hw276_0)⟩ (fun hHeld => ?_)
                                     clear hK K
                                     refine G.no 15 ?_
                                     exact norm_ (by simp only [putAll, Act.put, List.setIfInBounds_toArray, List.set_cons_zero, List.set_cons_succ]) (hCont (gb279) _ ⟨hHeld, (G.cR HO_6.out), (G.cb BK257.out), (G.cb BK259.out), (G.cb BK279.out), GW279.out, GE279.out, NB257_279.out, NB279_257.out, NB259_279.out, NB279_259.out, (G.cB HB.out)⟩)
                                    ·skip
                                     refine box_step ?hg (N := 15) ?hd (cs := #[.int .i64 0, .int .i64 0]) (t := 59) ?hr ?_; (case hd => rfl); (case hg => rfl); (case hr => first | (go_simp; done) | (go_simp; rfl))
                                     intro gb279 hg w78 hbox hb
                                     have n0 := G.rb HO_6 hb
                                     have n1 := G.bb BK257 hb
                                     have n2 := G.bb BK259 hb
                                     have n3 := G.bs HB hb
                                     have n4 := G.m (hbox)
                                     have n5 := G.m (ce_10 : w.heap.size ≤ gb279)
                                     have n6 := G.m (ce_10 : w.heap.size ≤ gb279)
                                     have n7 := G.m (ce_3 : gb257 ≠ gb279)
                                     have n8 := G.m (ce_4 : gb279 ≠ gb257)
                                     have n9 := G.m (ce_5 : gb259 ≠ gb279)
                                     have n10 := G.m (ce_6 : gb279 ≠ gb259)
                                     clear HO_6 BK257 BK259 HB
                                     revert n0 n1 n2 n3 n4 n5 n6 n7 n8 n9 n10
                                     intro HO_6 BK257 BK259 HB BK279 GW279 GE279 NB257_279 NB279_257 NB259_279 NB279_259
                                     clear hb hbox hg
                                     refine hK.out _ _ ⟨(G.hx HB hw275_0), (G.hx HB hw276_0)⟩ (fun hHeld => ?_)
                                     clear hK K
                                     refine G.no 15 ?_
                                     refine one_ (i := 9) (N := some 122) (G.fl 12 2047) rfl rfl (one_of HT_.out (ce_11)) (by decide) (fun K hK => ?_)
                                     refine goes_ Try.func53 (ce_11) rfl #[.int .i64 (rd (rd_L2 l1 x32_2) (ji71)), .int .i64 (rd (rd_L2 l1 x32_2) x14_7)] (by rfl) rfl rfl (ce_1) ?_
                                     with_reducible refine (impl_tie.calls (rd (rd_L2 l1 x32_2) (ji71)) (rd (rd_L2 l1 x32_2) x14_7) t277 t278 _ A75.out).mono ?_
                                     rintro e w79 ⟨rfl, hb⟩
                                     refine ⟨_, rfl, ?_⟩
                                     have n0 := G.rb HO_6 hb
                                     have n1 := G.bb BK257 hb
                                     have n2 := G.bb BK259 hb
                                     have n3 := G.bb BK279 hb
                                     have n4 := G.bs HB hb
                                     clear HO_6 BK257 BK259 BK279 HB
                                     revert n0 n1 n2 n3 n4
                                     intro HO_6 BK257 BK259 BK279 HB
                                     (try clear hb hk)
                                     refine hK.out _ _ ⟨(G.hx HB hw275_0), (G.hx HB hw276_0)⟩ (fun hHeld => ?_)
                                     clear hK K
                                     refine G.no 122 ?_
                                     exact norm_ (by simp only [putAll, Act.put, List.setIfInBounds_toArray, List.set_cons_zero, List.set_cons_succ]) (hCont (gb279) _ ⟨hHeld, (G.cR HO_6.out), (G.cb BK257.out), (G.cb BK259.out), (G.cb BK279.out), GW279.out, GE279.out, NB257_279.out, NB279_257.out, NB259_279.out, NB279_259.out, (G.cB HB.out)⟩)
                                   rintro gb279 w80 ⟨hS_, h0_, h1_, h2_, h3_, h4_, h5_, h6_, h7_, h8_, h9_, h10_⟩
                                   have n0 : Aside0 (Kd.R Kd.bool 4 w80 w.heap.size (fun _ => True) v261 x6_2) := ⟨h0_⟩
                                   have n1 : Aside0 (w80.heap[gb257]? = some (.cells #[.int .i64 a0_0, .slice A0_1 l0_1.length c0_1] 31 (0, 0))) := ⟨h1_⟩
                                   have n2 : Aside0 (w80.heap[gb259]? = some (mObj x260000_7)) := ⟨h2_⟩
                                   have n3 : Aside0 (w80.heap[gb279]? = some (.cells #[.int .i64 0, .int .i64 0] 59 (0, 0))) := ⟨h3_⟩
                                   have n4 : Aside0 (w.heap.size ≤ gb279) := ⟨h4_⟩
                                   have n5 : Aside0 (w.heap.size ≤ gb279) := ⟨h5_⟩
                                   have n6 : Aside0 (gb257 ≠ gb279) := ⟨h6_⟩
                                   have n7 : Aside0 (gb279 ≠ gb257) := ⟨h7_⟩
                                   have n8 : Aside0 (gb259 ≠ gb279) := ⟨h8_⟩
                                   have n9 : Aside0 (gb279 ≠ gb259) := ⟨h9_⟩
                                   have n10 : Aside0 (Below w.heap.size w w80) := ⟨h10_⟩
                                   clear HO_6 BK257 BK259 HB
                                   clear h0_ h1_ h2_ h3_ h4_ h5_ h6_ h7_ h8_ h9_ h10_
                                   revert n0 n1 n2 n3 n4 n5 n6 n7 n8 n9 n10
                                   intro HO_6 BK257 BK259 BK279 GW279 GE279 NB257_279 NB279_257 NB259_279 NB279_259 HB
                                   have hHeld : w80.cell? (ad266.add ((ji71)).toNat) = some (.int .i64 (rd (rd_L2 l1 x32_2) (ji71))) ∧ w80.cell? (ad266.add (x14_7).toNat) = some (.int .i64 (rd (rd_L2 l1 x32_2) x14_7)) := hS_
                                   refine norm_ (a' := ?_) ?_ ?_
                                   rotate_left
                                   ·simp only [putAll, Act.put, List.setIfInBounds_toArray, List.set_cons_zero, List.set_cons_succ]
                                    rfl
                                   refine one_ (i := 11) (N := none) (G.fl 12 4095) rfl rfl (one_of HT_.out (ce_11)) (by decide) (fun K hK => ?_)
                                   have hs81 : w80.cell? ⟨gb279, 0, none⟩ = some (.int .i64 0) := G.z BK279 0
                                   have hfs81 := blk_frozen BK279.out 0
                                   have hns81_0 := NB257_279.out
                                   have hns81_1 := NB259_279.out
                                   have hms81_0 := NB279_257.out
                                   have hms81_1 := NB279_259.out
                                   have hs82 : w80.cell? ⟨gb279, 1, none⟩ = some (.int .i64 0) := G.z BK279 1
                                   have hfs82 := blk_frozen BK279.out 1
                                   have hns82_0 := NB257_279.out
                                   have hns82_1 := NB259_279.out
                                   have hms82_0 := NB279_257.out
                                   have hms82_1 := NB279_259.out
                                   refine skip_ (w1 := ?_) (by rfl) rfl ?_ ?_
                                   rotate_left
                                   ·go_simp
                                    rfl
                                   refine hK.out _ _ ⟨((cell_far (p := ⟨gb279, _, none⟩) (by first | exact Nat.ne_of_lt (Nat.lt_of_lt_of_le (by have := World.block_lt_of_cell? _ _ hw275_0; first | rwa [add_block] at this | exact this) GW279.out) | (rw [add_block]; exact Nat.ne_of_lt (Nat.lt_of_lt_of_le (by have := World.block_lt_of_cell? _ _ hw275_0; first | rwa [add_block] at this | exact this) GW279.out)) | (show (Addr.add _ _).block ≠ _; rw [add_block]; exact Nat.ne_of_lt (Nat.lt_of_lt_of_le (by have := World.block_lt_of_cell? _ _ hw275_0; first | rwa [add_block] at this | exact this) GW279.out)) | (dsimp only; exact Nat.ne_of_lt (Nat.lt_of_lt_of_le (by have := World.block_lt_of_cell? _ _ hw275_0; first | rwa [add_block] at this | exact this) GW279.out))) _).trans (((cell_far (p := ⟨gb279, _, none⟩) (by first | exact Nat.ne_of_lt (Nat.lt_of_lt_of_le (by have := World.block_lt_of_cell? _ _ hw275_0; first | rwa [add_block] at this | exact this) GW279.out) | (rw [add_block]; exact Nat.ne_of_lt (Nat.lt_of_lt_of_le (by have := World.block_lt_of_cell? _ _ hw275_0; first | rwa [add_block] at this | exact this) GW279.out)) | (show (Addr.add _ _).block ≠ _; rw [add_block]; exact Nat.ne_of_lt (Nat.lt_of_lt_of_le (by have := World.block_lt_of_cell? _ _ hw275_0; first | rwa [add_block] at this | exact this) GW279.out)) | (dsimp only; exact Nat.ne_of_lt (Nat.lt_of_lt_of_le (by have := World.block_lt_of_cell? _ _ hw275_0; first | rwa [add_block] at this | exact this) GW279.out))) _).trans (hHeld.1)))), ((cell_far (p := ⟨gb279, _, none⟩) (by first | exact Nat.ne_of_lt (Nat.lt_of_lt_of_le (by have := World.block_lt_of_cell? _ _ hw276_0; first | rwa [add_block] at this | exact this) GW279.out) | (rw [add_block]; exact Nat.ne_of_lt (Nat.lt_of_lt_of_le (by have := World.block_lt_of_cell? _ _ hw276_0; first | rwa [add_block] at this | exact this) GW279.out)) | (show (Addr.add _ _).block ≠ _; rw [add_block]; exact Nat.ne_of_lt (Nat.lt_of_lt_of_le (by have := World.block_lt_of_cell? _ _ hw276_0; first | rwa [add_block] at this | exact this) GW279.out)) | (dsimp only; exact Nat.ne_of_lt (Nat.lt_of_lt_of_le (by have := World.block_lt_of_cell? _ _ hw276_0; first | rwa [add_block] at this | exact this) GW279.out))) _).trans (((cell_far (p := ⟨gb279, _, none⟩) (by first | exact Nat.ne_of_lt (Nat.lt_of_lt_of_le (by have := World.block_lt_of_cell? _ _ hw276_0; first | rwa [add_block] at this | exact this) GW279.out) | (rw [add_block]; exact Nat.ne_of_lt (Nat.lt_of_lt_of_le (by have := World.block_lt_of_cell? _ _ hw276_0; first | rwa [add_block] at this | exact this) GW279.out)) | (show (Addr.add _ _).block ≠ _; rw [add_block]; exact Nat.ne_of_lt (Nat.lt_of_lt_of_le (by have := World.block_lt_of_cell? _ _ hw276_0; first | rwa [add_block] at this | exact this) GW279.out)) | (dsimp only; exact Nat.ne_of_lt (Nat.lt_of_lt_of_le (by have := World.block_lt_of_cell? _ _ hw276_0; first | rwa [add_block] at this | exact this) GW279.out))) _).trans (hHeld.2))))⟩ (fun hHeld => ?_)
                                   clear hK K
                                   refine done_ (done_of HT_.out (ce_11)) ?_
                                   have hnb83 := NB259_257.out
                                   have hnc83 := NB257_259.out
                                   have hnb84 := NB259_279.out
                                   have hnc84 := NB279_259.out
                                   have hnb86 := NB279_257.out
                                   have hnc86 := NB257_279.out
                                   have ⟨hcz87_0, hcz87_1, hfz87_0, hfz87_1⟩ := G.d2 (w := w80) BK279
                                   go_wp2_with (first | (((with_reducible refine G.h 125 rfl ?_); refine mAsked 125 (g := gb259) (l := x260000_7) (x0 := t277) (x1 := t278) (b := true) (mFar (mFar BK259.out NB259_279.out _) NB259_279.out _) c76 ?_)))
                                   go_ret
                                   exact ⟨by first | rfl | (simp [errW_none, errW_some] <;> rfl) | (simp only [← hji31, ← hji71]; first | rfl | (simp [errW_none, errW_some] <;> rfl)) | (simp [*, errW_none, errW_some] <;> rfl), G.cB HB.out⟩
                                  ·rw [if_neg c76] at H
                                   have H' := G.m H
                                   clear H
                                   try go_wp2
                                   have n0 := G.m (Kd.R_drew HO_6.out)
                                   have n1 := G.m (blk_drew BK257.out)
                                   have n2 := G.m (blk_drew BK259.out)
                                   have n3 := G.m (below_drew1 HB.out)
                                   clear HO_6 BK257 BK259 HB
                                   revert n0 n1 n2 n3
                                   intro HO_6 BK257 BK259 HB
                                   have p275 : 0 ≤ ((ji71) : Int) := of_decide_eq_true (G.asm)
                                   have q275 : (ji71) < ((rd_L2 l1 x32_2).length : Int) := of_decide_eq_true (G.asm)
                                   obtain ⟨ad275, e275, hx275_0⟩ := Kd.at_int HR264_0.out (ji71) p275 q275
                                   have hw275_0 := hx275_0
                                   obtain rfl : ad266 = ad275 := (by injection e275)
                                   replace hx275_0 := G.hx HB hx275_0
                                   replace p275 := eq_true p275
                                   replace q275 := eq_true q275
                                   have p276 : 0 ≤ (x14_7 : Int) := of_decide_eq_true (G.asm)
                                   have q276 : x14_7 < ((rd_L2 l1 x32_2).length : Int) := of_decide_eq_true (G.asm)
                                   obtain ⟨ad276, e276, hx276_0⟩ := Kd.at_int HR264_0.out x14_7 p276 q276
                                   have hw276_0 := hx276_0
                                   obtain rfl : ad266 = ad276 := (by injection e276)
                                   replace hx276_0 := G.hx HB hx276_0
                                   replace p276 := eq_true p276
                                   replace q276 := eq_true q276
                                   refine start_ (n := 12) (S := fun w' => w'.cell? (ad266.add ((ji71)).toNat) = some (.int .i64 (rd (rd_L2 l1 x32_2) (ji71))) ∧ w'.cell? (ad266.add (x14_7).toNat) = some (.int .i64 (rd (rd_L2 l1 x32_2) x14_7))) (ds := []) (G.fl 12 0) (ce_11) rfl (ce_11) ⟨(G.hx HB hw275_0), (G.hx HB hw276_0)⟩ (fun hHeld => ?_); refine with_tabW earOkW.tab29 earOkW.bits29 (fun HT_ HW_ => ?_)
                                   generalize wr.drew = w88 at HO_6 BK257 BK259 HB hx275_0 hx276_0 hHeld ⊢
                                   refine G.pu 0 113 1 ?_
                                   refine G.pu 1 114 3 ?_
                                   refine G.pu 2 115 7 ?_
                                   refine G.pu 3 116 15 ?_
                                   refine G.pu 5 118 47 ?_
                                   refine G.pu 6 119 111 ?_
                                   refine G.pu 7 120 239 ?_
                                   refine G.ta2 4 117 255 ?_
                                   refine G.ta2 8 121 511 ?_
                                   refine join_ (σ := Nat) 1 (G.fl 12 2047) (fun s_ => [(122, .agg #[.int .i64 t277, .int .i64 t278]), (15, .pointer (some ⟨s_, 0, none⟩))]) (fun s_ w' => (w'.cell? (ad266.add ((ji71)).toNat) = some (.int .i64 (rd (rd_L2 l1 x32_2) (ji71))) ∧ w'.cell? (ad266.add (x14_7).toNat) = some (.int .i64 (rd (rd_L2 l1 x32_2) x14_7))) ∧ (Kd.R Kd.bool 4 w' w.heap.size (fun _ => True) v261 x6_2) ∧ (w'.heap[gb257]? = some (.cells #[.int .i64 a0_0, .slice A0_1 l0_1.length c0_1] 31 (0, 0))) ∧ (w'.heap[gb259]? = some (mObj x260000_7)) ∧ (w'.heap[s_]? = some (.cells #[.int .i64 0, .int .i64 0] 59 (0, 0))) ∧ (w.heap.size ≤ s_) ∧ (w.heap.size ≤ s_) ∧ (gb257 ≠ s_) ∧ (s_ ≠ gb257) ∧ (gb259 ≠ s_) ∧ (s_ ≠ gb259) ∧ (Below w.heap.size w w')) ?_ ?_
                                   rotate_left
                                   ·intro hCont
                                    refine two_ (i := 9) (j := 10) (Ni := some 122) (Nj := some 15) (G.fl 12 1023) (G.fl 12 1535) rfl rfl rfl rfl (two_of HT_.out (ce_11)) (by decide) (by decide) (fun K hK => ?_) (fun K hK => ?_)
                                    ·skip
                                     refine goes_ Try.func53 (ce_11) rfl #[.int .i64 (rd (rd_L2 l1 x32_2) (ji71)), .int .i64 (rd (rd_L2 l1 x32_2) x14_7)] (by rfl) rfl rfl (ce_1) ?_
                                     with_reducible refine (impl_tie.calls (rd (rd_L2 l1 x32_2) (ji71)) (rd (rd_L2 l1 x32_2) x14_7) t277 t278 _ A75.out).mono ?_
                                     rintro e w89 ⟨rfl, hb⟩
                                     refine ⟨_, rfl, ?_⟩
                                     have n0 := G.rb HO_6 hb
                                     have n1 := G.bb BK257 hb
                                     have n2 := G.bb BK259 hb
                                     have n3 := G.bs HB hb
                                     clear HO_6 BK257 BK259 HB
                                     revert n0 n1 n2 n3
                                     intro HO_6 BK257 BK259 HB
                                     (try clear hb hk)
                                     refine hK.out _ _ ⟨(G.hx HB hw275_0), (G.hx HB hw276_0)⟩ (fun hHeld => ?_)
                                     clear hK K
                                     refine G.no 122 ?_
                                     refine one_ (i := 10) (N := some 15) (G.fl 12 2047) rfl rfl (one_of HT_.out (ce_11)) (by decide) (fun K hK => ?_)
                                     refine box_step ?hg (N := 15) ?hd (cs := #[.int .i64 0, .int .i64 0]) (t := 59) ?hr ?_; (case hd => rfl); (case hg => rfl); (case hr => first | (go_simp; done) | (go_simp; rfl))
                                     intro gb279 hg w90 hbox hb
                                     have n0 := G.rb HO_6 hb
                                     have n1 := G.bb BK257 hb
                                     have n2 := G.bb BK259 hb
                                     have n3 := G.bs HB hb
                                     have n4 := G.m (hbox)
                                     have n5 := G.m (ce_10 : w.heap.size ≤ gb279)
                                     have n6 := G.m (ce_10 : w.heap.size ≤ gb279)
                                     have n7 := G.m (ce_3 : gb257 ≠ gb279)
                                     have n8 := G.m (ce_4 : gb279 ≠ gb257)
                                     have n9 := G.m (ce_5 : gb259 ≠ gb279)
                                     have n10 := G.m (ce_6 : gb279 ≠ gb259)
                                     clear HO_6 BK257 BK259 HB
                                     revert n0 n1 n2 n3 n4 n5 n6 n7 n8 n9 n10
                                     intro HO_6 BK257 BK259 HB BK279 GW279 GE279 NB257_279 NB279_257 NB259_279 NB279_259
                                     clear hb hbox hg
                                     refine hK.out _ _ ⟨(G.hx HB hw275_0), (G.hx HB hw276_0)⟩ (fun hHeld => ?_)
                                     clear hK K
                                     refine G.no 15 ?_
                                     exact norm_ (by simp only [putAll, Act.put, List.setIfInBounds_toArray, List.set_cons_zero, List.set_cons_succ]) (hCont (gb279) _ ⟨hHeld, (G.cR HO_6.out), (G.cb BK257.out), (G.cb BK259.out), (G.cb BK279.out), GW279.out, GE279.out, NB257_279.out, NB279_257.out, NB259_279.out, NB279_259.out, (G.cB HB.out)⟩)
                                    ·skip
                                     refine box_step ?hg (N := 15) ?hd (cs := #[.int .i64 0, .int .i64 0]) (t := 59) ?hr ?_; (case hd => rfl); (case hg => rfl); (case hr => first | (go_simp; done) | (go_simp; rfl))
                                     intro gb279 hg w89 hbox hb
                                     have n0 := G.rb HO_6 hb
                                     have n1 := G.bb BK257 hb
                                     have n2 := G.bb BK259 hb
                                     have n3 := G.bs HB hb
                                     have n4 := G.m (hbox)
                                     have n5 := G.m (ce_10 : w.heap.size ≤ gb279)
                                     have n6 := G.m (ce_10 : w.heap.size ≤ gb279)
                                     have n7 := G.m (ce_3 : gb257 ≠ gb279)
                                     have n8 := G.m (ce_4 : gb279 ≠ gb257)
                                     have n9 := G.m (ce_5 : gb259 ≠ gb279)
                                     have n10 := G.m (ce_6 : gb279 ≠ gb259)
                                     clear HO_6 BK257 BK259 HB
                                     revert n0 n1 n2 n3 n4 n5 n6 n7 n8 n9 n10
                                     intro HO_6 BK257 BK259 HB BK279 GW279 GE279 NB257_279 NB279_257 NB259_279 NB279_259
                                     clear hb hbox hg
                                     refine hK.out _ _ ⟨(G.hx HB hw275_0), (G.hx HB hw276_0)⟩ (fun hHeld => ?_)
                                     clear hK K
                                     refine G.no 15 ?_
                                     refine one_ (i := 9) (N := some 122) (G.fl 12 2047) rfl rfl (one_of HT_.out (ce_11)) (by decide) (fun K hK => ?_)
                                     refine goes_ Try.func53 (ce_11) rfl #[.int .i64 (rd (rd_L2 l1 x32_2) (ji71)), .int .i64 (rd (rd_L2 l1 x32_2) x14_7)] (by rfl) rfl rfl (ce_1) ?_
                                     with_reducible refine (impl_tie.calls (rd (rd_L2 l1 x32_2) (ji71)) (rd (rd_L2 l1 x32_2) x14_7) t277 t278 _ A75.out).mono ?_
                                     rintro e w90 ⟨rfl, hb⟩
                                     refine ⟨_, rfl, ?_⟩
                                     have n0 := G.rb HO_6 hb
                                     have n1 := G.bb BK257 hb
                                     have n2 := G.bb BK259 hb
                                     have n3 := G.bb BK279 hb
                                     have n4 := G.bs HB hb
                                     clear HO_6 BK257 BK259 BK279 HB
                                     revert n0 n1 n2 n3 n4
                                     intro HO_6 BK257 BK259 BK279 HB
                                     (try clear hb hk)
                                     refine hK.out _ _ ⟨(G.hx HB hw275_0), (G.hx HB hw276_0)⟩ (fun hHeld => ?_)
                                     clear hK K
                                     refine G.no 122 ?_
                                     exact norm_ (by simp only [putAll, Act.put, List.setIfInBounds_toArray, List.set_cons_zero, List.set_cons_succ]) (hCont (gb279) _ ⟨hHeld, (G.cR HO_6.out), (G.cb BK257.out), (G.cb BK259.out), (G.cb BK279.out), GW279.out, GE279.out, NB257_279.out, NB279_257.out, NB259_279.out, NB279_259.out, (G.cB HB.out)⟩)
                                   rintro gb279 w91 ⟨hS_, h0_, h1_, h2_, h3_, h4_, h5_, h6_, h7_, h8_, h9_, h10_⟩
                                   have n0 : Aside0 (Kd.R Kd.bool 4 w91 w.heap.size (fun _ => True) v261 x6_2) := ⟨h0_⟩
                                   have n1 : Aside0 (w91.heap[gb257]? = some (.cells #[.int .i64 a0_0, .slice A0_1 l0_1.length c0_1] 31 (0, 0))) := ⟨h1_⟩
                                   have n2 : Aside0 (w91.heap[gb259]? = some (mObj x260000_7)) := ⟨h2_⟩
                                   have n3 : Aside0 (w91.heap[gb279]? = some (.cells #[.int .i64 0, .int .i64 0] 59 (0, 0))) := ⟨h3_⟩
                                   have n4 : Aside0 (w.heap.size ≤ gb279) := ⟨h4_⟩
                                   have n5 : Aside0 (w.heap.size ≤ gb279) := ⟨h5_⟩
                                   have n6 : Aside0 (gb257 ≠ gb279) := ⟨h6_⟩
                                   have n7 : Aside0 (gb279 ≠ gb257) := ⟨h7_⟩
                                   have n8 : Aside0 (gb259 ≠ gb279) := ⟨h8_⟩
                                   have n9 : Aside0 (gb279 ≠ gb259) := ⟨h9_⟩
                                   have n10 : Aside0 (Below w.heap.size w w91) := ⟨h10_⟩
                                   clear HO_6 BK257 BK259 HB
                                   clear h0_ h1_ h2_ h3_ h4_ h5_ h6_ h7_ h8_ h9_ h10_
                                   revert n0 n1 n2 n3 n4 n5 n6 n7 n8 n9 n10
                                   intro HO_6 BK257 BK259 BK279 GW279 GE279 NB257_279 NB279_257 NB259_279 NB279_259 HB
                                   have hHeld : w91.cell? (ad266.add ((ji71)).toNat) = some (.int .i64 (rd (rd_L2 l1 x32_2) (ji71))) ∧ w91.cell? (ad266.add (x14_7).toNat) = some (.int .i64 (rd (rd_L2 l1 x32_2) x14_7)) := hS_
                                   refine norm_ (a' := ?_) ?_ ?_
                                   rotate_left
                                   ·simp only [putAll, Act.put, List.setIfInBounds_toArray, List.set_cons_zero, List.set_cons_succ]
                                    rfl
                                   refine one_ (i := 11) (N := none) (G.fl 12 4095) rfl rfl (one_of HT_.out (ce_11)) (by decide) (fun K hK => ?_)
                                   have hs92 : w91.cell? ⟨gb279, 0, none⟩ = some (.int .i64 0) := G.z BK279 0
                                   have hfs92 := blk_frozen BK279.out 0
                                   have hns92_0 := NB257_279.out
                                   have hns92_1 := NB259_279.out
                                   have hms92_0 := NB279_257.out
                                   have hms92_1 := NB279_259.out
                                   have hs93 : w91.cell? ⟨gb279, 1, none⟩ = some (.int .i64 0) := G.z BK279 1
                                   have hfs93 := blk_frozen BK279.out 1
                                   have hns93_0 := NB257_279.out
                                   have hns93_1 := NB259_279.out
                                   have hms93_0 := NB279_257.out
                                   have hms93_1 := NB279_259.out
                                   refine skip_ (w1 := ?_) (by rfl) rfl ?_ ?_
                                   rotate_left
                                   ·go_simp
                                    rfl
                                   refine hK.out _ _ ⟨((cell_far (p := ⟨gb279, _, none⟩) (by first | exact Nat.ne_of_lt (Nat.lt_of_lt_of_le (by have := World.block_lt_of_cell? _ _ hw275_0; first | rwa [add_block] at this | exact this) GW279.out) | (rw [add_block]; exact Nat.ne_of_lt (Nat.lt_of_lt_of_le (by have := World.block_lt_of_cell? _ _ hw275_0; first | rwa [add_block] at this | exact this) GW279.out)) | (show (Addr.add _ _).block ≠ _; rw [add_block]; exact Nat.ne_of_lt (Nat.lt_of_lt_of_le (by have := World.block_lt_of_cell? _ _ hw275_0; first | rwa [add_block] at this | exact this) GW279.out)) | (dsimp only; exact Nat.ne_of_lt (Nat.lt_of_lt_of_le (by have := World.block_lt_of_cell? _ _ hw275_0; first | rwa [add_block] at this | exact this) GW279.out))) _).trans (((cell_far (p := ⟨gb279, _, none⟩) (by first | exact Nat.ne_of_lt (Nat.lt_of_lt_of_le (by have := World.block_lt_of_cell? _ _ hw275_0; first | rwa [add_block] at this | exact this) GW279.out) | (rw [add_block]; exact Nat.ne_of_lt (Nat.lt_of_lt_of_le (by have := World.block_lt_of_cell? _ _ hw275_0; first | rwa [add_block] at this | exact this) GW279.out)) | (show (Addr.add _ _).block ≠ _; rw [add_block]; exact Nat.ne_of_lt (Nat.lt_of_lt_of_le (by have := World.block_lt_of_cell? _ _ hw275_0; first | rwa [add_block] at this | exact this) GW279.out)) | (dsimp only; exact Nat.ne_of_lt (Nat.lt_of_lt_of_le (by have := World.block_lt_of_cell? _ _ hw275_0; first | rwa [add_block] at this | exact this) GW279.out))) _).trans (hHeld.1)))), ((cell_far (p := ⟨gb279, _, none⟩) (by first | exact Nat.ne_of_lt (Nat.lt_of_lt_of_le (by have := World.block_lt_of_cell? _ _ hw276_0; first | rwa [add_block] at this | exact this) GW279.out) | (rw [add_block]; exact Nat.ne_of_lt (Nat.lt_of_lt_of_le (by have := World.block_lt_of_cell? _ _ hw276_0; first | rwa [add_block] at this | exact this) GW279.out)) | (show (Addr.add _ _).block ≠ _; rw [add_block]; exact Nat.ne_of_lt (Nat.lt_of_lt_of_le (by have := World.block_lt_of_cell? _ _ hw276_0; first | rwa [add_block] at this | exact this) GW279.out)) | (dsimp only; exact Nat.ne_of_lt (Nat.lt_of_lt_of_le (by have := World.block_lt_of_cell? _ _ hw276_0; first | rwa [add_block] at this | exact this) GW279.out))) _).trans (((cell_far (p := ⟨gb279, _, none⟩) (by first | exact Nat.ne_of_lt (Nat.lt_of_lt_of_le (by have := World.block_lt_of_cell? _ _ hw276_0; first | rwa [add_block] at this | exact this) GW279.out) | (rw [add_block]; exact Nat.ne_of_lt (Nat.lt_of_lt_of_le (by have := World.block_lt_of_cell? _ _ hw276_0; first | rwa [add_block] at this | exact this) GW279.out)) | (show (Addr.add _ _).block ≠ _; rw [add_block]; exact Nat.ne_of_lt (Nat.lt_of_lt_of_le (by have := World.block_lt_of_cell? _ _ hw276_0; first | rwa [add_block] at this | exact this) GW279.out)) | (dsimp only; exact Nat.ne_of_lt (Nat.lt_of_lt_of_le (by have := World.block_lt_of_cell? _ _ hw276_0; first | rwa [add_block] at this | exact this) GW279.out))) _).trans (hHeld.2))))⟩ (fun hHeld => ?_)
                                   clear hK K
                                   refine done_ (done_of HT_.out (ce_11)) ?_
                                   have hnb94 := NB259_257.out
                                   have hnc94 := NB257_259.out
                                   have hnb95 := NB259_279.out
                                   have hnc95 := NB279_259.out
                                   have hnb97 := NB279_257.out
                                   have hnc97 := NB257_279.out
                                   have ⟨hcz98_0, hcz98_1, hfz98_0, hfz98_1⟩ := G.d2 (w := w91) BK279
                                   go_wp2_with (first | (((with_reducible refine G.h 125 rfl ?_); refine mAsked 125 (g := gb259) (l := x260000_7) (x0 := t277) (x1 := t278) (b := false) (mFar (mFar BK259.out NB259_279.out _) NB259_279.out _) (Bool.eq_false_iff.mpr c76) ?_)) | ((at_mapUpdate; refine mTake (g := gb259) (l := x260000_7) (x0 := t277) (x1 := t278) (mFar (mFar BK259.out NB259_279.out _) NB259_279.out _) (Bool.eq_false_iff.mpr c76) ?_; intro w_m hm_ hgm_; have n0 := G.m (Kd.R_mono (Kd.R_grown (Kd.R_far (p := ⟨gb279, 1, none⟩) (Kd.R_far (p := ⟨gb279, 0, none⟩) (mTypes (Kd.R_types HO_6.out BK279.out (by decide)) BK259.out) (fun _ hk => hk.1.2) (.int .i64 t277)) (fun _ hk => hk.1.2) (.int .i64 t278)) hgm_ (fun k_ hk e_ => hk.2 (Option.some.inj e_))) (fun _ _ => trivial)); have n1 := G.m (blk_grown (blk_far (blk_far BK257.out NB257_279.out _) NB257_279.out _) hgm_ (fun e_ => NB257_259.out (Option.some.inj e_))); have n2 := G.m hm_; have n3 := G.m (mBelow (G.cB HB.out) hgm_ GE259.out); clear HO_6 BK257 BK259 HB; revert n0 n1 n2 n3; intro HO_6 BK257 BK259 HB; clear hm_ hgm_)))
                                   go_roundg k7
                                   case measure => have := HJ3.out; have := HK2.out; have := HJ22.out; have := HJ33.out; have := HJ42.out; have := HK6.out; have := HK7.out; omega
                                   case rel => exact ⟨(wrap64 (x14_7 + 1)), (x260000_7 ++ [⟨t277, t278⟩]), (ce_9), H', ⟨by have := HJ3.out; have := HK2.out; have := HJ22.out; have := HJ33.out; have := HJ42.out; have := HK6.out; have := HK7.out; omega⟩, ⟨G.cR HO_6.out⟩, ⟨G.cb BK257.out⟩, ⟨G.cb BK259.out⟩, ⟨G.cB HB.out⟩⟩
                                 ·rw [if_neg c74] at H
                                  exact absurd H (by simp)
                                ·rw [if_neg c73] at H
                                 exact absurd H (by simp)
                               ·rw [if_neg c72] at H
                                exact absurd H (by simp)
                              ·rw [if_neg c70] at H
                               have c70b0 : decide (x14_7 < ((rd_L2 l1 x32_2).length : Int)) = false := decide_eq_false c70
                               clear c70
                               have H' := G.m H
                               clear H
                               go_wp2
                               go_loopg [130] k7 (fun kq v130 w' => ∃ (x6_8 : List Bool) (x130_8 : Int), v130 = .int .i64 x130_8 ∧ Aside0 (earOkW.l3 kq l2 x6_8 l1 (l1.length : Int) x32_2 (rd_L2 l1 x32_2) ((rd_L2 l1 x32_2).length : Int) x130_8 a0_0 l0_1 x260000_7 0 = some r) ∧ Aside0 (kq ≤ k7) ∧ Aside0 (Kd.R Kd.bool 4 w' w.heap.size (fun _ => True) v261 x6_8) ∧ Aside0 (w'.heap[gb257]? = some (.cells #[.int .i64 a0_0, (.slice A0_1 l0_1.length c0_1)] 31 (0, 0))) ∧ Aside0 (w'.heap[gb259]? = some (mObj x260000_7)) ∧ Aside0 (Below w.heap.size w w'))
                               case atStart => exact ⟨(x6_2), (0), (ce_9), H', ⟨Nat.le_refl _⟩, ⟨G.cR HO_6.out⟩, ⟨G.cb BK257.out⟩, ⟨G.cb BK259.out⟩, ⟨G.cB HB.out⟩⟩
                               case round =>
                                clear H'
                                (try clear c70b0)
                                obtain ⟨x6_8, x130_8, rfl, HA, HK8, HO_6, BK257, BK259, HB⟩ := hrel
                                cases gk with
                                | zero => exact absurd HA.out (by simp [earOkW.l3])
                                | succ k8 =>
                                 have H := HA.out
                                 clear HA
                                 simp only [earOkW.l3] at H
                                 by_cases c99 : x130_8 < ((rd_L2 l1 x32_2).length : Int)
                                 ·rw [if_pos c99] at H
                                  have c99b0 : decide (x130_8 < ((rd_L2 l1 x32_2).length : Int)) = true := decide_eq_true c99
                                  clear c99
                                  by_cases c100 : 0 ≤ x130_8
                                  ·rw [if_pos c100] at H
                                   have c100b0 : decide (0 ≤ x130_8) = true := decide_eq_true c100
                                   clear c100
                                   by_cases c101 : x130_8 < ((rd_L2 l1 x32_2).length : Int)
                                   ·rw [if_pos c101] at H
                                    have c101b0 : decide (x130_8 < ((rd_L2 l1 x32_2).length : Int)) = true := decide_eq_true c101
                                    clear c101
                                    by_cases c102 : 0 ≤ (rd (rd_L2 l1 x32_2) x130_8)
                                    ·rw [if_pos c102] at H
                                     have c102b0 : decide (0 ≤ (rd (rd_L2 l1 x32_2) x130_8)) = true := decide_eq_true c102
                                     clear c102
                                     by_cases c103 : (rd (rd_L2 l1 x32_2) x130_8) < (x6_8.length : Int)
                                     ·rw [if_pos c103] at H
                                      have c103b0 : decide ((rd (rd_L2 l1 x32_2) x130_8) < (x6_8.length : Int)) = true := decide_eq_true c103
                                      clear c103
                                      obtain ⟨y281, hy281⟩ : ∃ y_ : List Bool, y_ = (x6_8.set ((rd (rd_L2 l1 x32_2) x130_8) : Int).toNat true) := ⟨_, rfl⟩
                                      replace H : (earOkW.l3 k8 l2 y281 l1 (l1.length : Int) x32_2 (rd_L2 l1 x32_2) ((rd_L2 l1 x32_2).length : Int) (wrap64 (x130_8 + 1)) a0_0 l0_1 x260000_7 0) = some r := by first | (rw [hy281]; with_reducible exact H) | (have H2_ := (Option.bind_some _ _).symm.trans H; rw [hy281]; with_reducible exact H2_) | (have H2_ := (Option.bind_some _ _).symm.trans H; with_reducible exact H2_) | with_reducible exact H | (rw [hy281]; exact H) | exact H
                                      have Ny281 := G.m hy281
                                      clear hy281
                                      have H' := G.m H
                                      clear H
                                      have p280 : 0 ≤ (x130_8 : Int) := of_decide_eq_true (G.asm)
                                      have q280 : x130_8 < ((rd_L2 l1 x32_2).length : Int) := of_decide_eq_true (G.asm)
                                      obtain ⟨ad280, e280, hx280_0⟩ := Kd.at_int HR264_0.out x130_8 p280 q280
                                      obtain rfl : ad266 = ad280 := (by injection e280)
                                      replace hx280_0 := G.hx HB hx280_0
                                      replace p280 := eq_true p280
                                      replace q280 := eq_true q280
                                      have p104 : 0 ≤ ((rd (rd_L2 l1 x32_2) x130_8) : Int) := of_decide_eq_true (G.asm)
                                      have q104 : ((rd (rd_L2 l1 x32_2) x130_8) : Int) < ((x6_8.length : Int) : Int) := of_decide_eq_true (G.asm)
                                      obtain ⟨go104, co104, eo104, gb104, gl104, cl104, HG104⟩ := Kd.R_form HO_6.out (by omega)
                                      (first | cases eo104 | (injection eo104 with ea_ en_ ec_; (first | subst ea_ | (injection ea_ with ea_; subst ea_)); subst ec_; clear en_))
                                      have GB104 := G.m gb104
                                      have GG104 := G.m HG104
                                      clear gb104 gl104 HG104
                                      obtain ⟨hx104_0, hf104_0⟩ := Kd.R_celln false HO_6.out ((rd (rd_L2 l1 x32_2) x130_8) : Int) p104 q104
                                      replace p104 := eq_true p104
                                      replace q104 := eq_true q104
                                      have HP105 := Kd.R_putg HO_6.out ((rd (rd_L2 l1 x32_2) x130_8) : Int) true
                                      go_wp2_with (first | ((with_reducible refine gate_store (t := 4) (p := 136) rfl ?_); refine store_event (t := 4) (p := 136) (v := ?vo_w106) (w1 := (wr.setCell ⟨go104, ((rd (rd_L2 l1 x32_2) x130_8) : Int).toNat, none⟩ (.bool true))) ?hg ?ho ?hn ?hr ?_; (case ho => rfl); (case hg => rfl); (case hn => rfl); (case hr => first | (go_simp; done) | (go_simp; rfl)); intro w106 hw; have hg : wr.grownBy w106 (some go104) := (by rw [hw]; exact HP105.2); have hp_ : Kd.R Kd.bool 4 w106 w.heap.size (fun _ => True) (.slice (some ⟨go104, 0, none⟩) x6_8.length co104) y281 := (by rw [hw, Ny281.out]; exact HP105.1); clear HP105; have n0 := G.m (hp_); have n1 := G.bg BK257 hg (Kd.R_ne HO_6.out BK257.out (by decide)); have n2 := G.bg BK259 hg (mNe HO_6.out BK259.out); have n3 := G.m ((by rw [hw]; exact below_set (HB.out) GB104.out : Below w.heap.size w w106)); clear HO_6 BK257 BK259 HB; revert n0 n1 n2 n3; intro HO_6 BK257 BK259 HB; clear hg hw hp_))
                                      go_roundg k8
                                      case measure => have := HJ3.out; have := HK2.out; have := HJ22.out; have := HJ33.out; have := HJ42.out; have := HK6.out; have := HK7.out; have := HK8.out; omega
                                      case rel => exact ⟨(y281), (wrap64 (x130_8 + 1)), (ce_9), H', ⟨ce_2⟩, ⟨G.cR HO_6.out⟩, ⟨G.cb BK257.out⟩, ⟨G.cb BK259.out⟩, ⟨G.cB HB.out⟩⟩
                                     ·rw [if_neg c103] at H
                                      exact absurd H (by simp)
                                    ·rw [if_neg c102] at H
                                     exact absurd H (by simp)
                                   ·rw [if_neg c101] at H
                                    exact absurd H (by simp)
                                  ·rw [if_neg c100] at H
                                   exact absurd H (by simp)
                                 ·rw [if_neg c99] at H
                                  have c99b0 : decide (x130_8 < ((rd_L2 l1 x32_2).length : Int)) = false := decide_eq_false c99
                                  clear c99
                                  have H' := G.m H
                                  clear H
                                  go_wp2
                                  go_roundg k8
                                  case measure => have := HJ3.out; have := HK2.out; have := HJ22.out; have := HJ33.out; have := HJ42.out; have := HK6.out; have := HK7.out; have := HK8.out; omega
                                  case rel => exact ⟨(x6_8), (wrap64 (x32_2 + 1)), (x260000_7), (ce_9), H', ⟨ce_2⟩, ⟨G.cR HO_6.out⟩, ⟨G.cb BK257.out⟩, ⟨G.cb BK259.out⟩, ⟨G.cB HB.out⟩⟩
                        ·replace c60 := Bool.eq_false_iff.mpr c60
                         subst c60
                         have H1 : (some false) = some r := by rw [if_neg (show ¬ (false = true) by decide)] at H; exact H
                         clear H
                         have H := H1
                         clear H1
                         obtain rfl := Option.some.inj H
                         go_wp2_with (first | ((with_reducible refine gate_callee (f := 52) rfl ?_); refine goesL_ (some 94) rfl rfl Try.func52 (ce_11) rfl #[.slice A2 x11_42.length c2] rfl (G.ar) ?_; (with_reducible refine (impl_different.calls kj42 _ _ x11_42 false _ ?side1 ?side2 A59.out).mono ?_); (case side1 => exact G.cC (Kd.C_below HR2.out HB.out)); (case side2 => exact HC2.out); rintro e w' ⟨rfl, ⟨nd, rfl⟩⟩; refine ⟨_, rfl, ?_⟩))
                         go_ret
                         exact ⟨ce_0, G.cB HB.out⟩
                     ·rw [if_neg c42] at H
                      exact absurd H (by simp)
                    ·rw [if_neg c41] at H
                     exact absurd H (by simp)
                ·rw [if_neg c33] at H
                 exact absurd H (by simp)
               ·rw [if_neg c32] at H
                exact absurd H (by simp)
              ·rw [if_neg c30] at H
               exact absurd H (by simp)
          ·rw [if_neg c22] at H
           exact absurd H (by simp)
         ·rw [if_neg c21] at H
          exact absurd H (by simp)
        ·rw [if_neg c20] at H
         have c20b0 : decide (x32_2 < (l1.length : Int)) = false := decide_eq_false c20
         clear c20
         by_cases c107 : (x260000_2.length : Int) = (l0_1.length : Int)
         ·rw [if_pos c107] at H
          have c107b0 : ((x260000_2.length : Int) == (l0_1.length : Int)) = true := beq_iff_eq.mpr c107
          have c107b1 : ((x260000_2.length : Int) != (l0_1.length : Int)) = false := bne_eq_false_iff_eq.mpr c107
          clear c107
          obtain ⟨t263, A108, H⟩ := G.bi H
          replace H : (some (!t263)) = some r := H
          obtain rfl := Option.some.inj H
          have hnb109 := NB259_257.out
          have hnc109 := NB257_259.out
          have ⟨hcz111_0, hcz111_1, hfz111_0, hfz111_1⟩ := G.d2 (w := wr) BK257
          obtain ⟨Ao112, co112, eo112⟩ := Kd.R_slice HO_6.out
          subst eo112
          go_wp2_with (first | ((with_reducible refine G.h 140 rfl ?_); refine mSize 140 (g := gb259) (l := x260000_2) BK259.out ?_) | (go_at_call 54; (with_reducible refine (slices_Contains_bool_bool.calls k2 _ _ x6_2 false t263 _ ?side1 ?side2 A108.out).mono ?_); (case side1 => exact G.cC (Kd.R_reads' HO_6.out).2.2); (case side2 => exact (Kd.R_reads' HO_6.out).2.1); rintro e w' ⟨rfl, ⟨nd, rfl⟩⟩))
          go_ret
          exact ⟨ce_7, G.cB HB.out⟩
         ·rw [if_neg c107] at H
          have c107b0 : ((x260000_2.length : Int) == (l0_1.length : Int)) = false := beq_eq_false_iff_ne.mpr c107
          have c107b1 : ((x260000_2.length : Int) != (l0_1.length : Int)) = true := bne_iff_ne.mpr c107
          obtain rfl := Option.some.inj H
          have hnb113 := NB259_257.out
          have hnc113 := NB257_259.out
          have ⟨hcz115_0, hcz115_1, hfz115_0, hfz115_1⟩ := G.d2 (w := wr) BK257
          go_wp2_with (first | ((with_reducible refine G.h 140 rfl ?_); refine mSize 140 (g := gb259) (l := x260000_2) BK259.out ?_))
          go_ret
          exact ⟨ce_7, G.cB HB.out⟩
     ·rw [if_neg c14] at H
      exact absurd H (by simp)
    ·rw [if_neg c13] at H
     exact absurd H (by simp)

end Go.Proofs.Ytgeonpciodepgaa.P
