-- Printed by a program of this session (mp.py, over the kit's print). Not trusted: Lean checks it.
import Derived.Test.YtbkdpnfjcnkoeaaF0
import Derived.Test.YtbkdpnfjcnkoeaaF10
import Derived.Test.YtbkdpnfjcnkoeaaF11
namespace Go.Proofs.Ytbkdpnfjcnkoeaa.P
open Go.RowKit Go.Proofs.YtbkdpnfjcnkoeaaW.PrintWords Go.Proofs.YtbkdpnfjcnkoeaaW.PrintLast Go.Proofs.YtbkdpnfjcnkoeaaW.PrintMore
attribute [local go_sem] max2_int min2_int max_two min_two max_three min_three max_four min_four   -- for this text's walks alone
set_option linter.unusedVariables false
set_option linter.unusedSimpArgs false

theorem c12_0 {p : Prop} (h : p := by (with_reducible repeat (first | refine blk_drewN ?_ _ | refine blk_drew ?_ | refine blk_alloc ?_ _)); refine blk_far ?_ NB519_522.out _; (with_reducible repeat (first | refine blk_drewN ?_ _ | refine blk_drew ?_ | refine blk_alloc ?_ _)); refine blk_far ?_ NB519_522.out _; (with_reducible repeat (first | refine blk_drewN ?_ _ | refine blk_drew ?_ | refine blk_alloc ?_ _)); exact BK519.out) : p := h
theorem c12_1 {p : Prop} (h : p := by rw [hg]; exact Nat.ne_of_lt (blk_lt (g := gb522) (o := .cells #[.int .i64 x523000_2, .slice Ao61 x523001_2.length co61] 29 (0, 0)) (G.cb BK522.out))) : p := h
theorem c12_2 {p : Prop} (h : p := by rw [hg]; exact Nat.ne_of_gt (blk_lt (g := gb522) (o := .cells #[.int .i64 x523000_2, .slice Ao61 x523001_2.length co61] 29 (0, 0)) (G.cb BK522.out))) : p := h
theorem c12_3 {p : Prop} (h : p := by rw [hg]; exact Nat.ne_of_lt (blk_lt (g := gb522) (o := .cells #[.int .i64 x523000_2, .slice Ao78 x523001_2.length co78] 29 (0, 0)) (G.cb BK522.out))) : p := h
theorem c12_4 {p : Prop} (h : p := by rw [hg]; exact Nat.ne_of_gt (blk_lt (g := gb522) (o := .cells #[.int .i64 x523000_2, .slice Ao78 x523001_2.length co78] 29 (0, 0)) (G.cb BK522.out))) : p := h
theorem c12_5 {p : Prop} (h : p := by first | exact Kd.R_nil _ _ _ _ _ | exact Kd.N_nil _ _ _ _ _ | exact Kd.V_nil _ _ _ _ _ | exact Kd.Q_nil _ _ _ _ _ | exact Kd.S_nil _ _ _ _ _) : p := h
theorem c12_6 {p : Prop} (h : p := by (with_reducible repeat (first | apply Kd.R_alloc | apply Kd.R_drewN | apply Kd.R_drew)); exact Kd.R_mono HO_523001.out (fun _ hk => hk.2)) : p := h
theorem c12_7 {p : Prop} (h : p := by (with_reducible repeat (first | apply Kd.R_alloc | apply Kd.R_drewN | apply Kd.R_drew)); exact Kd.R_mono HO546.out (fun _ hk => hk.2)) : p := h
theorem c12_8 {p : Prop} (h : p := by rw [hg]; exact Nat.ne_of_lt (blk_lt (g := gb519) (o := .cells #[.int .i64 0, .slice none 0 0] 29 (0, 0)) (G.cb BK519.out))) : p := h
theorem c12_9 {p : Prop} (h : p := by rw [hg]; exact Nat.ne_of_gt (blk_lt (g := gb519) (o := .cells #[.int .i64 0, .slice none 0 0] 29 (0, 0)) (G.cb BK519.out))) : p := h
theorem c12_10 {p : Prop} (h : p := by rw [hg]; exact Nat.ne_of_lt (IsS83.lt (show IsS83 w0 _ g s0_0 t542 from cI12))) : p := h
theorem c12_11 {p : Prop} (h : p := by rw [hg]; exact Nat.ne_of_gt (IsS83.lt (show IsS83 w0 _ g s0_0 t542 from cI12))) : p := h
theorem c12_12 {p : Prop} (h : p := by rw [hg]; exact (keep_size (w := w) (g := g) (row := none) (G.cK HK.out))) : p := h
theorem c12_13 {p : Prop} (h : p := by first | rfl | (simp; done) | (simp [*]; done)) : p := h
theorem c12_14 {p : Prop} (h : p := by kernel_rfl) : p := h
theorem c12_15 {p : Prop} (h : p := by decide) : p := h
theorem cI12 {p : Prop} (h : p := by repeat (first | (with_reducible first | exact HI0.out | apply IsS83.alloc | apply IsS83.drewN | apply IsS83.drew | apply IsS83.set_1) | (with_reducible refine IsS83.far ?_ (Aside0.out (by assumption)) _) | exact HI0.out)) : p := h
theorem cBs12 {B : Nat} {w w1 w2 : World} (H : Below B w w1) (h : Below B w w2 := by repeat (first | (with_reducible first | exact HB.out | apply below_alloc | apply pw_below_drewN | apply below_drew1) | (with_reducible refine below_set ?_ (Aside0.out (by assumption))) | (with_reducible refine below_set ?_ (IsS83.ge HI0.out)) | exact HB.out)) : Below B w w2 := h
/-! ### spec_l71Net: function 77 -/
mutual
def spec_l71Net.j2 : Nat → List Int → Int → Int → List (S63) → Option (Int × (List (S63)) × Int)
 | 0, _, _, _, _ => none
 | k + 1, x1000, x1001, x523000, x523001 => (spec_l6Rd_pick.f k x1000 x1001 13).bind fun bt537 => (spec_l71Net.l2 k bt537.1 x1000 bt537.2 x523000 x523001)
def spec_l71Net.l2 : Nat → Int → List Int → Int → Int → List (S63) → Option (Int × (List (S63)) × Int)
 | 0, _, _, _, _, _ => none
 | k + 1, x6, x1000, x1001, x523000, x523001 => if x6 > 0 then (spec_l71Net.j4 k x6 (decide (x523000 > 1)) x1000 x1001 x523000 x523001) else (spec_l71Net.j4 k x6 false x1000 x1001 x523000 x523001)
def spec_l71Net.j4 : Nat → Int → Bool → List Int → Int → Int → List (S63) → Option (Int × (List (S63)) × Int)
 | 0, _, _, _, _, _, _ => none
 | k + 1, x6, x64, x1000, x1001, x523000, x523001 => if x64 = true then ((spec_l6Rd_pick.f k x1000 x1001 x523000).bind fun bt539 => ((spec_l6Rd_pick.f k x1000 bt539.2 x523000).bind fun bt541 => ((spec_NetAdd.f k x523000 x523001 bt539.1 bt541.1).bind fun bt543 => (if bt543.2.2 = true then (spec_l71Net.l2 k (wrap64 (x6 - 1)) x1000 bt541.2 bt543.1 bt543.2.1) else (spec_l71Net.l2 k (wrap64 (x6 - 1)) x1000 bt541.2 x523000 x523001))))) else (some (x523000, x523001, x1001))
def spec_l71Net.l0 : Nat → Int → List Int → Int → Int → List (S63) → Option (Int × (List (S63)) × Int)
 | 0, _, _, _, _, _ => none
 | k + 1, x4, x1000, x1001, x523000, x523001 => if x4 < x523000 then ((spec_l6Rd_pick.f k x1000 x1001 x4).bind fun bt525 => ((spec_NetAdd.f k x523000 x523001 x4 bt525.1).bind fun bt527 => (spec_l71Net.l0 k (wrap64 (x4 + 1)) x1000 bt525.2 bt527.1 bt527.2.1))) else (spec_l71Net.j2 k x1000 x1001 x523000 x523001)
def spec_l71Net.l1 : Nat → Int → List Int → Int → Int → List (S63) → Option (Int × (List (S63)) × Int)
 | 0, _, _, _, _, _ => none
 | k + 1, x5, x1000, x1001, x523000, x523001 => if x5 < x523000 then (if x523000 > 2 then (if x523000 = 0 then (none) else ((spec_NetAdd.f k x523000 x523001 x5 (Int.tmod (wrap64 (x5 + 1)) x523000)).bind fun bt532 => (spec_l71Net.l1 k (wrap64 (x5 + 1)) x1000 x1001 bt532.1 bt532.2.1))) else (spec_l71Net.j2 k x1000 x1001 x523000 x523001)) else (spec_l71Net.j2 k x1000 x1001 x523000 x523001)
end
def spec_l71Net.f (k : Nat) (s0_0 : List Int) (s0_1 : Int) : Option (Int × (List (S63)) × Int) := (spec_l6Rd_pick.f k s0_0 s0_1 8).bind fun bt520 => ((spec_l6Rd_pick.f k s0_0 bt520.2 6).bind fun bt523 => (if bt523.1 = 0 then (spec_l71Net.l0 k 1 s0_0 bt523.2 (wrap64 (1 + bt520.1)) ([] : List (S63))) else (if bt523.1 = 1 then (spec_l71Net.l1 k 0 s0_0 bt523.2 (wrap64 (1 + bt520.1)) ([] : List (S63))) else (spec_l71Net.j2 k s0_0 bt523.2 (wrap64 (1 + bt520.1)) ([] : List (S63))))))
theorem spec_l71Net.mono_l : ∀ k, (∀ y0 y1 y2 y3, LeO (spec_l71Net.j2 k y0 y1 y2 y3) (spec_l71Net.j2 (k + 1) y0 y1 y2 y3)) ∧ (∀ y0 y1 y2 y3 y4, LeO (spec_l71Net.l2 k y0 y1 y2 y3 y4) (spec_l71Net.l2 (k + 1) y0 y1 y2 y3 y4)) ∧ (∀ y0 y1 y2 y3 y4 y5, LeO (spec_l71Net.j4 k y0 y1 y2 y3 y4 y5) (spec_l71Net.j4 (k + 1) y0 y1 y2 y3 y4 y5)) ∧ (∀ y0 y1 y2 y3 y4, LeO (spec_l71Net.l0 k y0 y1 y2 y3 y4) (spec_l71Net.l0 (k + 1) y0 y1 y2 y3 y4)) ∧ (∀ y0 y1 y2 y3 y4, LeO (spec_l71Net.l1 k y0 y1 y2 y3 y4) (spec_l71Net.l1 (k + 1) y0 y1 y2 y3 y4))
 | 0 => ⟨fun _ _ _ _ r h => by simp [spec_l71Net.j2] at h, fun _ _ _ _ _ r h => by simp [spec_l71Net.l2] at h, fun _ _ _ _ _ _ r h => by simp [spec_l71Net.j4] at h, fun _ _ _ _ _ r h => by simp [spec_l71Net.l0] at h, fun _ _ _ _ _ r h => by simp [spec_l71Net.l1] at h⟩
 | k + 1 => by
  obtain ⟨ih0, ih1, ih2, ih3, ih4⟩ := spec_l71Net.mono_l k
  refine ⟨?_, ?_, ?_, ?_, ?_⟩
  ·intro y0 y1 y2 y3
   unfold spec_l71Net.j2
   repeat' first
   | (with_reducible exact ih0 _ _ _ _)
   | (with_reducible exact ih1 _ _ _ _ _)
   | (with_reducible exact ih2 _ _ _ _ _ _)
   | (with_reducible exact ih3 _ _ _ _ _)
   | (with_reducible exact ih4 _ _ _ _ _)
   | (with_reducible exact spec_NetAdd.mono _ _ _ _ _)
   | (with_reducible exact spec_l6Rd_pick.mono _ _ _ _)
   | (with_reducible exact LeO.refl _)
   | (with_reducible exact LeO.none _)
   | (with_reducible refine LeO.ite ?_ ?_)
   | (with_reducible refine LeO.bind ?_ (fun _ => ?_))
   | exact ih0 _ _ _ _
   | exact ih1 _ _ _ _ _
   | exact ih2 _ _ _ _ _ _
   | exact ih3 _ _ _ _ _
   | exact ih4 _ _ _ _ _
   | exact spec_NetAdd.mono _ _ _ _ _
   | exact spec_l6Rd_pick.mono _ _ _ _
   | exact LeO.none _
   | refine LeO.ite ?_ ?_
   | refine LeO.bind ?_ (fun _ => ?_)
  ·intro y0 y1 y2 y3 y4
   unfold spec_l71Net.l2
   repeat' first
   | (with_reducible exact ih0 _ _ _ _)
   | (with_reducible exact ih1 _ _ _ _ _)
   | (with_reducible exact ih2 _ _ _ _ _ _)
   | (with_reducible exact ih3 _ _ _ _ _)
   | (with_reducible exact ih4 _ _ _ _ _)
   | (with_reducible exact spec_NetAdd.mono _ _ _ _ _)
   | (with_reducible exact spec_l6Rd_pick.mono _ _ _ _)
   | (with_reducible exact LeO.refl _)
   | (with_reducible exact LeO.none _)
   | (with_reducible refine LeO.ite ?_ ?_)
   | (with_reducible refine LeO.bind ?_ (fun _ => ?_))
   | exact ih0 _ _ _ _
   | exact ih1 _ _ _ _ _
   | exact ih2 _ _ _ _ _ _
   | exact ih3 _ _ _ _ _
   | exact ih4 _ _ _ _ _
   | exact spec_NetAdd.mono _ _ _ _ _
   | exact spec_l6Rd_pick.mono _ _ _ _
   | exact LeO.none _
   | refine LeO.ite ?_ ?_
   | refine LeO.bind ?_ (fun _ => ?_)
  ·intro y0 y1 y2 y3 y4 y5
   unfold spec_l71Net.j4
   repeat' first
   | (with_reducible exact ih0 _ _ _ _)
   | (with_reducible exact ih1 _ _ _ _ _)
   | (with_reducible exact ih2 _ _ _ _ _ _)
   | (with_reducible exact ih3 _ _ _ _ _)
   | (with_reducible exact ih4 _ _ _ _ _)
   | (with_reducible exact spec_NetAdd.mono _ _ _ _ _)
   | (with_reducible exact spec_l6Rd_pick.mono _ _ _ _)
   | (with_reducible exact LeO.refl _)
   | (with_reducible exact LeO.none _)
   | (with_reducible refine LeO.ite ?_ ?_)
   | (with_reducible refine LeO.bind ?_ (fun _ => ?_))
   | exact ih0 _ _ _ _
   | exact ih1 _ _ _ _ _
   | exact ih2 _ _ _ _ _ _
   | exact ih3 _ _ _ _ _
   | exact ih4 _ _ _ _ _
   | exact spec_NetAdd.mono _ _ _ _ _
   | exact spec_l6Rd_pick.mono _ _ _ _
   | exact LeO.none _
   | refine LeO.ite ?_ ?_
   | refine LeO.bind ?_ (fun _ => ?_)
  ·intro y0 y1 y2 y3 y4
   unfold spec_l71Net.l0
   repeat' first
   | (with_reducible exact ih0 _ _ _ _)
   | (with_reducible exact ih1 _ _ _ _ _)
   | (with_reducible exact ih2 _ _ _ _ _ _)
   | (with_reducible exact ih3 _ _ _ _ _)
   | (with_reducible exact ih4 _ _ _ _ _)
   | (with_reducible exact spec_NetAdd.mono _ _ _ _ _)
   | (with_reducible exact spec_l6Rd_pick.mono _ _ _ _)
   | (with_reducible exact LeO.refl _)
   | (with_reducible exact LeO.none _)
   | (with_reducible refine LeO.ite ?_ ?_)
   | (with_reducible refine LeO.bind ?_ (fun _ => ?_))
   | exact ih0 _ _ _ _
   | exact ih1 _ _ _ _ _
   | exact ih2 _ _ _ _ _ _
   | exact ih3 _ _ _ _ _
   | exact ih4 _ _ _ _ _
   | exact spec_NetAdd.mono _ _ _ _ _
   | exact spec_l6Rd_pick.mono _ _ _ _
   | exact LeO.none _
   | refine LeO.ite ?_ ?_
   | refine LeO.bind ?_ (fun _ => ?_)
  ·intro y0 y1 y2 y3 y4
   unfold spec_l71Net.l1
   repeat' first
   | (with_reducible exact ih0 _ _ _ _)
   | (with_reducible exact ih1 _ _ _ _ _)
   | (with_reducible exact ih2 _ _ _ _ _ _)
   | (with_reducible exact ih3 _ _ _ _ _)
   | (with_reducible exact ih4 _ _ _ _ _)
   | (with_reducible exact spec_NetAdd.mono _ _ _ _ _)
   | (with_reducible exact spec_l6Rd_pick.mono _ _ _ _)
   | (with_reducible exact LeO.refl _)
   | (with_reducible exact LeO.none _)
   | (with_reducible refine LeO.ite ?_ ?_)
   | (with_reducible refine LeO.bind ?_ (fun _ => ?_))
   | exact ih0 _ _ _ _
   | exact ih1 _ _ _ _ _
   | exact ih2 _ _ _ _ _ _
   | exact ih3 _ _ _ _ _
   | exact ih4 _ _ _ _ _
   | exact spec_NetAdd.mono _ _ _ _ _
   | exact spec_l6Rd_pick.mono _ _ _ _
   | exact LeO.none _
   | refine LeO.ite ?_ ?_
   | refine LeO.bind ?_ (fun _ => ?_)
theorem spec_l71Net.mono : ∀ a0 a1 k, LeO (spec_l71Net.f k a0 a1) (spec_l71Net.f (k + 1) a0 a1) := by
 intro a0 a1 k
 obtain ⟨ih0, ih1, ih2, ih3, ih4⟩ := spec_l71Net.mono_l k
 unfold spec_l71Net.f
 repeat' first
   | (with_reducible exact ih0 _ _ _ _)
   | (with_reducible exact ih1 _ _ _ _ _)
   | (with_reducible exact ih2 _ _ _ _ _ _)
   | (with_reducible exact ih3 _ _ _ _ _)
   | (with_reducible exact ih4 _ _ _ _ _)
   | (with_reducible exact spec_NetAdd.mono _ _ _ _ _)
   | (with_reducible exact spec_l6Rd_pick.mono _ _ _ _)
   | (with_reducible exact LeO.refl _)
   | (with_reducible exact LeO.none _)
   | (with_reducible refine LeO.ite ?_ ?_)
   | (with_reducible refine LeO.bind ?_ (fun _ => ?_))
   | exact ih0 _ _ _ _
   | exact ih1 _ _ _ _ _
   | exact ih2 _ _ _ _ _ _
   | exact ih3 _ _ _ _ _
   | exact ih4 _ _ _ _ _
   | exact spec_NetAdd.mono _ _ _ _ _
   | exact spec_l6Rd_pick.mono _ _ _ _
   | exact LeO.none _
   | refine LeO.ite ?_ ?_
   | refine LeO.bind ?_ (fun _ => ?_)
def spec_l71Net.T7 : Bool × List (List Nat × List Nat) := (true, [([], []), ([], []), ([], []), ([], []), ([2, 3], [2, 3]), ([0, 1, 4, 4], [0, 1, 4]), ([5], [5]), ([6], [6]), ([6], [6]), ([7, 5, 0, 1, 2, 3, 4, 5, 6, 7], [7])])
def spec_l71Net.B7 : List Nat := [0, 0, 0, 0, 12, 31, 63, 127, 127, 255]
theorem spec_l71Net.tab7 : rtab .any (opsOf Try.f77 7) = spec_l71Net.T7 := by kernel_rfl
theorem spec_l71Net.bits7 : waitsOk spec_l71Net.T7.2 spec_l71Net.B7 = true := by kernel_rfl
def spec_l71Net.T12 : Bool × List (List Nat × List Nat) := (true, [([], []), ([], []), ([], []), ([2], [2]), ([], []), ([4], [4]), ([3, 5], [3, 5]), ([0, 1, 6], [0, 1, 6]), ([7], [7]), ([8], [8]), ([8], [8]), ([9, 7, 0, 1, 2, 3, 4, 5, 6, 7, 8, 9], [9])])
def spec_l71Net.B12 : List Nat := [0, 0, 0, 4, 0, 16, 60, 127, 255, 511, 511, 1023]
theorem spec_l71Net.tab12 : rtab .any (opsOf Try.f77 12) = spec_l71Net.T12 := by kernel_rfl
theorem spec_l71Net.bits12 : waitsOk spec_l71Net.T12.2 spec_l71Net.B12 = true := by kernel_rfl
def spec_l71Net.T16 : Bool × List (List Nat × List Nat) := (true, [([], []), ([], []), ([], []), ([2], [2]), ([1, 3], [1, 3]), ([], []), ([], []), ([6], [6]), ([5, 7, 4], [5, 7]), ([0, 4, 8, 8], [0, 4, 8]), ([9], [9]), ([10], [10]), ([10], [10]), ([], []), ([13, 11, 9, 0, 1, 2, 3, 4, 5, 6, 7, 8, 9, 10, 11, 13], [11, 13]), ([12, 14, 0, 1, 2, 3, 4, 5, 6, 7, 8, 9, 10, 11, 12, 13, 14], [12])])
def spec_l71Net.B16 : List Nat := [0, 0, 0, 4, 14, 0, 0, 64, 254, 511, 1023, 2047, 2047, 0, 12287, 32767]
theorem spec_l71Net.tab16 : rtab .any (opsOf Try.f77 16) = spec_l71Net.T16 := by kernel_rfl
theorem spec_l71Net.bits16 : waitsOk spec_l71Net.T16.2 spec_l71Net.B16 = true := by kernel_rfl
set_option maxHeartbeats 8000000 in
set_option maxRecDepth 100000 in
theorem spec_l71Net.calls (k : Nat) (g : Nat) (s0_0 : List Int) (s0_1 : Int) (r1 : Int) (r2 : List (S63)) (r3 : Int) (w0 w : World) (hI : IsS83 w0 w g s0_0 s0_1) (hB : Below w0.heap.size w0 w) (h : spec_l71Net.f k s0_0 s0_1 = some (r1, r2, r3)) :
  Calls Try.prog 77 #[.pointer (some ⟨g, 0, none⟩)] w fun e w' => ∃ v1_ : Value, e = .returned (.agg #[.int .i64 r1, v1_]) ∧ Kd.R k63 63 w' w.heap.size (fun _ => True) v1_ r2 ∧ IsS83 w0 w' g s0_0 r3 ∧ Below w0.heap.size w0 w' ∧ KeepBut w w' g none := by
 have hu29 := Try.underlying29
 have HI0 := Aside0.mk hI
 have HK := Aside0.mk (KeepBut.refl w g none)
 have HL := Aside0.mk hB.size
 clear hI
 have HW0 := Aside0.mk hB.size
 have HB := Aside0.mk hB
 clear hB
 have H : ((spec_l6Rd_pick.f k s0_0 s0_1 8).bind fun bt520 => ((spec_l6Rd_pick.f k s0_0 bt520.2 6).bind fun bt523 => (if bt523.1 = 0 then (spec_l71Net.l0 k 1 s0_0 bt523.2 (wrap64 (1 + bt520.1)) ([] : List (S63))) else (if bt523.1 = 1 then (spec_l71Net.l1 k 0 s0_0 bt523.2 (wrap64 (1 + bt520.1)) ([] : List (S63))) else (spec_l71Net.j2 k s0_0 bt523.2 (wrap64 (1 + bt520.1)) ([] : List (S63))))))) = some (r1, r2, r3) := h
 clear h
 replace H := Option.bind_eq_some_iff.mp H
 obtain ⟨⟨t520, t521⟩, A20, H⟩ := H
 replace H : ((spec_l6Rd_pick.f k s0_0 t521 6).bind fun bt523 => (if bt523.1 = 0 then (spec_l71Net.l0 k 1 s0_0 bt523.2 (wrap64 (1 + t520)) ([] : List (S63))) else (if bt523.1 = 1 then (spec_l71Net.l1 k 0 s0_0 bt523.2 (wrap64 (1 + t520)) ([] : List (S63))) else (spec_l71Net.j2 k s0_0 bt523.2 (wrap64 (1 + t520)) ([] : List (S63)))))) = some (r1, r2, r3) := H
 have A2 := Aside0.mk A20
 clear A20
 replace H := Option.bind_eq_some_iff.mp H
 obtain ⟨⟨t523, t524⟩, A30, H⟩ := H
 replace H : (if t523 = 0 then (spec_l71Net.l0 k 1 s0_0 t524 (wrap64 (1 + t520)) ([] : List (S63))) else (if t523 = 1 then (spec_l71Net.l1 k 0 s0_0 t524 (wrap64 (1 + t520)) ([] : List (S63))) else (spec_l71Net.j2 k s0_0 t524 (wrap64 (1 + t520)) ([] : List (S63))))) = some (r1, r2, r3) := H
 have A3 := Aside0.mk A30
 clear A30
 have HC4 := Aside0.mk H
 clear H
 go_enter Try.func77, Try.ntmps77
 go_upto_block 0 with (first | ((with_reducible refine gate_dst (N := 2) rfl ?_); refine G.be 2 #[.int .i64 0, .slice none 0 0] 29 ?_; intro gb519 hg w5 hbox hb; have n0_ := Aside0.mk (IsS83.below (cI12) hb); have n1_ := Aside0.mk (KeepBut.trans (G.cK HK.out) (KeepBut.of_below hb g none) (.inl rfl)); have n2_ := Aside0.mk (below_step (cBs12 HB.out) hb); have n3_ := Aside0.mk (hbox); have n4_ := Aside0.mk ((c12_12 : w.heap.size ≤ gb519)); have n5_ := Aside0.mk ((Nat.le_trans HW0.out (c12_12 : w.heap.size ≤ gb519) : w0.heap.size ≤ gb519)); have n6_ := Aside0.mk ((by rw [hg]; exact Nat.ne_of_lt (IsS83.lt (show IsS83 w0 _ g s0_0 s0_1 from cI12)) : g ≠ gb519)); have n7_ := Aside0.mk ((by rw [hg]; exact Nat.ne_of_gt (IsS83.lt (show IsS83 w0 _ g s0_0 s0_1 from cI12)) : gb519 ≠ g)); clear HI0 HK HB; revert n0_ n1_ n2_ n3_ n4_ n5_ n6_ n7_; intro HI0 HK HB BK519 GW519 GE519 NB0_519 NB519_0; clear hb hbox hg) | ((with_reducible refine gate_callee (f := 56) rfl ?_); refine goesL_ (some 10) rfl rfl Try.func56 (c12_14) rfl #[.pointer (some ⟨g, 0, none⟩), .int .i64 8] rfl (G.ar) ?_; (with_reducible refine (spec_l6Rd_pick.calls k g s0_0 s0_1 8 t520 t521 w0 _ ?side1 ?side2 A2.out).mono ?_); (case side1 => exact cI12); (case side2 => exact cBs12 HB.out); rintro e w6 ⟨rfl, hi, hb, hk⟩; refine ⟨_, rfl, ?_⟩; have n0_ := Aside0.mk (KeepBut.blk hk (g' := gb519) (o := .cells #[.int .i64 0, .slice none 0 0] 29 (0, 0)) (G.cb BK519.out) NB519_0.out (by simp)); have n1_ := Aside0.mk (KeepBut.trans (G.cK HK.out) hk (.inl rfl)); have n2_ := Aside0.mk (hb); have n3_ := Aside0.mk (hi); clear BK519 HK HB HI0; revert n0_ n1_ n2_ n3_; intro BK519 HK HB HI0; (try clear hb); (try clear hb2); (try clear hk); (try clear hi)) | ((with_reducible refine gate_dst (N := 3) rfl ?_); refine G.be 3 #[.int .i64 0, .slice none 0 0] 29 ?_; intro gb522 hg w7 hbox hb; have n0_ := Aside0.mk (IsS83.below (cI12) hb); have n1_ := Aside0.mk (blk_below (g := gb519) (o := .cells #[.int .i64 0, .slice none 0 0] 29 (0, 0)) (G.cb BK519.out) hb); have n2_ := Aside0.mk (KeepBut.trans (G.cK HK.out) (KeepBut.of_below hb g none) (.inl rfl)); have n3_ := Aside0.mk (below_step (cBs12 HB.out) hb); have n4_ := Aside0.mk (hbox); have n5_ := Aside0.mk ((c12_12 : w.heap.size ≤ gb522)); have n6_ := Aside0.mk ((Nat.le_trans HW0.out (c12_12 : w.heap.size ≤ gb522) : w0.heap.size ≤ gb522)); have n7_ := Aside0.mk ((c12_8 : gb519 ≠ gb522)); have n8_ := Aside0.mk ((c12_9 : gb522 ≠ gb519)); have n9_ := Aside0.mk ((by rw [hg]; exact Nat.ne_of_lt (IsS83.lt (show IsS83 w0 _ g s0_0 t521 from cI12)) : g ≠ gb522)); have n10_ := Aside0.mk ((by rw [hg]; exact Nat.ne_of_gt (IsS83.lt (show IsS83 w0 _ g s0_0 t521 from cI12)) : gb522 ≠ g)); clear HI0 BK519 HK HB; revert n0_ n1_ n2_ n3_ n4_ n5_ n6_ n7_ n8_ n9_ n10_; intro HI0 BK519 HK HB BK522 GW522 GE522 NB519_522 NB522_519 NB0_522 NB522_0; clear hb hbox hg; have hnb8 := NB522_519.out; have hnc8 := NB519_522.out; have hnb9 := NB522_0.out; have hnc9 := NB0_522.out; have hcz10_0 : w7.cell? ⟨gb522, 0, none⟩ = some (.int .i64 0) := (blk_cell BK522.out 0).trans rfl; have hcz10_1 : w7.cell? ⟨gb522, 1, none⟩ = some (.slice none 0 0) := (blk_cell BK522.out 1).trans rfl; have hfz10_0 := blk_frozen BK522.out 0; have hfz10_1 := blk_frozen BK522.out 1) | ((with_reducible refine gate_callee (f := 56) rfl ?_); refine goesL_ (some 14) rfl rfl Try.func56 (c12_14) rfl #[.pointer (some ⟨g, 0, none⟩), .int .i64 6] rfl (G.ar) ?_; (with_reducible refine (spec_l6Rd_pick.calls k g s0_0 t521 6 t523 t524 w0 _ ?side1 ?side2 A3.out).mono ?_); (case side1 => exact cI12); (case side2 => exact cBs12 HB.out); rintro e w11 ⟨rfl, hi, hb, hk⟩; refine ⟨_, rfl, ?_⟩; have n0_ := Aside0.mk (KeepBut.blk hk (g' := gb519) (o := .cells #[.int .i64 0, .slice none 0 0] 29 (0, 0)) (c12_0) NB519_0.out (by simp)); have n1_ := Aside0.mk (KeepBut.blk hk (g' := gb522) (o := .cells #[.int .i64 (wrap64 (1 + t520)), .slice none 0 0] 29 (0, 0)) (by (with_reducible repeat (first | refine blk_drewN ?_ _ | refine blk_drew ?_ | refine blk_alloc ?_ _)); refine blk_put (cs := #[.int .i64 (wrap64 (1 + t520)), .slice none 0 0]) ?_ 1 _ rfl; (with_reducible repeat (first | refine blk_drewN ?_ _ | refine blk_drew ?_ | refine blk_alloc ?_ _)); refine blk_put (cs := #[.int .i64 0, .slice none 0 0]) ?_ 0 _ rfl; (with_reducible repeat (first | refine blk_drewN ?_ _ | refine blk_drew ?_ | refine blk_alloc ?_ _)); exact BK522.out) NB522_0.out (by simp)); have n2_ := Aside0.mk (KeepBut.trans (G.cK HK.out) hk (.inl rfl)); have n3_ := Aside0.mk (hb); have n4_ := Aside0.mk (hi); clear BK519 BK522 HK HB HI0; revert n0_ n1_ n2_ n3_ n4_; intro BK519 BK522 HK HB HI0; (try clear hb); (try clear hb2); (try clear hk); (try clear hi)))
 (try simp only [Act.put, List.setIfInBounds_toArray, List.set_cons_zero, List.set_cons_succ])
 go_cut [] (fun wc => ∃ (kq : Nat) (x1001_3 : Int) (x523000_3 : Int) (x523001_3 : List (S63)) (u523001 : Value), Aside0 (spec_l71Net.j2 kq s0_0 x1001_3 x523000_3 x523001_3 = some (r1, r2, r3)) ∧ Aside0 (kq ≤ k) ∧ Aside0 (Kd.R k63 63 wc w.heap.size (fun _ => True) u523001 x523001_3) ∧ Aside0 (wc.heap[gb519]? = some (.cells #[.int .i64 0, (.slice none 0 0)] 29 (0, 0))) ∧ Aside0 (wc.heap[gb522]? = some (.cells #[.int .i64 x523000_3, u523001] 29 (0, 0))) ∧ Aside0 (IsS83 w0 wc g s0_0 x1001_3) ∧ Aside0 (KeepBut w wc g none) ∧ Aside0 (Below w0.heap.size w0 wc))
 case first =>
  have H := HC4.out
  clear HC4
  by_cases c12 : t523 = 0
  ·rw [if_pos c12] at H
   have c12b0 : (t523 == 0) = true := beq_iff_eq.mpr c12
   have c12b1 : (t523 != 0) = false := bne_eq_false_iff_eq.mpr c12
   clear c12
   (first | rw [c12b0] | (simp only [i64_w, i32_w]; rw [c12b0]) | skip)
   have H' := Aside0.mk H
   clear H
   go_wp2
   go_loopg [4] k (fun kq v4 w' => ∃ (x4_1 : Int) (x1001_1 : Int) (x523000_1 : Int) (x523001_1 : List (S63)) (u523001 : Value), v4 = .int .i64 x4_1 ∧ Aside0 (spec_l71Net.l0 kq x4_1 s0_0 x1001_1 x523000_1 x523001_1 = some (r1, r2, r3)) ∧ Aside0 (kq ≤ k) ∧ Aside0 (Kd.R k63 63 w' w.heap.size (fun _ => True) u523001 x523001_1) ∧ Aside0 (w'.heap[gb519]? = some (.cells #[.int .i64 0, (.slice none 0 0)] 29 (0, 0))) ∧ Aside0 (w'.heap[gb522]? = some (.cells #[.int .i64 x523000_1, u523001] 29 (0, 0))) ∧ Aside0 (IsS83 w0 w' g s0_0 x1001_1) ∧ Aside0 (KeepBut w w' g none) ∧ Aside0 (Below w0.heap.size w0 w'))
   case atStart => exact ⟨(1), (t524), (wrap64 (1 + t520)), (([] : List (S63))), (.slice none 0 0), (c12_13), H', ⟨Nat.le_refl _⟩, ⟨c12_5⟩, ⟨G.cb BK519.out⟩, ⟨G.cb BK522.out⟩, ⟨cI12⟩, ⟨G.cK HK.out⟩, ⟨cBs12 HB.out⟩⟩
   case round =>
    clear H'
    (try clear c1); (try clear p2); (try clear c5); (try clear p6); (try clear c7); (try clear c8); (try clear c9); (try clear c12); (try clear c12b0); (try clear c12b1); (try clear hcz10_0); (try clear hcz10_1); (try clear hfz10_0); (try clear hfz10_1)
    obtain ⟨x4_1, x1001_1, x523000_1, x523001_1, u523001, rfl, HA, HK1, HO_523001, BK519, BK522, HI0, HK, HB⟩ := hrel
    cases gk with
    | zero => exact absurd HA.out (by simp [spec_l71Net.l0])
    | succ k1 =>
     have H := HA.out
     clear HA
     simp only [spec_l71Net.l0] at H
     by_cases c13 : x4_1 < x523000_1
     ·rw [if_pos c13] at H
      have c13b0 : decide (x4_1 < x523000_1) = true := decide_eq_true c13
      clear c13
      replace H := Option.bind_eq_some_iff.mp H
      obtain ⟨⟨t525, t526⟩, A140, H⟩ := H
      replace H : ((spec_NetAdd.f k1 x523000_1 x523001_1 x4_1 t525).bind fun bt527 => (spec_l71Net.l0 k1 (wrap64 (x4_1 + 1)) s0_0 t526 bt527.1 bt527.2.1)) = some (r1, r2, r3) := H
      have A14 := Aside0.mk A140
      clear A140
      replace H := Option.bind_eq_some_iff.mp H
      obtain ⟨⟨t527, t528, t531⟩, A150, H⟩ := H
      replace H : (spec_l71Net.l0 k1 (wrap64 (x4_1 + 1)) s0_0 t526 t527 t528) = some (r1, r2, r3) := H
      have A15 := Aside0.mk A150
      clear A150
      have H' := Aside0.mk H
      clear H
      have hnb16 := NB522_519.out
      have hnc16 := NB519_522.out
      have hnb17 := NB522_0.out
      have hnc17 := NB0_522.out
      have hcz18_0 : wr.cell? ⟨gb522, 0, none⟩ = some (.int .i64 x523000_1) := (blk_cell BK522.out 0).trans rfl
      have hcz18_1 : wr.cell? ⟨gb522, 1, none⟩ = some (u523001) := (blk_cell BK522.out 1).trans rfl
      have hfz18_0 := blk_frozen BK522.out 0
      have hfz18_1 := blk_frozen BK522.out 1
      try go_wp2
      have n0_ := Aside0.mk (Kd.R_drew HO_523001.out)
      have n1_ := Aside0.mk (blk_drew BK519.out)
      have n2_ := Aside0.mk (blk_drew BK522.out)
      have n3_ := Aside0.mk (IsS83.drew HI0.out)
      have n4_ := Aside0.mk (keep_drew HK.out)
      have n5_ := Aside0.mk (below_drew1 HB.out)
      clear HO_523001 BK519 BK522 HI0 HK HB
      revert n0_ n1_ n2_ n3_ n4_ n5_
      intro HO_523001 BK519 BK522 HI0 HK HB
      refine start_ (n := 10) (S := fun w' => w'.cell? ⟨gb522, 0, none⟩ = some (.int .i64 x523000_1) ∧ w'.cell? ⟨gb522, 1, none⟩ = some (u523001)) (ds := [9]) (G.fl 10 0) (c12_14) rfl (c12_14) ⟨(blk_cell BK522.out 0).trans rfl, (blk_cell BK522.out 1).trans rfl⟩ (fun hHeld => ?_); refine with_tabW spec_l71Net.tab7 spec_l71Net.bits7 (fun HT_ HW_ => ?_)
      generalize wr.drew = w19 at HO_523001 BK519 BK522 HI0 HK HB hHeld ⊢
      refine G.pu 1 (some 25) (G.fl 10 2) ?_
      refine G.pu 2 (some 26) (G.fl 10 6) ?_
      refine G.pu 3 (some 27) (G.fl 10 14) ?_
      refine G.ta2 0 (some 24) (G.fl 10 15) ?_
      refine one_ (i := 4) (N := some 28) (G.fl 10 31) rfl rfl (one_of HT_.out (c12_14)) (c12_15) (fun K hK => ?_)
      refine goes_ Try.func56 (c12_14) rfl #[.pointer (some ⟨g, 0, none⟩), .int .i64 x4_1] (by rfl) rfl rfl (G.ar) ?_
      with_reducible refine (spec_l6Rd_pick.calls k1 g s0_0 x1001_1 x4_1 t525 t526 w0 _ ?side1 ?side2 A14.out).mono ?_
      (case side1 => exact cI12)
      (case side2 => exact cBs12 HB.out)
      rintro e w20 ⟨rfl, hi, hb, hk⟩
      refine ⟨_, rfl, ?_⟩
      have n0_ := Aside0.mk (Kd.R_mono (Kd.R_keep (IsS83.apart (show IsS83 w0 _ g s0_0 x1001_1 from cI12) (G.cR HO_523001.out) (c12_15)) hk (fun _ h => h.2)) (fun _ h => h.1))
      have n1_ := Aside0.mk (KeepBut.blk hk (g' := gb519) (o := .cells #[.int .i64 0, .slice none 0 0] 29 (0, 0)) (G.cb BK519.out) NB519_0.out (by simp))
      have n2_ := Aside0.mk (KeepBut.blk hk (g' := gb522) (o := .cells #[.int .i64 x523000_1, u523001] 29 (0, 0)) (G.cb BK522.out) NB522_0.out (by simp))
      have n3_ := Aside0.mk (KeepBut.trans (G.cK HK.out) hk (.inl rfl))
      have n4_ := Aside0.mk (hb)
      have n5_ := Aside0.mk (hi)
      clear HO_523001 BK519 BK522 HK HB HI0
      revert n0_ n1_ n2_ n3_ n4_ n5_
      intro HO_523001 BK519 BK522 HK HB HI0
      (try clear hb)
      (try clear hb2)
      (try clear hk)
      (try clear hi)
      obtain ⟨Ao21, co21, eo21⟩ := Kd.R_slice HO_523001.out
      (first | subst eo21 | (injection eo21 with f1_ f2_ f3_; have f4_ := f1_.symm; have f5_ := f3_.symm; clear f1_ f2_ f3_; subst f4_; subst f5_))
      refine hK.out _ _ ⟨(blk_cell BK522.out 0).trans rfl, (blk_cell BK522.out 1).trans rfl⟩ (fun hHeld => ?_)
      clear hK K
      refine G.no (some 28) ?_
      refine one_ (i := 5) (N := some 29) (G.fl 10 63) rfl rfl (one_of HT_.out (c12_14)) (c12_15) (fun K hK => ?_)
      refine goes_ Try.func72 (c12_14) rfl #[.agg #[.int .i64 x523000_1, .slice Ao21 x523001_1.length co21], .int .i64 x4_1, .int .i64 t525] (by rfl) rfl rfl (G.ar) ?_
      with_reducible refine (spec_NetAdd.calls k1 x523000_1 _ _ x523001_1 x4_1 t525 t527 t528 t531 _ ?side1 ?side2 A15.out).mono ?_
      (case side1 => repeat (first | exact (Kd.R_reads' HO_523001.out).2.2 | (with_reducible refine Kd.C_alloc ?_ _) | (with_reducible refine Kd.C_drewN ?_ _) | (with_reducible refine Kd.C_drew ?_)))
      (case side2 => exact (Kd.R_reads' HO_523001.out).2.1)
      rintro e w22 ⟨v529, rfl, ho0, hb⟩
      refine ⟨_, rfl, ?_⟩
      have n0_ := Aside0.mk (Kd.R_elder' (G.cR HO_523001.out) (Kd.R_base ho0) hb)
      have n1_ := Aside0.mk (Kd.R_lower (Kd.R_new' ho0 (Kd.R_lt (G.cR HO_523001.out))) (keep_size (w := w) (g := g) (row := none) (G.cK HK.out)))
      have n2_ := Aside0.mk (blk_below (g := gb519) (o := .cells #[.int .i64 0, .slice none 0 0] 29 (0, 0)) (G.cb BK519.out) hb)
      have n3_ := Aside0.mk (blk_below (g := gb522) (o := .cells #[.int .i64 x523000_1, .slice Ao21 x523001_1.length co21] 29 (0, 0)) (G.cb BK522.out) hb)
      have n4_ := Aside0.mk (IsS83.below (cI12) hb)
      have n5_ := Aside0.mk (KeepBut.trans (G.cK HK.out) (KeepBut.of_below hb g none) (.inl rfl))
      have n6_ := Aside0.mk (below_step (cBs12 HB.out) hb)
      clear HO_523001 BK519 BK522 HI0 HK HB
      revert n0_ n1_ n2_ n3_ n4_ n5_ n6_
      intro HO_523001 HO530 BK519 BK522 HI0 HK HB
      (try clear hb)
      (try clear hb2)
      (try clear hk)
      (try clear hi)
      (try clear ho0)
      obtain ⟨Ao24, co24, eo24⟩ := Kd.R_slice HO530.out
      (first | subst eo24 | (injection eo24 with f1_ f2_ f3_; have f4_ := f1_.symm; have f5_ := f3_.symm; clear f1_ f2_ f3_; subst f4_; subst f5_))
      refine hK.out _ _ ⟨(blk_cell BK522.out 0).trans rfl, (blk_cell BK522.out 1).trans rfl⟩ (fun hHeld => ?_)
      clear hK K
      refine G.no (some 29) ?_
      refine G.pu 6 (some 23) (G.fl 10 127) ?_
      refine G.pu 7 (some 30) (G.fl 10 255) ?_
      refine G.pu 8 (some 31) (G.fl 10 511) ?_
      refine last_ (i := 9) (N := none) (G.fl 10 1023) rfl rfl (one_of HT_.out (c12_14)) (c12_15) (fun K hK => ?_)
      have hs23 : w22.cell? ⟨gb522, 0, none⟩ = some (.int .i64 x523000_1) := (blk_cell BK522.out 0).trans rfl
      have hfs23 := blk_frozen BK522.out 0
      have hns23_0 := NB519_522.out
      have hms23_0 := NB522_519.out
      have hs25 : w22.cell? ⟨gb522, 1, none⟩ = some (.slice Ao21 x523001_1.length co21) := (blk_cell BK522.out 1).trans rfl
      have hfs25 := blk_frozen BK522.out 1
      have hns25_0 := NB519_522.out
      have hms25_0 := NB522_519.out
      refine skip_ (w1 := ?_) (by rfl) rfl ?_ ?_
      rotate_left
      ·go_simp
       rfl
      refine hK.out _ _ ?_
      clear hK K
      refine done_ (done_of HT_.out (c12_14)) ?_
      try go_wp2
      go_roundg k1
      case measure => have := HK1.out; omega
      case rel => exact ⟨(wrap64 (x4_1 + 1)), (t526), (t527), (t528), (.slice Ao24 t528.length co24), (c12_13), H', ⟨by have := HK1.out; omega⟩, ⟨by (with_reducible repeat (first | apply Kd.R_alloc | apply Kd.R_drewN | apply Kd.R_drew)); exact Kd.R_mono (Kd.R_far (p := ⟨gb522, 1, none⟩) (Kd.R_far (p := ⟨gb522, 0, none⟩) (Kd.R_types HO530.out BK522.out (c12_15)) (fun _ hk => hk.2) (.int .i64 t527)) (fun _ hk => hk.2) (.slice Ao24 t528.length co24)) (fun _ hk => trivial)⟩, ⟨c12_0⟩, ⟨by (with_reducible repeat (first | refine blk_drewN ?_ _ | refine blk_drew ?_ | refine blk_alloc ?_ _)); refine blk_put (cs := #[.int .i64 t527, .slice Ao21 x523001_1.length co21]) ?_ 1 _ rfl; (with_reducible repeat (first | refine blk_drewN ?_ _ | refine blk_drew ?_ | refine blk_alloc ?_ _)); refine blk_put (cs := #[.int .i64 x523000_1, .slice Ao21 x523001_1.length co21]) ?_ 0 _ rfl; (with_reducible repeat (first | refine blk_drewN ?_ _ | refine blk_drew ?_ | refine blk_alloc ?_ _)); exact BK522.out⟩, ⟨cI12⟩, ⟨G.cK HK.out⟩, ⟨cBs12 HB.out⟩⟩
     ·rw [if_neg c13] at H
      have c13b0 : decide (x4_1 < x523000_1) = false := decide_eq_false c13
      clear c13
      have H' := Aside0.mk H
      clear H
      have hnb26 := NB522_519.out
      have hnc26 := NB519_522.out
      have hnb27 := NB522_0.out
      have hnc27 := NB0_522.out
      have hcz28_0 : wr.cell? ⟨gb522, 0, none⟩ = some (.int .i64 x523000_1) := (blk_cell BK522.out 0).trans rfl
      have hcz28_1 : wr.cell? ⟨gb522, 1, none⟩ = some (u523001) := (blk_cell BK522.out 1).trans rfl
      have hfz28_0 := blk_frozen BK522.out 0
      have hfz28_1 := blk_frozen BK522.out 1
      go_wp2
      go_meet
      case rel => exact ⟨_, (x1001_1), (x523000_1), (x523001_1), (u523001), H', ⟨by have := HK1.out; first | omega | exact Nat.le_refl _⟩, ⟨G.cR HO_523001.out⟩, ⟨G.cb BK519.out⟩, ⟨G.cb BK522.out⟩, ⟨cI12⟩, ⟨G.cK HK.out⟩, ⟨cBs12 HB.out⟩⟩
  ·rw [if_neg c12] at H
   have c12b0 : (t523 == 0) = false := beq_eq_false_iff_ne.mpr c12
   have c12b1 : (t523 != 0) = true := bne_iff_ne.mpr c12
   (first | rw [c12b0] | (simp only [i64_w, i32_w]; rw [c12b0]) | skip)
   by_cases c29 : t523 = 1
   ·rw [if_pos c29] at H
    have c29b0 : (t523 == 1) = true := beq_iff_eq.mpr c29
    have c29b1 : (t523 != 1) = false := bne_eq_false_iff_eq.mpr c29
    clear c29
    have H' := Aside0.mk H
    clear H
    go_wp2
    go_loopg [5] k (fun kq v5 w' => ∃ (x5_1 : Int) (x523000_1 : Int) (x523001_1 : List (S63)) (u523001 : Value), v5 = .int .i64 x5_1 ∧ Aside0 (spec_l71Net.l1 kq x5_1 s0_0 t524 x523000_1 x523001_1 = some (r1, r2, r3)) ∧ Aside0 (kq ≤ k) ∧ Aside0 (Kd.R k63 63 w' w.heap.size (fun _ => True) u523001 x523001_1) ∧ Aside0 (w'.heap[gb519]? = some (.cells #[.int .i64 0, (.slice none 0 0)] 29 (0, 0))) ∧ Aside0 (w'.heap[gb522]? = some (.cells #[.int .i64 x523000_1, u523001] 29 (0, 0))) ∧ Aside0 (IsS83 w0 w' g s0_0 t524) ∧ Aside0 (KeepBut w w' g none) ∧ Aside0 (Below w0.heap.size w0 w'))
    case atStart => exact ⟨(0), (wrap64 (1 + t520)), (([] : List (S63))), (.slice none 0 0), (c12_13), H', ⟨Nat.le_refl _⟩, ⟨c12_5⟩, ⟨G.cb BK519.out⟩, ⟨G.cb BK522.out⟩, ⟨cI12⟩, ⟨G.cK HK.out⟩, ⟨cBs12 HB.out⟩⟩
    case round =>
     clear H'
     (try clear c1); (try clear c2); (try clear p2); (try clear c5); (try clear p6); (try clear c7); (try clear c8); (try clear c9); (try clear c12); (try clear c12b0); (try clear c12b1); (try clear c13); (try clear c13b0); (try clear c16); (try clear c17); (try clear c26); (try clear c27); (try clear c29); (try clear c29b0); (try clear c29b1); (try clear hcz10_0); (try clear hcz10_1); (try clear hcz18_0); (try clear hcz18_1); (try clear hcz28_0); (try clear hcz28_1); (try clear hfz10_0); (try clear hfz10_1); (try clear hfz18_0); (try clear hfz18_1); (try clear hfz28_0); (try clear hfz28_1); (try clear p2); (try clear p6)
     obtain ⟨x5_1, x523000_1, x523001_1, u523001, rfl, HA, HK1, HO_523001, BK519, BK522, HI0, HK, HB⟩ := hrel
     cases gk with
     | zero => exact absurd HA.out (by simp [spec_l71Net.l1])
     | succ k1 =>
      have H := HA.out
      clear HA
      simp only [spec_l71Net.l1] at H
      by_cases c30 : x5_1 < x523000_1
      ·rw [if_pos c30] at H
       have c30b0 : decide (x5_1 < x523000_1) = true := decide_eq_true c30
       clear c30
       by_cases c31 : x523000_1 > 2
       ·rw [if_pos c31] at H
        have c31b0 : decide (2 < x523000_1) = true := decide_eq_true c31
        clear c31
        by_cases c32 : x523000_1 = 0
        ·rw [if_pos c32] at H
         exact absurd H (by simp)
        ·rw [if_neg c32] at H
         have c32b0 : (x523000_1 == 0) = false := beq_eq_false_iff_ne.mpr c32
         have c32b1 : (x523000_1 != 0) = true := bne_iff_ne.mpr c32
         replace H := Option.bind_eq_some_iff.mp H
         obtain ⟨⟨t532, t533, t536⟩, A330, H⟩ := H
         replace H : (spec_l71Net.l1 k1 (wrap64 (x5_1 + 1)) s0_0 t524 t532 t533) = some (r1, r2, r3) := H
         have A33 := Aside0.mk A330
         clear A330
         have H' := Aside0.mk H
         clear H
         have hnb34 := NB522_519.out
         have hnc34 := NB519_522.out
         have hnb35 := NB522_0.out
         have hnc35 := NB0_522.out
         have hcz36_0 : wr.cell? ⟨gb522, 0, none⟩ = some (.int .i64 x523000_1) := (blk_cell BK522.out 0).trans rfl
         have hcz36_1 : wr.cell? ⟨gb522, 1, none⟩ = some (u523001) := (blk_cell BK522.out 1).trans rfl
         have hfz36_0 := blk_frozen BK522.out 0
         have hfz36_1 := blk_frozen BK522.out 1
         try go_wp2
         have n0_ := Aside0.mk (Kd.R_drew HO_523001.out)
         have n1_ := Aside0.mk (blk_drew BK519.out)
         have n2_ := Aside0.mk (blk_drew BK522.out)
         have n3_ := Aside0.mk (IsS83.drew HI0.out)
         have n4_ := Aside0.mk (keep_drew HK.out)
         have n5_ := Aside0.mk (below_drew1 HB.out)
         clear HO_523001 BK519 BK522 HI0 HK HB
         revert n0_ n1_ n2_ n3_ n4_ n5_
         intro HO_523001 BK519 BK522 HI0 HK HB
         obtain ⟨Ao38, co38, eo38⟩ := Kd.R_slice HO_523001.out
         (first | subst eo38 | (injection eo38 with f1_ f2_ f3_; have f4_ := f1_.symm; have f5_ := f3_.symm; clear f1_ f2_ f3_; subst f4_; subst f5_))
         refine start_ (n := 12) (S := fun w' => w'.cell? ⟨gb522, 0, none⟩ = some (.int .i64 x523000_1) ∧ w'.cell? ⟨gb522, 1, none⟩ = some (.slice Ao38 x523001_1.length co38)) (ds := [11]) (G.fl 12 0) (c12_14) rfl (c12_14) ⟨(blk_cell BK522.out 0).trans rfl, (blk_cell BK522.out 1).trans rfl⟩ (fun hHeld => ?_); refine with_tabW spec_l71Net.tab12 spec_l71Net.bits12 (fun HT_ HW_ => ?_)
         generalize wr.drew = w37 at HO_523001 BK519 BK522 HI0 HK HB hHeld ⊢
         refine G.pu 1 (some 47) (G.fl 12 2) ?_
         refine G.pu 2 (some 48) (G.fl 12 6) ?_
         refine G.pu 3 (some 49) (G.fl 12 14) ?_
         refine G.pu 4 (some 50) (G.fl 12 30) ?_
         refine G.ta2 0 (some 46) (G.fl 12 31) ?_
         refine G.ta2 5 (some 51) (G.fl 12 63) ?_
         refine G.pu 6 (some 52) (G.fl 12 127) ?_
         refine one_ (i := 7) (N := some 53) (G.fl 12 255) rfl rfl (one_of HT_.out (c12_14)) (c12_15) (fun K hK => ?_)
         refine goes_ Try.func72 (c12_14) rfl #[.agg #[.int .i64 x523000_1, .slice Ao38 x523001_1.length co38], .int .i64 x5_1, .int .i64 (Int.tmod (wrap64 (x5_1 + 1)) x523000_1)] (by rfl) rfl rfl (G.ar) ?_
         with_reducible refine (spec_NetAdd.calls k1 x523000_1 _ _ x523001_1 x5_1 (Int.tmod (wrap64 (x5_1 + 1)) x523000_1) t532 t533 t536 _ ?side1 ?side2 A33.out).mono ?_
         (case side1 => repeat (first | exact (Kd.R_reads' HO_523001.out).2.2 | (with_reducible refine Kd.C_alloc ?_ _) | (with_reducible refine Kd.C_drewN ?_ _) | (with_reducible refine Kd.C_drew ?_)))
         (case side2 => exact (Kd.R_reads' HO_523001.out).2.1)
         rintro e w39 ⟨v534, rfl, ho0, hb⟩
         refine ⟨_, rfl, ?_⟩
         have n0_ := Aside0.mk (Kd.R_elder' (G.cR HO_523001.out) (Kd.R_base ho0) hb)
         have n1_ := Aside0.mk (Kd.R_lower (Kd.R_new' ho0 (Kd.R_lt (G.cR HO_523001.out))) (keep_size (w := w) (g := g) (row := none) (G.cK HK.out)))
         have n2_ := Aside0.mk (blk_below (g := gb519) (o := .cells #[.int .i64 0, .slice none 0 0] 29 (0, 0)) (G.cb BK519.out) hb)
         have n3_ := Aside0.mk (blk_below (g := gb522) (o := .cells #[.int .i64 x523000_1, .slice Ao38 x523001_1.length co38] 29 (0, 0)) (G.cb BK522.out) hb)
         have n4_ := Aside0.mk (IsS83.below (cI12) hb)
         have n5_ := Aside0.mk (KeepBut.trans (G.cK HK.out) (KeepBut.of_below hb g none) (.inl rfl))
         have n6_ := Aside0.mk (below_step (cBs12 HB.out) hb)
         clear HO_523001 BK519 BK522 HI0 HK HB
         revert n0_ n1_ n2_ n3_ n4_ n5_ n6_
         intro HO_523001 HO535 BK519 BK522 HI0 HK HB
         (try clear hb)
         (try clear hb2)
         (try clear hk)
         (try clear hi)
         (try clear ho0)
         obtain ⟨Ao41, co41, eo41⟩ := Kd.R_slice HO535.out
         (first | subst eo41 | (injection eo41 with f1_ f2_ f3_; have f4_ := f1_.symm; have f5_ := f3_.symm; clear f1_ f2_ f3_; subst f4_; subst f5_))
         refine hK.out _ _ ⟨(blk_cell BK522.out 0).trans rfl, (blk_cell BK522.out 1).trans rfl⟩ (fun hHeld => ?_)
         clear hK K
         refine G.no (some 53) ?_
         refine G.pu 8 (some 45) (G.fl 12 511) ?_
         refine G.pu 9 (some 54) (G.fl 12 1023) ?_
         refine G.pu 10 (some 55) (G.fl 12 2047) ?_
         refine last_ (i := 11) (N := none) (G.fl 12 4095) rfl rfl (one_of HT_.out (c12_14)) (c12_15) (fun K hK => ?_)
         have hs40 : w39.cell? ⟨gb522, 0, none⟩ = some (.int .i64 x523000_1) := (blk_cell BK522.out 0).trans rfl
         have hfs40 := blk_frozen BK522.out 0
         have hns40_0 := NB519_522.out
         have hms40_0 := NB522_519.out
         have hs42 : w39.cell? ⟨gb522, 1, none⟩ = some (.slice Ao38 x523001_1.length co38) := (blk_cell BK522.out 1).trans rfl
         have hfs42 := blk_frozen BK522.out 1
         have hns42_0 := NB519_522.out
         have hms42_0 := NB522_519.out
         refine skip_ (w1 := ?_) (by rfl) rfl ?_ ?_
         rotate_left
         ·go_simp
          rfl
         refine hK.out _ _ ?_
         clear hK K
         refine done_ (done_of HT_.out (c12_14)) ?_
         try go_wp2
         go_roundg k1
         case measure => have := HK1.out; omega
         case rel => exact ⟨(wrap64 (x5_1 + 1)), (t532), (t533), (.slice Ao41 t533.length co41), (c12_13), H', ⟨by have := HK1.out; omega⟩, ⟨by (with_reducible repeat (first | apply Kd.R_alloc | apply Kd.R_drewN | apply Kd.R_drew)); exact Kd.R_mono (Kd.R_far (p := ⟨gb522, 1, none⟩) (Kd.R_far (p := ⟨gb522, 0, none⟩) (Kd.R_types HO535.out BK522.out (c12_15)) (fun _ hk => hk.2) (.int .i64 t532)) (fun _ hk => hk.2) (.slice Ao41 t533.length co41)) (fun _ hk => trivial)⟩, ⟨c12_0⟩, ⟨by (with_reducible repeat (first | refine blk_drewN ?_ _ | refine blk_drew ?_ | refine blk_alloc ?_ _)); refine blk_put (cs := #[.int .i64 t532, .slice Ao38 x523001_1.length co38]) ?_ 1 _ rfl; (with_reducible repeat (first | refine blk_drewN ?_ _ | refine blk_drew ?_ | refine blk_alloc ?_ _)); refine blk_put (cs := #[.int .i64 x523000_1, .slice Ao38 x523001_1.length co38]) ?_ 0 _ rfl; (with_reducible repeat (first | refine blk_drewN ?_ _ | refine blk_drew ?_ | refine blk_alloc ?_ _)); exact BK522.out⟩, ⟨cI12⟩, ⟨G.cK HK.out⟩, ⟨cBs12 HB.out⟩⟩
       ·rw [if_neg c31] at H
        have c31b0 : decide (2 < x523000_1) = false := decide_eq_false c31
        clear c31
        have H' := Aside0.mk H
        clear H
        have hnb43 := NB522_519.out
        have hnc43 := NB519_522.out
        have hnb44 := NB522_0.out
        have hnc44 := NB0_522.out
        have hcz45_0 : wr.cell? ⟨gb522, 0, none⟩ = some (.int .i64 x523000_1) := (blk_cell BK522.out 0).trans rfl
        have hcz45_1 : wr.cell? ⟨gb522, 1, none⟩ = some (u523001) := (blk_cell BK522.out 1).trans rfl
        have hfz45_0 := blk_frozen BK522.out 0
        have hfz45_1 := blk_frozen BK522.out 1
        go_wp2
        go_meet
        case rel => exact ⟨_, (t524), (x523000_1), (x523001_1), (u523001), H', ⟨by have := HK1.out; first | omega | exact Nat.le_refl _⟩, ⟨G.cR HO_523001.out⟩, ⟨G.cb BK519.out⟩, ⟨G.cb BK522.out⟩, ⟨cI12⟩, ⟨G.cK HK.out⟩, ⟨cBs12 HB.out⟩⟩
      ·rw [if_neg c30] at H
       have c30b0 : decide (x5_1 < x523000_1) = false := decide_eq_false c30
       clear c30
       have H' := Aside0.mk H
       clear H
       have hnb46 := NB522_519.out
       have hnc46 := NB519_522.out
       have hnb47 := NB522_0.out
       have hnc47 := NB0_522.out
       have hcz48_0 : wr.cell? ⟨gb522, 0, none⟩ = some (.int .i64 x523000_1) := (blk_cell BK522.out 0).trans rfl
       have hcz48_1 : wr.cell? ⟨gb522, 1, none⟩ = some (u523001) := (blk_cell BK522.out 1).trans rfl
       have hfz48_0 := blk_frozen BK522.out 0
       have hfz48_1 := blk_frozen BK522.out 1
       go_wp2
       go_meet
       case rel => exact ⟨_, (t524), (x523000_1), (x523001_1), (u523001), H', ⟨by have := HK1.out; first | omega | exact Nat.le_refl _⟩, ⟨G.cR HO_523001.out⟩, ⟨G.cb BK519.out⟩, ⟨G.cb BK522.out⟩, ⟨cI12⟩, ⟨G.cK HK.out⟩, ⟨cBs12 HB.out⟩⟩
   ·rw [if_neg c29] at H
    have c29b0 : (t523 == 1) = false := beq_eq_false_iff_ne.mpr c29
    have c29b1 : (t523 != 1) = true := bne_iff_ne.mpr c29
    have H' := Aside0.mk H
    clear H
    go_wp2
    go_meet
    case rel => exact ⟨_, (t524), (wrap64 (1 + t520)), (([] : List (S63))), (.slice none 0 0), H', ⟨by first | omega | exact Nat.le_refl _⟩, ⟨c12_5⟩, ⟨G.cb BK519.out⟩, ⟨G.cb BK522.out⟩, ⟨cI12⟩, ⟨G.cK HK.out⟩, ⟨cBs12 HB.out⟩⟩
 case rest =>
  clear HC4
  (try clear c1); (try clear c2); (try clear p2); (try clear c3); (try clear c4); (try clear c5); (try clear p6); (try clear c7); (try clear c8); (try clear c9); (try clear c12); (try clear c12b0); (try clear c12b1); (try clear c13); (try clear c13b0); (try clear c16); (try clear c17); (try clear c26); (try clear c27); (try clear c29); (try clear c29b0); (try clear c29b1); (try clear c30); (try clear c30b0); (try clear c31); (try clear c31b0); (try clear c32); (try clear c32b0); (try clear c32b1); (try clear c34); (try clear c35); (try clear c43); (try clear c44); (try clear c46); (try clear c47); (try clear hcz10_0); (try clear hcz10_1); (try clear hcz18_0); (try clear hcz18_1); (try clear hcz28_0); (try clear hcz28_1); (try clear hcz36_0); (try clear hcz36_1); (try clear hcz45_0); (try clear hcz45_1); (try clear hcz48_0); (try clear hcz48_1); (try clear hfz10_0); (try clear hfz10_1); (try clear hfz18_0); (try clear hfz18_1); (try clear hfz28_0); (try clear hfz28_1); (try clear hfz36_0); (try clear hfz36_1); (try clear hfz45_0); (try clear hfz45_1); (try clear hfz48_0); (try clear hfz48_1); (try clear p2); (try clear p6)
  obtain ⟨kq, x1001_3, x523000_3, x523001_3, u523001, HA, HJ3, HO_523001, BK519, BK522, HI0, HK, HB⟩ := hcut
  cases kq with
  | zero => exact absurd HA.out (by simp [spec_l71Net.j2])
  | succ kj3 =>
   have H := HA.out
   clear HA
   simp only [spec_l71Net.j2] at H
   replace H := Option.bind_eq_some_iff.mp H
   obtain ⟨⟨t537, t538⟩, A490, H⟩ := H
   replace H : (spec_l71Net.l2 kj3 t537 s0_0 t538 x523000_3 x523001_3) = some (r1, r2, r3) := H
   have A49 := Aside0.mk A490
   clear A490
   have H' := Aside0.mk H
   clear H
   go_wp2_with (first | ((with_reducible refine gate_callee (f := 56) rfl ?_); refine goesL_ (some 57) rfl rfl Try.func56 (c12_14) rfl #[.pointer (some ⟨g, 0, none⟩), .int .i64 13] rfl (G.ar) ?_; (with_reducible refine (spec_l6Rd_pick.calls kj3 g s0_0 x1001_3 13 t537 t538 w0 _ ?side1 ?side2 A49.out).mono ?_); (case side1 => exact cI12); (case side2 => exact cBs12 HB.out); rintro e w50 ⟨rfl, hi, hb, hk⟩; refine ⟨_, rfl, ?_⟩; have n0_ := Aside0.mk (Kd.R_mono (Kd.R_keep (IsS83.apart (show IsS83 w0 _ g s0_0 x1001_3 from cI12) (G.cR HO_523001.out) (c12_15)) hk (fun _ h => h.2)) (fun _ h => h.1)); have n1_ := Aside0.mk (KeepBut.blk hk (g' := gb519) (o := .cells #[.int .i64 0, .slice none 0 0] 29 (0, 0)) (G.cb BK519.out) NB519_0.out (by simp)); have n2_ := Aside0.mk (KeepBut.blk hk (g' := gb522) (o := .cells #[.int .i64 x523000_3, u523001] 29 (0, 0)) (G.cb BK522.out) NB522_0.out (by simp)); have n3_ := Aside0.mk (KeepBut.trans (G.cK HK.out) hk (.inl rfl)); have n4_ := Aside0.mk (hb); have n5_ := Aside0.mk (hi); clear HO_523001 BK519 BK522 HK HB HI0; revert n0_ n1_ n2_ n3_ n4_ n5_; intro HO_523001 BK519 BK522 HK HB HI0; (try clear hb); (try clear hb2); (try clear hk); (try clear hi)))
   go_loopg [6] kj3 (fun kq v6 w' => ∃ (x6_2 : Int) (x1001_2 : Int) (x523000_2 : Int) (x523001_2 : List (S63)) (u523001 : Value), v6 = .int .i64 x6_2 ∧ Aside0 (spec_l71Net.l2 kq x6_2 s0_0 x1001_2 x523000_2 x523001_2 = some (r1, r2, r3)) ∧ Aside0 (kq ≤ kj3) ∧ Aside0 (Kd.R k63 63 w' w.heap.size (fun _ => True) u523001 x523001_2) ∧ Aside0 (w'.heap[gb519]? = some (.cells #[.int .i64 0, (.slice none 0 0)] 29 (0, 0))) ∧ Aside0 (w'.heap[gb522]? = some (.cells #[.int .i64 x523000_2, u523001] 29 (0, 0))) ∧ Aside0 (IsS83 w0 w' g s0_0 x1001_2) ∧ Aside0 (KeepBut w w' g none) ∧ Aside0 (Below w0.heap.size w0 w'))
   case atStart => exact ⟨(t537), (t538), (x523000_3), (x523001_3), (u523001), (c12_13), H', ⟨Nat.le_refl _⟩, ⟨G.cR HO_523001.out⟩, ⟨G.cb BK519.out⟩, ⟨G.cb BK522.out⟩, ⟨cI12⟩, ⟨G.cK HK.out⟩, ⟨cBs12 HB.out⟩⟩
   case round =>
    clear H'
    (try clear c1); (try clear c2); (try clear p2); (try clear c3); (try clear c4); (try clear c5); (try clear p6); (try clear c7); (try clear c8); (try clear c9); (try clear c12); (try clear c12b0); (try clear c12b1); (try clear c13); (try clear c13b0); (try clear c16); (try clear c17); (try clear c26); (try clear c27); (try clear c29); (try clear c29b0); (try clear c29b1); (try clear c30); (try clear c30b0); (try clear c31); (try clear c31b0); (try clear c32); (try clear c32b0); (try clear c32b1); (try clear c34); (try clear c35); (try clear c43); (try clear c44); (try clear c46); (try clear c47); (try clear hcz10_0); (try clear hcz10_1); (try clear hcz18_0); (try clear hcz18_1); (try clear hcz28_0); (try clear hcz28_1); (try clear hcz36_0); (try clear hcz36_1); (try clear hcz45_0); (try clear hcz45_1); (try clear hcz48_0); (try clear hcz48_1); (try clear hfz10_0); (try clear hfz10_1); (try clear hfz18_0); (try clear hfz18_1); (try clear hfz28_0); (try clear hfz28_1); (try clear hfz36_0); (try clear hfz36_1); (try clear hfz45_0); (try clear hfz45_1); (try clear hfz48_0); (try clear hfz48_1); (try clear p2); (try clear p6)
    obtain ⟨x6_2, x1001_2, x523000_2, x523001_2, u523001, rfl, HA, HK2, HO_523001, BK519, BK522, HI0, HK, HB⟩ := hrel
    cases gk with
    | zero => exact absurd HA.out (by simp [spec_l71Net.l2])
    | succ k2 =>
     have H := HA.out
     clear HA
     simp only [spec_l71Net.l2] at H
     have HC51 := Aside0.mk H
     clear H
     go_upto_region 14 with (fail)
     go_cut [64] (fun v64 wc => ∃ (kq : Nat) (x64_50 : Bool), v64 = .bool x64_50 ∧ Aside0 (spec_l71Net.j4 kq x6_2 x64_50 s0_0 x1001_2 x523000_2 x523001_2 = some (r1, r2, r3)) ∧ Aside0 (kq ≤ k2) ∧ Aside0 (Kd.R k63 63 wc w.heap.size (fun _ => True) u523001 x523001_2) ∧ Aside0 (wc.heap[gb519]? = some (.cells #[.int .i64 0, (.slice none 0 0)] 29 (0, 0))) ∧ Aside0 (wc.heap[gb522]? = some (.cells #[.int .i64 x523000_2, u523001] 29 (0, 0))) ∧ Aside0 (IsS83 w0 wc g s0_0 x1001_2) ∧ Aside0 (KeepBut w wc g none) ∧ Aside0 (Below w0.heap.size w0 wc))
     case first =>
      have H := HC51.out
      clear HC51
      by_cases c52 : x6_2 > 0
      ·rw [if_pos c52] at H
       have c52b0 : decide (0 < x6_2) = true := decide_eq_true c52
       clear c52
       (first | rw [c52b0] | (simp only [i64_w, i32_w]; rw [c52b0]) | skip)
       have H' := Aside0.mk H
       clear H
       have hnb53 := NB522_519.out
       have hnc53 := NB519_522.out
       have hnb54 := NB522_0.out
       have hnc54 := NB0_522.out
       have hcz55_0 : wr.cell? ⟨gb522, 0, none⟩ = some (.int .i64 x523000_2) := (blk_cell BK522.out 0).trans rfl
       have hcz55_1 : wr.cell? ⟨gb522, 1, none⟩ = some (u523001) := (blk_cell BK522.out 1).trans rfl
       have hfz55_0 := blk_frozen BK522.out 0
       have hfz55_1 := blk_frozen BK522.out 1
       go_wp2
       go_meet
       case rel => exact ⟨_, (decide (x523000_2 > 1)), (c12_13), H', ⟨by have := HJ3.out; have := HK2.out; first | omega | exact Nat.le_refl _⟩, ⟨G.cR HO_523001.out⟩, ⟨G.cb BK519.out⟩, ⟨G.cb BK522.out⟩, ⟨cI12⟩, ⟨G.cK HK.out⟩, ⟨cBs12 HB.out⟩⟩
      ·rw [if_neg c52] at H
       have c52b0 : decide (0 < x6_2) = false := decide_eq_false c52
       clear c52
       (first | rw [c52b0] | (simp only [i64_w, i32_w]; rw [c52b0]) | skip)
       have H' := Aside0.mk H
       clear H
       go_wp2
       go_meet
       case rel => exact ⟨_, (false), (c12_13), H', ⟨by have := HJ3.out; have := HK2.out; first | omega | exact Nat.le_refl _⟩, ⟨G.cR HO_523001.out⟩, ⟨G.cb BK519.out⟩, ⟨G.cb BK522.out⟩, ⟨cI12⟩, ⟨G.cK HK.out⟩, ⟨cBs12 HB.out⟩⟩
     case rest =>
      clear HC51
      (try clear c1); (try clear c2); (try clear p2); (try clear c3); (try clear c4); (try clear c5); (try clear p6); (try clear c7); (try clear c8); (try clear c9); (try clear c12); (try clear c12b0); (try clear c12b1); (try clear c13); (try clear c13b0); (try clear c16); (try clear c17); (try clear c26); (try clear c27); (try clear c29); (try clear c29b0); (try clear c29b1); (try clear c30); (try clear c30b0); (try clear c31); (try clear c31b0); (try clear c32); (try clear c32b0); (try clear c32b1); (try clear c34); (try clear c35); (try clear c43); (try clear c44); (try clear c46); (try clear c47); (try clear c52); (try clear c52b0); (try clear c53); (try clear c54); (try clear hcz10_0); (try clear hcz10_1); (try clear hcz18_0); (try clear hcz18_1); (try clear hcz28_0); (try clear hcz28_1); (try clear hcz36_0); (try clear hcz36_1); (try clear hcz45_0); (try clear hcz45_1); (try clear hcz48_0); (try clear hcz48_1); (try clear hcz55_0); (try clear hcz55_1); (try clear hfz10_0); (try clear hfz10_1); (try clear hfz18_0); (try clear hfz18_1); (try clear hfz28_0); (try clear hfz28_1); (try clear hfz36_0); (try clear hfz36_1); (try clear hfz45_0); (try clear hfz45_1); (try clear hfz48_0); (try clear hfz48_1); (try clear hfz55_0); (try clear hfz55_1); (try clear p2); (try clear p6)
      obtain ⟨kq, x64_50, rfl, HA, HJ50, HO_523001, BK519, BK522, HI0, HK, HB⟩ := hcut
      cases kq with
      | zero => exact absurd HA.out (by simp [spec_l71Net.j4])
      | succ kj50 =>
       have H := HA.out
       clear HA
       simp only [spec_l71Net.j4] at H
       by_cases c56 : x64_50 = true
       ·subst c56
        have H1 : ((spec_l6Rd_pick.f kj50 s0_0 x1001_2 x523000_2).bind fun bt539 => ((spec_l6Rd_pick.f kj50 s0_0 bt539.2 x523000_2).bind fun bt541 => ((spec_NetAdd.f kj50 x523000_2 x523001_2 bt539.1 bt541.1).bind fun bt543 => (if bt543.2.2 = true then (spec_l71Net.l2 kj50 (wrap64 (x6_2 - 1)) s0_0 bt541.2 bt543.1 bt543.2.1) else (spec_l71Net.l2 kj50 (wrap64 (x6_2 - 1)) s0_0 bt541.2 x523000_2 x523001_2))))) = some (r1, r2, r3) := by rw [if_pos rfl] at H; exact H
        clear H
        have H := H1
        clear H1
        replace H := Option.bind_eq_some_iff.mp H
        obtain ⟨⟨t539, t540⟩, A570, H⟩ := H
        replace H : ((spec_l6Rd_pick.f kj50 s0_0 t540 x523000_2).bind fun bt541 => ((spec_NetAdd.f kj50 x523000_2 x523001_2 t539 bt541.1).bind fun bt543 => (if bt543.2.2 = true then (spec_l71Net.l2 kj50 (wrap64 (x6_2 - 1)) s0_0 bt541.2 bt543.1 bt543.2.1) else (spec_l71Net.l2 kj50 (wrap64 (x6_2 - 1)) s0_0 bt541.2 x523000_2 x523001_2)))) = some (r1, r2, r3) := H
        have A57 := Aside0.mk A570
        clear A570
        replace H := Option.bind_eq_some_iff.mp H
        obtain ⟨⟨t541, t542⟩, A580, H⟩ := H
        replace H : ((spec_NetAdd.f kj50 x523000_2 x523001_2 t539 t541).bind fun bt543 => (if bt543.2.2 = true then (spec_l71Net.l2 kj50 (wrap64 (x6_2 - 1)) s0_0 t542 bt543.1 bt543.2.1) else (spec_l71Net.l2 kj50 (wrap64 (x6_2 - 1)) s0_0 t542 x523000_2 x523001_2))) = some (r1, r2, r3) := H
        have A58 := Aside0.mk A580
        clear A580
        replace H := Option.bind_eq_some_iff.mp H
        obtain ⟨⟨t543, t544, t547⟩, A590, H⟩ := H
        replace H : (if t547 = true then (spec_l71Net.l2 kj50 (wrap64 (x6_2 - 1)) s0_0 t542 t543 t544) else (spec_l71Net.l2 kj50 (wrap64 (x6_2 - 1)) s0_0 t542 x523000_2 x523001_2)) = some (r1, r2, r3) := H
        have A59 := Aside0.mk A590
        clear A590
        by_cases c60 : t547 = true
        ·subst c60
         have H1 : (spec_l71Net.l2 kj50 (wrap64 (x6_2 - 1)) s0_0 t542 t543 t544) = some (r1, r2, r3) := by rw [if_pos rfl] at H; exact H
         clear H
         have H := H1
         clear H1
         have H' := Aside0.mk H
         clear H
         obtain ⟨Ao61, co61, eo61⟩ := Kd.R_slice HO_523001.out
         subst eo61
         try go_wp2
         have n0_ := Aside0.mk (Kd.R_drew HO_523001.out)
         have n1_ := Aside0.mk (blk_drew BK519.out)
         have n2_ := Aside0.mk (blk_drew BK522.out)
         have n3_ := Aside0.mk (IsS83.drew HI0.out)
         have n4_ := Aside0.mk (keep_drew HK.out)
         have n5_ := Aside0.mk (below_drew1 HB.out)
         clear HO_523001 BK519 BK522 HI0 HK HB
         revert n0_ n1_ n2_ n3_ n4_ n5_
         intro HO_523001 BK519 BK522 HI0 HK HB
         refine start_ (n := 16) (S := fun w' => w'.cell? ⟨gb522, 0, none⟩ = some (.int .i64 x523000_2) ∧ w'.cell? ⟨gb522, 1, none⟩ = some (.slice Ao61 x523001_2.length co61)) (ds := []) (G.fl 16 0) (c12_14) rfl (c12_14) ⟨(blk_cell BK522.out 0).trans rfl, (blk_cell BK522.out 1).trans rfl⟩ (fun hHeld => ?_); refine with_tabW spec_l71Net.tab16 spec_l71Net.bits16 (fun HT_ HW_ => ?_)
         generalize wc.drew = w62 at HO_523001 BK519 BK522 HI0 HK HB hHeld ⊢
         refine G.pu 1 (some 69) (G.fl 16 2) ?_
         refine G.pu 2 (some 70) (G.fl 16 6) ?_
         refine G.pu 5 (some 73) (G.fl 16 38) ?_
         refine G.pu 6 (some 74) (G.fl 16 102) ?_
         refine G.ta2 0 (some 68) (G.fl 16 103) ?_
         refine G.ta2 3 (some 71) (G.fl 16 111) ?_
         refine G.ta2 7 (some 75) (G.fl 16 239) ?_
         refine join_ (σ := Value × Nat) 2 #[true, true, true, true, true, true, true, true, true, true, true, true, true, true, false, false] (fun s_ => [(72, .int .i64 t539), (76, .int .i64 t541), (77, .tuple #[.agg #[.int .i64 t543, s_.1], .bool true]), (7, .pointer (some ⟨s_.2, 0, none⟩)), (67, .tuple #[.agg #[.int .i64 t543, s_.1], .bool true]), (78, .agg #[.int .i64 t543, s_.1]), (79, .bool true)]) (fun s_ w' => (w'.cell? ⟨gb522, 0, none⟩ = some (.int .i64 x523000_2) ∧ w'.cell? ⟨gb522, 1, none⟩ = some (.slice Ao61 x523001_2.length co61)) ∧ (Kd.R k63 63 w' w.heap.size (fun k_ => some k_ ≠ (.slice Ao61 x523001_2.length co61 : Value).ownBlock) s_.1 t544) ∧ (Kd.R k63 63 w' w.heap.size (fun k_ => some k_ ≠ (s_.1 : Value).ownBlock) (.slice Ao61 x523001_2.length co61) x523001_2) ∧ (w'.heap[gb519]? = some (.cells #[.int .i64 0, .slice none 0 0] 29 (0, 0))) ∧ (w'.heap[gb522]? = some (.cells #[.int .i64 x523000_2, .slice Ao61 x523001_2.length co61] 29 (0, 0))) ∧ (w'.heap[s_.2]? = some (.cells #[.int .i64 0, .slice none 0 0] 29 (0, 0))) ∧ (w.heap.size ≤ s_.2) ∧ (w0.heap.size ≤ s_.2) ∧ (g ≠ s_.2) ∧ (s_.2 ≠ g) ∧ (gb519 ≠ s_.2) ∧ (s_.2 ≠ gb519) ∧ (gb522 ≠ s_.2) ∧ (s_.2 ≠ gb522) ∧ (IsS83 w0 w' g s0_0 t542) ∧ (KeepBut w w' g none) ∧ (Below w0.heap.size w0 w')) ?_ ?_
         rotate_left
         ·intro hCont
          refine two_ (i := 4) (j := 13) (Ni := some 72) (Nj := some 7) #[true, true, true, true, true, true, true, true, false, false, false, false, false, false, false, false] #[true, true, true, true, false, true, true, true, false, false, false, false, false, true, false, false] rfl rfl rfl rfl (two_of HT_.out (c12_14)) (c12_15) (c12_15) (fun K hK => ?_) (fun K hK => ?_)
          ·skip
           refine goes_ Try.func56 (c12_14) rfl #[.pointer (some ⟨g, 0, none⟩), .int .i64 x523000_2] (by rfl) rfl rfl (G.ar) ?_
           with_reducible refine (spec_l6Rd_pick.calls kj50 g s0_0 x1001_2 x523000_2 t539 t540 w0 _ ?side1 ?side2 A57.out).mono ?_
           (case side1 => exact cI12)
           (case side2 => exact cBs12 HB.out)
           rintro e w63 ⟨rfl, hi, hb, hk⟩
           refine ⟨_, rfl, ?_⟩
           have n0_ := Aside0.mk (Kd.R_mono (Kd.R_keep (IsS83.apart (show IsS83 w0 _ g s0_0 x1001_2 from cI12) (G.cR HO_523001.out) (c12_15)) hk (fun _ h => h.2)) (fun _ h => h.1))
           have n1_ := Aside0.mk (KeepBut.blk hk (g' := gb519) (o := .cells #[.int .i64 0, .slice none 0 0] 29 (0, 0)) (G.cb BK519.out) NB519_0.out (by simp))
           have n2_ := Aside0.mk (KeepBut.blk hk (g' := gb522) (o := .cells #[.int .i64 x523000_2, .slice Ao61 x523001_2.length co61] 29 (0, 0)) (G.cb BK522.out) NB522_0.out (by simp))
           have n3_ := Aside0.mk (KeepBut.trans (G.cK HK.out) hk (.inl rfl))
           have n4_ := Aside0.mk (hb)
           have n5_ := Aside0.mk (hi)
           clear HO_523001 BK519 BK522 HK HB HI0
           revert n0_ n1_ n2_ n3_ n4_ n5_
           intro HO_523001 BK519 BK522 HK HB HI0
           (try clear hb)
           (try clear hb2)
           (try clear hk)
           (try clear hi)
           refine hK.out _ _ ⟨(blk_cell BK522.out 0).trans rfl, (blk_cell BK522.out 1).trans rfl⟩ (fun hHeld => ?_)
           clear hK K
           refine G.no (some 72) ?_
           refine two_ (i := 8) (j := 13) (Ni := some 76) (Nj := some 7) #[true, true, true, true, true, true, true, true, true, false, false, false, false, false, false, false] #[true, true, true, true, true, true, true, true, false, false, false, false, false, true, false, false] rfl rfl rfl rfl (two_of HT_.out (c12_14)) (c12_15) (c12_15) (fun K hK => ?_) (fun K hK => ?_)
           ·skip
            refine goes_ Try.func56 (c12_14) rfl #[.pointer (some ⟨g, 0, none⟩), .int .i64 x523000_2] (by rfl) rfl rfl (G.ar) ?_
            with_reducible refine (spec_l6Rd_pick.calls kj50 g s0_0 t540 x523000_2 t541 t542 w0 _ ?side1 ?side2 A58.out).mono ?_
            (case side1 => exact cI12)
            (case side2 => exact cBs12 HB.out)
            rintro e w64 ⟨rfl, hi, hb, hk⟩
            refine ⟨_, rfl, ?_⟩
            have n0_ := Aside0.mk (Kd.R_mono (Kd.R_keep (IsS83.apart (show IsS83 w0 _ g s0_0 t540 from cI12) (G.cR HO_523001.out) (c12_15)) hk (fun _ h => h.2)) (fun _ h => h.1))
            have n1_ := Aside0.mk (KeepBut.blk hk (g' := gb519) (o := .cells #[.int .i64 0, .slice none 0 0] 29 (0, 0)) (G.cb BK519.out) NB519_0.out (by simp))
            have n2_ := Aside0.mk (KeepBut.blk hk (g' := gb522) (o := .cells #[.int .i64 x523000_2, .slice Ao61 x523001_2.length co61] 29 (0, 0)) (G.cb BK522.out) NB522_0.out (by simp))
            have n3_ := Aside0.mk (KeepBut.trans (G.cK HK.out) hk (.inl rfl))
            have n4_ := Aside0.mk (hb)
            have n5_ := Aside0.mk (hi)
            clear HO_523001 BK519 BK522 HK HB HI0
            revert n0_ n1_ n2_ n3_ n4_ n5_
            intro HO_523001 BK519 BK522 HK HB HI0
            (try clear hb)
            (try clear hb2)
            (try clear hk)
            (try clear hi)
            refine hK.out _ _ ⟨(blk_cell BK522.out 0).trans rfl, (blk_cell BK522.out 1).trans rfl⟩ (fun hHeld => ?_)
            clear hK K
            refine G.no (some 76) ?_
            refine two_ (i := 9) (j := 13) (Ni := some 77) (Nj := some 7) #[true, true, true, true, true, true, true, true, true, true, false, false, false, false, false, false] #[true, true, true, true, true, true, true, true, true, false, false, false, false, true, false, false] rfl rfl rfl rfl (two_of HT_.out (c12_14)) (c12_15) (c12_15) (fun K hK => ?_) (fun K hK => ?_)
            ·skip
             refine goes_ Try.func72 (c12_14) rfl #[.agg #[.int .i64 x523000_2, .slice Ao61 x523001_2.length co61], .int .i64 t539, .int .i64 t541] (by rfl) rfl rfl (G.ar) ?_
             with_reducible refine (spec_NetAdd.calls kj50 x523000_2 _ _ x523001_2 t539 t541 t543 t544 true _ ?side1 ?side2 A59.out).mono ?_
             (case side1 => repeat (first | exact (Kd.R_reads' HO_523001.out).2.2 | (with_reducible refine Kd.C_alloc ?_ _) | (with_reducible refine Kd.C_drewN ?_ _) | (with_reducible refine Kd.C_drew ?_)))
             (case side2 => exact (Kd.R_reads' HO_523001.out).2.1)
             rintro e w65 ⟨v545, rfl, ho0, hb⟩
             refine ⟨_, rfl, ?_⟩
             have n0_ := Aside0.mk (Kd.R_elder' (G.cR HO_523001.out) (Kd.R_base ho0) hb)
             have n1_ := Aside0.mk (Kd.R_lower (Kd.R_new' ho0 (Kd.R_lt (G.cR HO_523001.out))) (keep_size (w := w) (g := g) (row := none) (G.cK HK.out)))
             have n2_ := Aside0.mk (blk_below (g := gb519) (o := .cells #[.int .i64 0, .slice none 0 0] 29 (0, 0)) (G.cb BK519.out) hb)
             have n3_ := Aside0.mk (blk_below (g := gb522) (o := .cells #[.int .i64 x523000_2, .slice Ao61 x523001_2.length co61] 29 (0, 0)) (G.cb BK522.out) hb)
             have n4_ := Aside0.mk (IsS83.below (cI12) hb)
             have n5_ := Aside0.mk (KeepBut.trans (G.cK HK.out) (KeepBut.of_below hb g none) (.inl rfl))
             have n6_ := Aside0.mk (below_step (cBs12 HB.out) hb)
             clear HO_523001 BK519 BK522 HI0 HK HB
             revert n0_ n1_ n2_ n3_ n4_ n5_ n6_
             intro HO_523001 HO546 BK519 BK522 HI0 HK HB
             (try clear hb)
             (try clear hb2)
             (try clear hk)
             (try clear hi)
             (try clear ho0)
             refine hK.out _ _ ⟨(blk_cell BK522.out 0).trans rfl, (blk_cell BK522.out 1).trans rfl⟩ (fun hHeld => ?_)
             clear hK K
             refine G.no (some 77) ?_
             refine G.pu 10 (some 67) (G.fl 16 2047) ?_
             refine G.pu 11 (some 78) (G.fl 16 4095) ?_
             refine G.pu 12 (some 79) (G.fl 16 8191) ?_
             refine one_ (i := 13) (N := some 7) (G.fl 16 16383) rfl rfl (one_of HT_.out (c12_14)) (c12_15) (fun K hK => ?_)
             refine box_step ?hg (N := 7) ?hd (cs := #[.int .i64 0, .slice none 0 0]) (t := 29) ?hr ?_; (case hd => rfl); (case hg => rfl); (case hr => first | (go_simp; done) | (go_simp; rfl))
             intro gb548 hg w66 hbox hb
             have n0_ := Aside0.mk (Kd.R_below (G.cR HO_523001.out) hb)
             have n1_ := Aside0.mk (Kd.R_below (G.cR HO546.out) hb)
             have n2_ := Aside0.mk (blk_below (g := gb519) (o := .cells #[.int .i64 0, .slice none 0 0] 29 (0, 0)) (G.cb BK519.out) hb)
             have n3_ := Aside0.mk (blk_below (g := gb522) (o := .cells #[.int .i64 x523000_2, .slice Ao61 x523001_2.length co61] 29 (0, 0)) (G.cb BK522.out) hb)
             have n4_ := Aside0.mk (IsS83.below (cI12) hb)
             have n5_ := Aside0.mk (KeepBut.trans (G.cK HK.out) (KeepBut.of_below hb g none) (.inl rfl))
             have n6_ := Aside0.mk (below_step (cBs12 HB.out) hb)
             have n7_ := Aside0.mk (hbox)
             have n8_ := Aside0.mk ((c12_12 : w.heap.size ≤ gb548))
             have n9_ := Aside0.mk ((Nat.le_trans HW0.out (c12_12 : w.heap.size ≤ gb548) : w0.heap.size ≤ gb548))
             have n10_ := Aside0.mk ((c12_8 : gb519 ≠ gb548))
             have n11_ := Aside0.mk ((c12_9 : gb548 ≠ gb519))
             have n12_ := Aside0.mk ((c12_1 : gb522 ≠ gb548))
             have n13_ := Aside0.mk ((c12_2 : gb548 ≠ gb522))
             have n14_ := Aside0.mk ((c12_10 : g ≠ gb548))
             have n15_ := Aside0.mk ((c12_11 : gb548 ≠ g))
             clear HO_523001 HO546 BK519 BK522 HI0 HK HB
             revert n0_ n1_ n2_ n3_ n4_ n5_ n6_ n7_ n8_ n9_ n10_ n11_ n12_ n13_ n14_ n15_
             intro HO_523001 HO546 BK519 BK522 HI0 HK HB BK548 GW548 GE548 NB519_548 NB548_519 NB522_548 NB548_522 NB0_548 NB548_0
             clear hb hbox hg
             refine hK.out _ _ ⟨(blk_cell BK522.out 0).trans rfl, (blk_cell BK522.out 1).trans rfl⟩ (fun hHeld => ?_)
             clear hK K
             refine G.no (some 7) ?_
             exact norm_ (by simp only [putAll, Act.put, List.setIfInBounds_toArray, List.set_cons_zero, List.set_cons_succ]) (hCont (v545, gb548) _ ⟨hHeld, (c12_7), (c12_6), (G.cb BK519.out), (G.cb BK522.out), (G.cb BK548.out), GW548.out, GE548.out, NB0_548.out, NB548_0.out, NB519_548.out, NB548_519.out, NB522_548.out, NB548_522.out, (cI12), (G.cK HK.out), (cBs12 HB.out)⟩)
            ·skip
             refine box_step ?hg (N := 7) ?hd (cs := #[.int .i64 0, .slice none 0 0]) (t := 29) ?hr ?_; (case hd => rfl); (case hg => rfl); (case hr => first | (go_simp; done) | (go_simp; rfl))
             intro gb548 hg w65 hbox hb
             have n0_ := Aside0.mk (Kd.R_below (G.cR HO_523001.out) hb)
             have n1_ := Aside0.mk (blk_below (g := gb519) (o := .cells #[.int .i64 0, .slice none 0 0] 29 (0, 0)) (G.cb BK519.out) hb)
             have n2_ := Aside0.mk (blk_below (g := gb522) (o := .cells #[.int .i64 x523000_2, .slice Ao61 x523001_2.length co61] 29 (0, 0)) (G.cb BK522.out) hb)
             have n3_ := Aside0.mk (IsS83.below (cI12) hb)
             have n4_ := Aside0.mk (KeepBut.trans (G.cK HK.out) (KeepBut.of_below hb g none) (.inl rfl))
             have n5_ := Aside0.mk (below_step (cBs12 HB.out) hb)
             have n6_ := Aside0.mk (hbox)
             have n7_ := Aside0.mk ((c12_12 : w.heap.size ≤ gb548))
             have n8_ := Aside0.mk ((Nat.le_trans HW0.out (c12_12 : w.heap.size ≤ gb548) : w0.heap.size ≤ gb548))
             have n9_ := Aside0.mk ((c12_8 : gb519 ≠ gb548))
             have n10_ := Aside0.mk ((c12_9 : gb548 ≠ gb519))
             have n11_ := Aside0.mk ((c12_1 : gb522 ≠ gb548))
             have n12_ := Aside0.mk ((c12_2 : gb548 ≠ gb522))
             have n13_ := Aside0.mk ((c12_10 : g ≠ gb548))
             have n14_ := Aside0.mk ((c12_11 : gb548 ≠ g))
             clear HO_523001 BK519 BK522 HI0 HK HB
             revert n0_ n1_ n2_ n3_ n4_ n5_ n6_ n7_ n8_ n9_ n10_ n11_ n12_ n13_ n14_
             intro HO_523001 BK519 BK522 HI0 HK HB BK548 GW548 GE548 NB519_548 NB548_519 NB522_548 NB548_522 NB0_548 NB548_0
             clear hb hbox hg
             refine hK.out _ _ ⟨(blk_cell BK522.out 0).trans rfl, (blk_cell BK522.out 1).trans rfl⟩ (fun hHeld => ?_)
             clear hK K
             refine G.no (some 7) ?_
             refine one_ (i := 9) (N := some 77) (G.fl 16 9215) rfl rfl (one_of HT_.out (c12_14)) (c12_15) (fun K hK => ?_)
             refine goes_ Try.func72 (c12_14) rfl #[.agg #[.int .i64 x523000_2, .slice Ao61 x523001_2.length co61], .int .i64 t539, .int .i64 t541] (by rfl) rfl rfl (G.ar) ?_
             with_reducible refine (spec_NetAdd.calls kj50 x523000_2 _ _ x523001_2 t539 t541 t543 t544 true _ ?side1 ?side2 A59.out).mono ?_
             (case side1 => repeat (first | exact (Kd.R_reads' HO_523001.out).2.2 | (with_reducible refine Kd.C_alloc ?_ _) | (with_reducible refine Kd.C_drewN ?_ _) | (with_reducible refine Kd.C_drew ?_)))
             (case side2 => exact (Kd.R_reads' HO_523001.out).2.1)
             rintro e w66 ⟨v545, rfl, ho0, hb⟩
             refine ⟨_, rfl, ?_⟩
             have n0_ := Aside0.mk (Kd.R_elder' (G.cR HO_523001.out) (Kd.R_base ho0) hb)
             have n1_ := Aside0.mk (Kd.R_lower (Kd.R_new' ho0 (Kd.R_lt (G.cR HO_523001.out))) (keep_size (w := w) (g := g) (row := none) (G.cK HK.out)))
             have n2_ := Aside0.mk (blk_below (g := gb519) (o := .cells #[.int .i64 0, .slice none 0 0] 29 (0, 0)) (G.cb BK519.out) hb)
             have n3_ := Aside0.mk (blk_below (g := gb522) (o := .cells #[.int .i64 x523000_2, .slice Ao61 x523001_2.length co61] 29 (0, 0)) (G.cb BK522.out) hb)
             have n4_ := Aside0.mk (IsS83.below (cI12) hb)
             have n5_ := Aside0.mk (blk_below (g := gb548) (o := .cells #[.int .i64 0, .slice none 0 0] 29 (0, 0)) (G.cb BK548.out) hb)
             have n6_ := Aside0.mk (KeepBut.trans (G.cK HK.out) (KeepBut.of_below hb g none) (.inl rfl))
             have n7_ := Aside0.mk (below_step (cBs12 HB.out) hb)
             clear HO_523001 BK519 BK522 HI0 BK548 HK HB
             revert n0_ n1_ n2_ n3_ n4_ n5_ n6_ n7_
             intro HO_523001 HO546 BK519 BK522 HI0 BK548 HK HB
             (try clear hb)
             (try clear hb2)
             (try clear hk)
             (try clear hi)
             (try clear ho0)
             refine hK.out _ _ ⟨(blk_cell BK522.out 0).trans rfl, (blk_cell BK522.out 1).trans rfl⟩ (fun hHeld => ?_)
             clear hK K
             refine G.no (some 77) ?_
             refine G.pu 10 (some 67) (G.fl 16 10239) ?_
             refine G.pu 11 (some 78) (G.fl 16 12287) ?_
             refine G.pu 12 (some 79) (G.fl 16 16383) ?_
             exact norm_ (by simp only [putAll, Act.put, List.setIfInBounds_toArray, List.set_cons_zero, List.set_cons_succ]) (hCont (v545, gb548) _ ⟨hHeld, (c12_7), (c12_6), (G.cb BK519.out), (G.cb BK522.out), (G.cb BK548.out), GW548.out, GE548.out, NB0_548.out, NB548_0.out, NB519_548.out, NB548_519.out, NB522_548.out, NB548_522.out, (cI12), (G.cK HK.out), (cBs12 HB.out)⟩)
           ·skip
            refine box_step ?hg (N := 7) ?hd (cs := #[.int .i64 0, .slice none 0 0]) (t := 29) ?hr ?_; (case hd => rfl); (case hg => rfl); (case hr => first | (go_simp; done) | (go_simp; rfl))
            intro gb548 hg w64 hbox hb
            have n0_ := Aside0.mk (Kd.R_below (G.cR HO_523001.out) hb)
            have n1_ := Aside0.mk (blk_below (g := gb519) (o := .cells #[.int .i64 0, .slice none 0 0] 29 (0, 0)) (G.cb BK519.out) hb)
            have n2_ := Aside0.mk (blk_below (g := gb522) (o := .cells #[.int .i64 x523000_2, .slice Ao61 x523001_2.length co61] 29 (0, 0)) (G.cb BK522.out) hb)
            have n3_ := Aside0.mk (IsS83.below (cI12) hb)
            have n4_ := Aside0.mk (KeepBut.trans (G.cK HK.out) (KeepBut.of_below hb g none) (.inl rfl))
            have n5_ := Aside0.mk (below_step (cBs12 HB.out) hb)
            have n6_ := Aside0.mk (hbox)
            have n7_ := Aside0.mk ((c12_12 : w.heap.size ≤ gb548))
            have n8_ := Aside0.mk ((Nat.le_trans HW0.out (c12_12 : w.heap.size ≤ gb548) : w0.heap.size ≤ gb548))
            have n9_ := Aside0.mk ((c12_8 : gb519 ≠ gb548))
            have n10_ := Aside0.mk ((c12_9 : gb548 ≠ gb519))
            have n11_ := Aside0.mk ((c12_1 : gb522 ≠ gb548))
            have n12_ := Aside0.mk ((c12_2 : gb548 ≠ gb522))
            have n13_ := Aside0.mk ((by rw [hg]; exact Nat.ne_of_lt (IsS83.lt (show IsS83 w0 _ g s0_0 t540 from cI12)) : g ≠ gb548))
            have n14_ := Aside0.mk ((by rw [hg]; exact Nat.ne_of_gt (IsS83.lt (show IsS83 w0 _ g s0_0 t540 from cI12)) : gb548 ≠ g))
            clear HO_523001 BK519 BK522 HI0 HK HB
            revert n0_ n1_ n2_ n3_ n4_ n5_ n6_ n7_ n8_ n9_ n10_ n11_ n12_ n13_ n14_
            intro HO_523001 BK519 BK522 HI0 HK HB BK548 GW548 GE548 NB519_548 NB548_519 NB522_548 NB548_522 NB0_548 NB548_0
            clear hb hbox hg
            refine hK.out _ _ ⟨(blk_cell BK522.out 0).trans rfl, (blk_cell BK522.out 1).trans rfl⟩ (fun hHeld => ?_)
            clear hK K
            refine G.no (some 7) ?_
            refine one_ (i := 8) (N := some 76) (G.fl 16 8703) rfl rfl (one_of HT_.out (c12_14)) (c12_15) (fun K hK => ?_)
            refine goes_ Try.func56 (c12_14) rfl #[.pointer (some ⟨g, 0, none⟩), .int .i64 x523000_2] (by rfl) rfl rfl (G.ar) ?_
            with_reducible refine (spec_l6Rd_pick.calls kj50 g s0_0 t540 x523000_2 t541 t542 w0 _ ?side1 ?side2 A58.out).mono ?_
            (case side1 => exact cI12)
            (case side2 => exact cBs12 HB.out)
            rintro e w65 ⟨rfl, hi, hb, hk⟩
            refine ⟨_, rfl, ?_⟩
            have n0_ := Aside0.mk (Kd.R_mono (Kd.R_keep (IsS83.apart (show IsS83 w0 _ g s0_0 t540 from cI12) (G.cR HO_523001.out) (c12_15)) hk (fun _ h => h.2)) (fun _ h => h.1))
            have n1_ := Aside0.mk (KeepBut.blk hk (g' := gb519) (o := .cells #[.int .i64 0, .slice none 0 0] 29 (0, 0)) (G.cb BK519.out) NB519_0.out (by simp))
            have n2_ := Aside0.mk (KeepBut.blk hk (g' := gb522) (o := .cells #[.int .i64 x523000_2, .slice Ao61 x523001_2.length co61] 29 (0, 0)) (G.cb BK522.out) NB522_0.out (by simp))
            have n3_ := Aside0.mk (KeepBut.blk hk (g' := gb548) (o := .cells #[.int .i64 0, .slice none 0 0] 29 (0, 0)) (G.cb BK548.out) NB548_0.out (by simp))
            have n4_ := Aside0.mk (KeepBut.trans (G.cK HK.out) hk (.inl rfl))
            have n5_ := Aside0.mk (hb)
            have n6_ := Aside0.mk (hi)
            clear HO_523001 BK519 BK522 BK548 HK HB HI0
            revert n0_ n1_ n2_ n3_ n4_ n5_ n6_
            intro HO_523001 BK519 BK522 BK548 HK HB HI0
            (try clear hb)
            (try clear hb2)
            (try clear hk)
            (try clear hi)
            refine hK.out _ _ ⟨(blk_cell BK522.out 0).trans rfl, (blk_cell BK522.out 1).trans rfl⟩ (fun hHeld => ?_)
            clear hK K
            refine G.no (some 76) ?_
            refine one_ (i := 9) (N := some 77) (G.fl 16 9215) rfl rfl (one_of HT_.out (c12_14)) (c12_15) (fun K hK => ?_)
            refine goes_ Try.func72 (c12_14) rfl #[.agg #[.int .i64 x523000_2, .slice Ao61 x523001_2.length co61], .int .i64 t539, .int .i64 t541] (by rfl) rfl rfl (G.ar) ?_
            with_reducible refine (spec_NetAdd.calls kj50 x523000_2 _ _ x523001_2 t539 t541 t543 t544 true _ ?side1 ?side2 A59.out).mono ?_
            (case side1 => repeat (first | exact (Kd.R_reads' HO_523001.out).2.2 | (with_reducible refine Kd.C_alloc ?_ _) | (with_reducible refine Kd.C_drewN ?_ _) | (with_reducible refine Kd.C_drew ?_)))
            (case side2 => exact (Kd.R_reads' HO_523001.out).2.1)
            rintro e w66 ⟨v545, rfl, ho0, hb⟩
            refine ⟨_, rfl, ?_⟩
            have n0_ := Aside0.mk (Kd.R_elder' (G.cR HO_523001.out) (Kd.R_base ho0) hb)
            have n1_ := Aside0.mk (Kd.R_lower (Kd.R_new' ho0 (Kd.R_lt (G.cR HO_523001.out))) (keep_size (w := w) (g := g) (row := none) (G.cK HK.out)))
            have n2_ := Aside0.mk (blk_below (g := gb519) (o := .cells #[.int .i64 0, .slice none 0 0] 29 (0, 0)) (G.cb BK519.out) hb)
            have n3_ := Aside0.mk (blk_below (g := gb522) (o := .cells #[.int .i64 x523000_2, .slice Ao61 x523001_2.length co61] 29 (0, 0)) (G.cb BK522.out) hb)
            have n4_ := Aside0.mk (IsS83.below (cI12) hb)
            have n5_ := Aside0.mk (blk_below (g := gb548) (o := .cells #[.int .i64 0, .slice none 0 0] 29 (0, 0)) (G.cb BK548.out) hb)
            have n6_ := Aside0.mk (KeepBut.trans (G.cK HK.out) (KeepBut.of_below hb g none) (.inl rfl))
            have n7_ := Aside0.mk (below_step (cBs12 HB.out) hb)
            clear HO_523001 BK519 BK522 HI0 BK548 HK HB
            revert n0_ n1_ n2_ n3_ n4_ n5_ n6_ n7_
            intro HO_523001 HO546 BK519 BK522 HI0 BK548 HK HB
            (try clear hb)
            (try clear hb2)
            (try clear hk)
            (try clear hi)
            (try clear ho0)
            refine hK.out _ _ ⟨(blk_cell BK522.out 0).trans rfl, (blk_cell BK522.out 1).trans rfl⟩ (fun hHeld => ?_)
            clear hK K
            refine G.no (some 77) ?_
            refine G.pu 10 (some 67) (G.fl 16 10239) ?_
            refine G.pu 11 (some 78) (G.fl 16 12287) ?_
            refine G.pu 12 (some 79) (G.fl 16 16383) ?_
            exact norm_ (by simp only [putAll, Act.put, List.setIfInBounds_toArray, List.set_cons_zero, List.set_cons_succ]) (hCont (v545, gb548) _ ⟨hHeld, (c12_7), (c12_6), (G.cb BK519.out), (G.cb BK522.out), (G.cb BK548.out), GW548.out, GE548.out, NB0_548.out, NB548_0.out, NB519_548.out, NB548_519.out, NB522_548.out, NB548_522.out, (cI12), (G.cK HK.out), (cBs12 HB.out)⟩)
          ·skip
           refine box_step ?hg (N := 7) ?hd (cs := #[.int .i64 0, .slice none 0 0]) (t := 29) ?hr ?_; (case hd => rfl); (case hg => rfl); (case hr => first | (go_simp; done) | (go_simp; rfl))
           intro gb548 hg w63 hbox hb
           have n0_ := Aside0.mk (Kd.R_below (G.cR HO_523001.out) hb)
           have n1_ := Aside0.mk (blk_below (g := gb519) (o := .cells #[.int .i64 0, .slice none 0 0] 29 (0, 0)) (G.cb BK519.out) hb)
           have n2_ := Aside0.mk (blk_below (g := gb522) (o := .cells #[.int .i64 x523000_2, .slice Ao61 x523001_2.length co61] 29 (0, 0)) (G.cb BK522.out) hb)
           have n3_ := Aside0.mk (IsS83.below (cI12) hb)
           have n4_ := Aside0.mk (KeepBut.trans (G.cK HK.out) (KeepBut.of_below hb g none) (.inl rfl))
           have n5_ := Aside0.mk (below_step (cBs12 HB.out) hb)
           have n6_ := Aside0.mk (hbox)
           have n7_ := Aside0.mk ((c12_12 : w.heap.size ≤ gb548))
           have n8_ := Aside0.mk ((Nat.le_trans HW0.out (c12_12 : w.heap.size ≤ gb548) : w0.heap.size ≤ gb548))
           have n9_ := Aside0.mk ((c12_8 : gb519 ≠ gb548))
           have n10_ := Aside0.mk ((c12_9 : gb548 ≠ gb519))
           have n11_ := Aside0.mk ((c12_1 : gb522 ≠ gb548))
           have n12_ := Aside0.mk ((c12_2 : gb548 ≠ gb522))
           have n13_ := Aside0.mk ((by rw [hg]; exact Nat.ne_of_lt (IsS83.lt (show IsS83 w0 _ g s0_0 x1001_2 from cI12)) : g ≠ gb548))
           have n14_ := Aside0.mk ((by rw [hg]; exact Nat.ne_of_gt (IsS83.lt (show IsS83 w0 _ g s0_0 x1001_2 from cI12)) : gb548 ≠ g))
           clear HO_523001 BK519 BK522 HI0 HK HB
           revert n0_ n1_ n2_ n3_ n4_ n5_ n6_ n7_ n8_ n9_ n10_ n11_ n12_ n13_ n14_
           intro HO_523001 BK519 BK522 HI0 HK HB BK548 GW548 GE548 NB519_548 NB548_519 NB522_548 NB548_522 NB0_548 NB548_0
           clear hb hbox hg
           refine hK.out _ _ ⟨(blk_cell BK522.out 0).trans rfl, (blk_cell BK522.out 1).trans rfl⟩ (fun hHeld => ?_)
           clear hK K
           refine G.no (some 7) ?_
           refine one_ (i := 4) (N := some 72) (G.fl 16 8447) rfl rfl (one_of HT_.out (c12_14)) (c12_15) (fun K hK => ?_)
           refine goes_ Try.func56 (c12_14) rfl #[.pointer (some ⟨g, 0, none⟩), .int .i64 x523000_2] (by rfl) rfl rfl (G.ar) ?_
           with_reducible refine (spec_l6Rd_pick.calls kj50 g s0_0 x1001_2 x523000_2 t539 t540 w0 _ ?side1 ?side2 A57.out).mono ?_
           (case side1 => exact cI12)
           (case side2 => exact cBs12 HB.out)
           rintro e w64 ⟨rfl, hi, hb, hk⟩
           refine ⟨_, rfl, ?_⟩
           have n0_ := Aside0.mk (Kd.R_mono (Kd.R_keep (IsS83.apart (show IsS83 w0 _ g s0_0 x1001_2 from cI12) (G.cR HO_523001.out) (c12_15)) hk (fun _ h => h.2)) (fun _ h => h.1))
           have n1_ := Aside0.mk (KeepBut.blk hk (g' := gb519) (o := .cells #[.int .i64 0, .slice none 0 0] 29 (0, 0)) (G.cb BK519.out) NB519_0.out (by simp))
           have n2_ := Aside0.mk (KeepBut.blk hk (g' := gb522) (o := .cells #[.int .i64 x523000_2, .slice Ao61 x523001_2.length co61] 29 (0, 0)) (G.cb BK522.out) NB522_0.out (by simp))
           have n3_ := Aside0.mk (KeepBut.blk hk (g' := gb548) (o := .cells #[.int .i64 0, .slice none 0 0] 29 (0, 0)) (G.cb BK548.out) NB548_0.out (by simp))
           have n4_ := Aside0.mk (KeepBut.trans (G.cK HK.out) hk (.inl rfl))
           have n5_ := Aside0.mk (hb)
           have n6_ := Aside0.mk (hi)
           clear HO_523001 BK519 BK522 BK548 HK HB HI0
           revert n0_ n1_ n2_ n3_ n4_ n5_ n6_
           intro HO_523001 BK519 BK522 BK548 HK HB HI0
           (try clear hb)
           (try clear hb2)
           (try clear hk)
           (try clear hi)
           refine hK.out _ _ ⟨(blk_cell BK522.out 0).trans rfl, (blk_cell BK522.out 1).trans rfl⟩ (fun hHeld => ?_)
           clear hK K
           refine G.no (some 72) ?_
           refine one_ (i := 8) (N := some 76) (G.fl 16 8703) rfl rfl (one_of HT_.out (c12_14)) (c12_15) (fun K hK => ?_)
           refine goes_ Try.func56 (c12_14) rfl #[.pointer (some ⟨g, 0, none⟩), .int .i64 x523000_2] (by rfl) rfl rfl (G.ar) ?_
           with_reducible refine (spec_l6Rd_pick.calls kj50 g s0_0 t540 x523000_2 t541 t542 w0 _ ?side1 ?side2 A58.out).mono ?_
           (case side1 => exact cI12)
           (case side2 => exact cBs12 HB.out)
           rintro e w65 ⟨rfl, hi, hb, hk⟩
           refine ⟨_, rfl, ?_⟩
           have n0_ := Aside0.mk (Kd.R_mono (Kd.R_keep (IsS83.apart (show IsS83 w0 _ g s0_0 t540 from cI12) (G.cR HO_523001.out) (c12_15)) hk (fun _ h => h.2)) (fun _ h => h.1))
           have n1_ := Aside0.mk (KeepBut.blk hk (g' := gb519) (o := .cells #[.int .i64 0, .slice none 0 0] 29 (0, 0)) (G.cb BK519.out) NB519_0.out (by simp))
           have n2_ := Aside0.mk (KeepBut.blk hk (g' := gb522) (o := .cells #[.int .i64 x523000_2, .slice Ao61 x523001_2.length co61] 29 (0, 0)) (G.cb BK522.out) NB522_0.out (by simp))
           have n3_ := Aside0.mk (KeepBut.blk hk (g' := gb548) (o := .cells #[.int .i64 0, .slice none 0 0] 29 (0, 0)) (G.cb BK548.out) NB548_0.out (by simp))
           have n4_ := Aside0.mk (KeepBut.trans (G.cK HK.out) hk (.inl rfl))
           have n5_ := Aside0.mk (hb)
           have n6_ := Aside0.mk (hi)
           clear HO_523001 BK519 BK522 BK548 HK HB HI0
           revert n0_ n1_ n2_ n3_ n4_ n5_ n6_
           intro HO_523001 BK519 BK522 BK548 HK HB HI0
           (try clear hb)
           (try clear hb2)
           (try clear hk)
           (try clear hi)
           refine hK.out _ _ ⟨(blk_cell BK522.out 0).trans rfl, (blk_cell BK522.out 1).trans rfl⟩ (fun hHeld => ?_)
           clear hK K
           refine G.no (some 76) ?_
           refine one_ (i := 9) (N := some 77) (G.fl 16 9215) rfl rfl (one_of HT_.out (c12_14)) (c12_15) (fun K hK => ?_)
           refine goes_ Try.func72 (c12_14) rfl #[.agg #[.int .i64 x523000_2, .slice Ao61 x523001_2.length co61], .int .i64 t539, .int .i64 t541] (by rfl) rfl rfl (G.ar) ?_
           with_reducible refine (spec_NetAdd.calls kj50 x523000_2 _ _ x523001_2 t539 t541 t543 t544 true _ ?side1 ?side2 A59.out).mono ?_
           (case side1 => repeat (first | exact (Kd.R_reads' HO_523001.out).2.2 | (with_reducible refine Kd.C_alloc ?_ _) | (with_reducible refine Kd.C_drewN ?_ _) | (with_reducible refine Kd.C_drew ?_)))
           (case side2 => exact (Kd.R_reads' HO_523001.out).2.1)
           rintro e w66 ⟨v545, rfl, ho0, hb⟩
           refine ⟨_, rfl, ?_⟩
           have n0_ := Aside0.mk (Kd.R_elder' (G.cR HO_523001.out) (Kd.R_base ho0) hb)
           have n1_ := Aside0.mk (Kd.R_lower (Kd.R_new' ho0 (Kd.R_lt (G.cR HO_523001.out))) (keep_size (w := w) (g := g) (row := none) (G.cK HK.out)))
           have n2_ := Aside0.mk (blk_below (g := gb519) (o := .cells #[.int .i64 0, .slice none 0 0] 29 (0, 0)) (G.cb BK519.out) hb)
           have n3_ := Aside0.mk (blk_below (g := gb522) (o := .cells #[.int .i64 x523000_2, .slice Ao61 x523001_2.length co61] 29 (0, 0)) (G.cb BK522.out) hb)
           have n4_ := Aside0.mk (IsS83.below (cI12) hb)
           have n5_ := Aside0.mk (blk_below (g := gb548) (o := .cells #[.int .i64 0, .slice none 0 0] 29 (0, 0)) (G.cb BK548.out) hb)
           have n6_ := Aside0.mk (KeepBut.trans (G.cK HK.out) (KeepBut.of_below hb g none) (.inl rfl))
           have n7_ := Aside0.mk (below_step (cBs12 HB.out) hb)
           clear HO_523001 BK519 BK522 HI0 BK548 HK HB
           revert n0_ n1_ n2_ n3_ n4_ n5_ n6_ n7_
           intro HO_523001 HO546 BK519 BK522 HI0 BK548 HK HB
           (try clear hb)
           (try clear hb2)
           (try clear hk)
           (try clear hi)
           (try clear ho0)
           refine hK.out _ _ ⟨(blk_cell BK522.out 0).trans rfl, (blk_cell BK522.out 1).trans rfl⟩ (fun hHeld => ?_)
           clear hK K
           refine G.no (some 77) ?_
           refine G.pu 10 (some 67) (G.fl 16 10239) ?_
           refine G.pu 11 (some 78) (G.fl 16 12287) ?_
           refine G.pu 12 (some 79) (G.fl 16 16383) ?_
           exact norm_ (by simp only [putAll, Act.put, List.setIfInBounds_toArray, List.set_cons_zero, List.set_cons_succ]) (hCont (v545, gb548) _ ⟨hHeld, (c12_7), (c12_6), (G.cb BK519.out), (G.cb BK522.out), (G.cb BK548.out), GW548.out, GE548.out, NB0_548.out, NB548_0.out, NB519_548.out, NB548_519.out, NB522_548.out, NB548_522.out, (cI12), (G.cK HK.out), (cBs12 HB.out)⟩)
         rintro ⟨v545, gb548⟩ w67 ⟨hS_, h0_, h1_, h2_, h3_, h4_, h5_, h6_, h7_, h8_, h9_, h10_, h11_, h12_, h13_, h14_, h15_⟩
         have n0_ : Aside0 (Kd.R k63 63 w67 w.heap.size (fun k_ => some k_ ≠ (.slice Ao61 x523001_2.length co61 : Value).ownBlock) v545 t544) := ⟨h0_⟩
         have n1_ : Aside0 (Kd.R k63 63 w67 w.heap.size (fun k_ => some k_ ≠ (v545 : Value).ownBlock) (.slice Ao61 x523001_2.length co61) x523001_2) := ⟨h1_⟩
         have n2_ : Aside0 (w67.heap[gb519]? = some (.cells #[.int .i64 0, .slice none 0 0] 29 (0, 0))) := ⟨h2_⟩
         have n3_ : Aside0 (w67.heap[gb522]? = some (.cells #[.int .i64 x523000_2, .slice Ao61 x523001_2.length co61] 29 (0, 0))) := ⟨h3_⟩
         have n4_ : Aside0 (w67.heap[gb548]? = some (.cells #[.int .i64 0, .slice none 0 0] 29 (0, 0))) := ⟨h4_⟩
         have n5_ : Aside0 (w.heap.size ≤ gb548) := ⟨h5_⟩
         have n6_ : Aside0 (w0.heap.size ≤ gb548) := ⟨h6_⟩
         have n7_ : Aside0 (g ≠ gb548) := ⟨h7_⟩
         have n8_ : Aside0 (gb548 ≠ g) := ⟨h8_⟩
         have n9_ : Aside0 (gb519 ≠ gb548) := ⟨h9_⟩
         have n10_ : Aside0 (gb548 ≠ gb519) := ⟨h10_⟩
         have n11_ : Aside0 (gb522 ≠ gb548) := ⟨h11_⟩
         have n12_ : Aside0 (gb548 ≠ gb522) := ⟨h12_⟩
         have n13_ : Aside0 (IsS83 w0 w67 g s0_0 t542) := ⟨h13_⟩
         have n14_ : Aside0 (KeepBut w w67 g none) := ⟨h14_⟩
         have n15_ : Aside0 (Below w0.heap.size w0 w67) := ⟨h15_⟩
         clear HO_523001 BK519 BK522 HI0 HK HB
         clear h0_ h1_ h2_ h3_ h4_ h5_ h6_ h7_ h8_ h9_ h10_ h11_ h12_ h13_ h14_ h15_
         revert n0_ n1_ n2_ n3_ n4_ n5_ n6_ n7_ n8_ n9_ n10_ n11_ n12_ n13_ n14_ n15_
         intro HO546 HO_523001 BK519 BK522 BK548 GW548 GE548 NB0_548 NB548_0 NB519_548 NB548_519 NB522_548 NB548_522 HI0 HK HB
         have hHeld : w67.cell? ⟨gb522, 0, none⟩ = some (.int .i64 x523000_2) ∧ w67.cell? ⟨gb522, 1, none⟩ = some (.slice Ao61 x523001_2.length co61) := hS_
         obtain ⟨Ao69, co69, eo69⟩ := Kd.R_slice HO546.out
         (first | subst eo69 | (injection eo69 with f1_ f2_ f3_; have f4_ := f1_.symm; have f5_ := f3_.symm; clear f1_ f2_ f3_; subst f4_; subst f5_))
         refine norm_ (a' := ?_) ?_ ?_
         rotate_left
         ·simp only [putAll, Act.put, List.setIfInBounds_toArray, List.set_cons_zero, List.set_cons_succ]
          rfl
         refine one_ (i := 14) (N := none) (G.fl 16 32767) rfl rfl (one_of HT_.out (c12_14)) (c12_15) (fun K hK => ?_)
         have hs68 : w67.cell? ⟨gb548, 0, none⟩ = some (.int .i64 0) := (blk_cell BK548.out 0).trans rfl
         have hfs68 := blk_frozen BK548.out 0
         have hns68_0 := NB519_548.out
         have hns68_1 := NB522_548.out
         have hms68_0 := NB548_519.out
         have hms68_1 := NB548_522.out
         have hs70 : w67.cell? ⟨gb548, 1, none⟩ = some (.slice none 0 0) := (blk_cell BK548.out 1).trans rfl
         have hfs70 := blk_frozen BK548.out 1
         have hns70_0 := NB519_548.out
         have hns70_1 := NB522_548.out
         have hms70_0 := NB548_519.out
         have hms70_1 := NB548_522.out
         refine skip_ (w1 := ?_) (by rfl) rfl ?_ ?_
         rotate_left
         ·go_simp
          rfl
         refine hK.out _ _ ⟨((cell_far (p := ⟨gb548, _, none⟩) NB522_548.out _).trans (((cell_far (p := ⟨gb548, _, none⟩) NB522_548.out _).trans (hHeld.1)))), ((cell_far (p := ⟨gb548, _, none⟩) NB522_548.out _).trans (((cell_far (p := ⟨gb548, _, none⟩) NB522_548.out _).trans (hHeld.2))))⟩ (fun hHeld => ?_)
         clear hK K
         refine G.pu 15 (some 8) (G.fl 16 65535) ?_
         refine done_ (done_of HT_.out (c12_14)) ?_
         have hnb71 := NB548_519.out
         have hnc71 := NB519_548.out
         have hnb72 := NB548_522.out
         have hnc72 := NB522_548.out
         have hnb73 := NB548_0.out
         have hnc73 := NB0_548.out
         have hcz74_0 : w67.cell? ⟨gb548, 0, none⟩ = some (.int .i64 0) := (blk_cell BK548.out 0).trans rfl
         have hcz74_1 : w67.cell? ⟨gb548, 1, none⟩ = some (.slice none 0 0) := (blk_cell BK548.out 1).trans rfl
         have hfz74_0 := blk_frozen BK548.out 0
         have hfz74_1 := blk_frozen BK548.out 1
         have hnb75 := NB522_519.out
         have hnc75 := NB519_522.out
         have hnb76 := NB522_0.out
         have hnc76 := NB0_522.out
         have hcz77_0 : w67.cell? ⟨gb522, 0, none⟩ = some (.int .i64 x523000_2) := (blk_cell BK522.out 0).trans rfl
         have hcz77_1 : w67.cell? ⟨gb522, 1, none⟩ = some (.slice Ao61 x523001_2.length co61) := (blk_cell BK522.out 1).trans rfl
         have hfz77_0 := blk_frozen BK522.out 0
         have hfz77_1 := blk_frozen BK522.out 1
         try go_wp2
         go_roundg kj50
         case measure => have := HJ3.out; have := HK2.out; have := HJ50.out; omega
         case rel => exact ⟨(wrap64 (x6_2 - 1)), (t542), (t543), (t544), (.slice Ao69 t544.length co69), (c12_13), H', ⟨by have := HJ3.out; have := HK2.out; have := HJ50.out; omega⟩, ⟨by (with_reducible repeat (first | apply Kd.R_alloc | apply Kd.R_drewN | apply Kd.R_drew)); exact Kd.R_mono (Kd.R_far (p := ⟨gb522, 1, none⟩) (Kd.R_far (p := ⟨gb522, 0, none⟩) (Kd.R_far (p := ⟨gb548, 1, none⟩) (Kd.R_far (p := ⟨gb548, 0, none⟩) (Kd.R_types (Kd.R_types HO546.out BK548.out (c12_15)) BK522.out (c12_15)) (fun _ hk => hk.1.2) (.int .i64 t543)) (fun _ hk => hk.1.2) (.slice Ao69 t544.length co69)) (fun _ hk => hk.2) (.int .i64 t543)) (fun _ hk => hk.2) (.slice Ao69 t544.length co69)) (fun _ hk => trivial)⟩, ⟨by (with_reducible repeat (first | refine blk_drewN ?_ _ | refine blk_drew ?_ | refine blk_alloc ?_ _)); refine blk_far ?_ NB519_522.out _; (with_reducible repeat (first | refine blk_drewN ?_ _ | refine blk_drew ?_ | refine blk_alloc ?_ _)); refine blk_far ?_ NB519_522.out _; (with_reducible repeat (first | refine blk_drewN ?_ _ | refine blk_drew ?_ | refine blk_alloc ?_ _)); refine blk_far ?_ NB519_548.out _; (with_reducible repeat (first | refine blk_drewN ?_ _ | refine blk_drew ?_ | refine blk_alloc ?_ _)); refine blk_far ?_ NB519_548.out _; (with_reducible repeat (first | refine blk_drewN ?_ _ | refine blk_drew ?_ | refine blk_alloc ?_ _)); exact BK519.out⟩, ⟨by (with_reducible repeat (first | refine blk_drewN ?_ _ | refine blk_drew ?_ | refine blk_alloc ?_ _)); refine blk_put (cs := #[.int .i64 t543, .slice Ao61 x523001_2.length co61]) ?_ 1 _ rfl; (with_reducible repeat (first | refine blk_drewN ?_ _ | refine blk_drew ?_ | refine blk_alloc ?_ _)); refine blk_put (cs := #[.int .i64 x523000_2, .slice Ao61 x523001_2.length co61]) ?_ 0 _ rfl; (with_reducible repeat (first | refine blk_drewN ?_ _ | refine blk_drew ?_ | refine blk_alloc ?_ _)); refine blk_far ?_ NB522_548.out _; (with_reducible repeat (first | refine blk_drewN ?_ _ | refine blk_drew ?_ | refine blk_alloc ?_ _)); refine blk_far ?_ NB522_548.out _; (with_reducible repeat (first | refine blk_drewN ?_ _ | refine blk_drew ?_ | refine blk_alloc ?_ _)); exact BK522.out⟩, ⟨cI12⟩, ⟨G.cK HK.out⟩, ⟨cBs12 HB.out⟩⟩
        ·replace c60 := Bool.eq_false_iff.mpr c60
         subst c60
         have H1 : (spec_l71Net.l2 kj50 (wrap64 (x6_2 - 1)) s0_0 t542 x523000_2 x523001_2) = some (r1, r2, r3) := by rw [if_neg (show ¬ (false = true) by decide)] at H; exact H
         clear H
         have H := H1
         clear H1
         have H' := Aside0.mk H
         clear H
         obtain ⟨Ao78, co78, eo78⟩ := Kd.R_slice HO_523001.out
         subst eo78
         try go_wp2
         have n0_ := Aside0.mk (Kd.R_drew HO_523001.out)
         have n1_ := Aside0.mk (blk_drew BK519.out)
         have n2_ := Aside0.mk (blk_drew BK522.out)
         have n3_ := Aside0.mk (IsS83.drew HI0.out)
         have n4_ := Aside0.mk (keep_drew HK.out)
         have n5_ := Aside0.mk (below_drew1 HB.out)
         clear HO_523001 BK519 BK522 HI0 HK HB
         revert n0_ n1_ n2_ n3_ n4_ n5_
         intro HO_523001 BK519 BK522 HI0 HK HB
         refine start_ (n := 16) (S := fun w' => w'.cell? ⟨gb522, 0, none⟩ = some (.int .i64 x523000_2) ∧ w'.cell? ⟨gb522, 1, none⟩ = some (.slice Ao78 x523001_2.length co78)) (ds := []) (G.fl 16 0) (c12_14) rfl (c12_14) ⟨(blk_cell BK522.out 0).trans rfl, (blk_cell BK522.out 1).trans rfl⟩ (fun hHeld => ?_); refine with_tabW spec_l71Net.tab16 spec_l71Net.bits16 (fun HT_ HW_ => ?_)
         generalize wc.drew = w79 at HO_523001 BK519 BK522 HI0 HK HB hHeld ⊢
         refine G.pu 1 (some 69) (G.fl 16 2) ?_
         refine G.pu 2 (some 70) (G.fl 16 6) ?_
         refine G.pu 5 (some 73) (G.fl 16 38) ?_
         refine G.pu 6 (some 74) (G.fl 16 102) ?_
         refine G.ta2 0 (some 68) (G.fl 16 103) ?_
         refine G.ta2 3 (some 71) (G.fl 16 111) ?_
         refine G.ta2 7 (some 75) (G.fl 16 239) ?_
         refine join_ (σ := Value × Nat) 2 #[true, true, true, true, true, true, true, true, true, true, true, true, true, true, false, false] (fun s_ => [(72, .int .i64 t539), (76, .int .i64 t541), (77, .tuple #[.agg #[.int .i64 t543, s_.1], .bool false]), (7, .pointer (some ⟨s_.2, 0, none⟩)), (67, .tuple #[.agg #[.int .i64 t543, s_.1], .bool false]), (78, .agg #[.int .i64 t543, s_.1]), (79, .bool false)]) (fun s_ w' => (w'.cell? ⟨gb522, 0, none⟩ = some (.int .i64 x523000_2) ∧ w'.cell? ⟨gb522, 1, none⟩ = some (.slice Ao78 x523001_2.length co78)) ∧ (Kd.R k63 63 w' w.heap.size (fun k_ => some k_ ≠ (.slice Ao78 x523001_2.length co78 : Value).ownBlock) s_.1 t544) ∧ (Kd.R k63 63 w' w.heap.size (fun k_ => some k_ ≠ (s_.1 : Value).ownBlock) (.slice Ao78 x523001_2.length co78) x523001_2) ∧ (w'.heap[gb519]? = some (.cells #[.int .i64 0, .slice none 0 0] 29 (0, 0))) ∧ (w'.heap[gb522]? = some (.cells #[.int .i64 x523000_2, .slice Ao78 x523001_2.length co78] 29 (0, 0))) ∧ (w'.heap[s_.2]? = some (.cells #[.int .i64 0, .slice none 0 0] 29 (0, 0))) ∧ (w.heap.size ≤ s_.2) ∧ (w0.heap.size ≤ s_.2) ∧ (g ≠ s_.2) ∧ (s_.2 ≠ g) ∧ (gb519 ≠ s_.2) ∧ (s_.2 ≠ gb519) ∧ (gb522 ≠ s_.2) ∧ (s_.2 ≠ gb522) ∧ (IsS83 w0 w' g s0_0 t542) ∧ (KeepBut w w' g none) ∧ (Below w0.heap.size w0 w')) ?_ ?_
         rotate_left
         ·intro hCont
          refine two_ (i := 4) (j := 13) (Ni := some 72) (Nj := some 7) #[true, true, true, true, true, true, true, true, false, false, false, false, false, false, false, false] #[true, true, true, true, false, true, true, true, false, false, false, false, false, true, false, false] rfl rfl rfl rfl (two_of HT_.out (c12_14)) (c12_15) (c12_15) (fun K hK => ?_) (fun K hK => ?_)
          ·skip
           refine goes_ Try.func56 (c12_14) rfl #[.pointer (some ⟨g, 0, none⟩), .int .i64 x523000_2] (by rfl) rfl rfl (G.ar) ?_
           with_reducible refine (spec_l6Rd_pick.calls kj50 g s0_0 x1001_2 x523000_2 t539 t540 w0 _ ?side1 ?side2 A57.out).mono ?_
           (case side1 => exact cI12)
           (case side2 => exact cBs12 HB.out)
           rintro e w80 ⟨rfl, hi, hb, hk⟩
           refine ⟨_, rfl, ?_⟩
           have n0_ := Aside0.mk (Kd.R_mono (Kd.R_keep (IsS83.apart (show IsS83 w0 _ g s0_0 x1001_2 from cI12) (G.cR HO_523001.out) (c12_15)) hk (fun _ h => h.2)) (fun _ h => h.1))
           have n1_ := Aside0.mk (KeepBut.blk hk (g' := gb519) (o := .cells #[.int .i64 0, .slice none 0 0] 29 (0, 0)) (G.cb BK519.out) NB519_0.out (by simp))
           have n2_ := Aside0.mk (KeepBut.blk hk (g' := gb522) (o := .cells #[.int .i64 x523000_2, .slice Ao78 x523001_2.length co78] 29 (0, 0)) (G.cb BK522.out) NB522_0.out (by simp))
           have n3_ := Aside0.mk (KeepBut.trans (G.cK HK.out) hk (.inl rfl))
           have n4_ := Aside0.mk (hb)
           have n5_ := Aside0.mk (hi)
           clear HO_523001 BK519 BK522 HK HB HI0
           revert n0_ n1_ n2_ n3_ n4_ n5_
           intro HO_523001 BK519 BK522 HK HB HI0
           (try clear hb)
           (try clear hb2)
           (try clear hk)
           (try clear hi)
           refine hK.out _ _ ⟨(blk_cell BK522.out 0).trans rfl, (blk_cell BK522.out 1).trans rfl⟩ (fun hHeld => ?_)
           clear hK K
           refine G.no (some 72) ?_
           refine two_ (i := 8) (j := 13) (Ni := some 76) (Nj := some 7) #[true, true, true, true, true, true, true, true, true, false, false, false, false, false, false, false] #[true, true, true, true, true, true, true, true, false, false, false, false, false, true, false, false] rfl rfl rfl rfl (two_of HT_.out (c12_14)) (c12_15) (c12_15) (fun K hK => ?_) (fun K hK => ?_)
           ·skip
            refine goes_ Try.func56 (c12_14) rfl #[.pointer (some ⟨g, 0, none⟩), .int .i64 x523000_2] (by rfl) rfl rfl (G.ar) ?_
            with_reducible refine (spec_l6Rd_pick.calls kj50 g s0_0 t540 x523000_2 t541 t542 w0 _ ?side1 ?side2 A58.out).mono ?_
            (case side1 => exact cI12)
            (case side2 => exact cBs12 HB.out)
            rintro e w81 ⟨rfl, hi, hb, hk⟩
            refine ⟨_, rfl, ?_⟩
            have n0_ := Aside0.mk (Kd.R_mono (Kd.R_keep (IsS83.apart (show IsS83 w0 _ g s0_0 t540 from cI12) (G.cR HO_523001.out) (c12_15)) hk (fun _ h => h.2)) (fun _ h => h.1))
            have n1_ := Aside0.mk (KeepBut.blk hk (g' := gb519) (o := .cells #[.int .i64 0, .slice none 0 0] 29 (0, 0)) (G.cb BK519.out) NB519_0.out (by simp))
            have n2_ := Aside0.mk (KeepBut.blk hk (g' := gb522) (o := .cells #[.int .i64 x523000_2, .slice Ao78 x523001_2.length co78] 29 (0, 0)) (G.cb BK522.out) NB522_0.out (by simp))
            have n3_ := Aside0.mk (KeepBut.trans (G.cK HK.out) hk (.inl rfl))
            have n4_ := Aside0.mk (hb)
            have n5_ := Aside0.mk (hi)
            clear HO_523001 BK519 BK522 HK HB HI0
            revert n0_ n1_ n2_ n3_ n4_ n5_
            intro HO_523001 BK519 BK522 HK HB HI0
            (try clear hb)
            (try clear hb2)
            (try clear hk)
            (try clear hi)
            refine hK.out _ _ ⟨(blk_cell BK522.out 0).trans rfl, (blk_cell BK522.out 1).trans rfl⟩ (fun hHeld => ?_)
            clear hK K
            refine G.no (some 76) ?_
            refine two_ (i := 9) (j := 13) (Ni := some 77) (Nj := some 7) #[true, true, true, true, true, true, true, true, true, true, false, false, false, false, false, false] #[true, true, true, true, true, true, true, true, true, false, false, false, false, true, false, false] rfl rfl rfl rfl (two_of HT_.out (c12_14)) (c12_15) (c12_15) (fun K hK => ?_) (fun K hK => ?_)
            ·skip
             refine goes_ Try.func72 (c12_14) rfl #[.agg #[.int .i64 x523000_2, .slice Ao78 x523001_2.length co78], .int .i64 t539, .int .i64 t541] (by rfl) rfl rfl (G.ar) ?_
             with_reducible refine (spec_NetAdd.calls kj50 x523000_2 _ _ x523001_2 t539 t541 t543 t544 false _ ?side1 ?side2 A59.out).mono ?_
             (case side1 => repeat (first | exact (Kd.R_reads' HO_523001.out).2.2 | (with_reducible refine Kd.C_alloc ?_ _) | (with_reducible refine Kd.C_drewN ?_ _) | (with_reducible refine Kd.C_drew ?_)))
             (case side2 => exact (Kd.R_reads' HO_523001.out).2.1)
             rintro e w82 ⟨v545, rfl, ho0, hb⟩
             refine ⟨_, rfl, ?_⟩
             have n0_ := Aside0.mk (Kd.R_elder' (G.cR HO_523001.out) (Kd.R_base ho0) hb)
             have n1_ := Aside0.mk (Kd.R_lower (Kd.R_new' ho0 (Kd.R_lt (G.cR HO_523001.out))) (keep_size (w := w) (g := g) (row := none) (G.cK HK.out)))
             have n2_ := Aside0.mk (blk_below (g := gb519) (o := .cells #[.int .i64 0, .slice none 0 0] 29 (0, 0)) (G.cb BK519.out) hb)
             have n3_ := Aside0.mk (blk_below (g := gb522) (o := .cells #[.int .i64 x523000_2, .slice Ao78 x523001_2.length co78] 29 (0, 0)) (G.cb BK522.out) hb)
             have n4_ := Aside0.mk (IsS83.below (cI12) hb)
             have n5_ := Aside0.mk (KeepBut.trans (G.cK HK.out) (KeepBut.of_below hb g none) (.inl rfl))
             have n6_ := Aside0.mk (below_step (cBs12 HB.out) hb)
             clear HO_523001 BK519 BK522 HI0 HK HB
             revert n0_ n1_ n2_ n3_ n4_ n5_ n6_
             intro HO_523001 HO546 BK519 BK522 HI0 HK HB
             (try clear hb)
             (try clear hb2)
             (try clear hk)
             (try clear hi)
             (try clear ho0)
             refine hK.out _ _ ⟨(blk_cell BK522.out 0).trans rfl, (blk_cell BK522.out 1).trans rfl⟩ (fun hHeld => ?_)
             clear hK K
             refine G.no (some 77) ?_
             refine G.pu 10 (some 67) (G.fl 16 2047) ?_
             refine G.pu 11 (some 78) (G.fl 16 4095) ?_
             refine G.pu 12 (some 79) (G.fl 16 8191) ?_
             refine one_ (i := 13) (N := some 7) (G.fl 16 16383) rfl rfl (one_of HT_.out (c12_14)) (c12_15) (fun K hK => ?_)
             refine box_step ?hg (N := 7) ?hd (cs := #[.int .i64 0, .slice none 0 0]) (t := 29) ?hr ?_; (case hd => rfl); (case hg => rfl); (case hr => first | (go_simp; done) | (go_simp; rfl))
             intro gb548 hg w83 hbox hb
             have n0_ := Aside0.mk (Kd.R_below (G.cR HO_523001.out) hb)
             have n1_ := Aside0.mk (Kd.R_below (G.cR HO546.out) hb)
             have n2_ := Aside0.mk (blk_below (g := gb519) (o := .cells #[.int .i64 0, .slice none 0 0] 29 (0, 0)) (G.cb BK519.out) hb)
             have n3_ := Aside0.mk (blk_below (g := gb522) (o := .cells #[.int .i64 x523000_2, .slice Ao78 x523001_2.length co78] 29 (0, 0)) (G.cb BK522.out) hb)
             have n4_ := Aside0.mk (IsS83.below (cI12) hb)
             have n5_ := Aside0.mk (KeepBut.trans (G.cK HK.out) (KeepBut.of_below hb g none) (.inl rfl))
             have n6_ := Aside0.mk (below_step (cBs12 HB.out) hb)
             have n7_ := Aside0.mk (hbox)
             have n8_ := Aside0.mk ((c12_12 : w.heap.size ≤ gb548))
             have n9_ := Aside0.mk ((Nat.le_trans HW0.out (c12_12 : w.heap.size ≤ gb548) : w0.heap.size ≤ gb548))
             have n10_ := Aside0.mk ((c12_8 : gb519 ≠ gb548))
             have n11_ := Aside0.mk ((c12_9 : gb548 ≠ gb519))
             have n12_ := Aside0.mk ((c12_3 : gb522 ≠ gb548))
             have n13_ := Aside0.mk ((c12_4 : gb548 ≠ gb522))
             have n14_ := Aside0.mk ((c12_10 : g ≠ gb548))
             have n15_ := Aside0.mk ((c12_11 : gb548 ≠ g))
             clear HO_523001 HO546 BK519 BK522 HI0 HK HB
             revert n0_ n1_ n2_ n3_ n4_ n5_ n6_ n7_ n8_ n9_ n10_ n11_ n12_ n13_ n14_ n15_
             intro HO_523001 HO546 BK519 BK522 HI0 HK HB BK548 GW548 GE548 NB519_548 NB548_519 NB522_548 NB548_522 NB0_548 NB548_0
             clear hb hbox hg
             refine hK.out _ _ ⟨(blk_cell BK522.out 0).trans rfl, (blk_cell BK522.out 1).trans rfl⟩ (fun hHeld => ?_)
             clear hK K
             refine G.no (some 7) ?_
             exact norm_ (by simp only [putAll, Act.put, List.setIfInBounds_toArray, List.set_cons_zero, List.set_cons_succ]) (hCont (v545, gb548) _ ⟨hHeld, (c12_7), (c12_6), (G.cb BK519.out), (G.cb BK522.out), (G.cb BK548.out), GW548.out, GE548.out, NB0_548.out, NB548_0.out, NB519_548.out, NB548_519.out, NB522_548.out, NB548_522.out, (cI12), (G.cK HK.out), (cBs12 HB.out)⟩)
            ·skip
             refine box_step ?hg (N := 7) ?hd (cs := #[.int .i64 0, .slice none 0 0]) (t := 29) ?hr ?_; (case hd => rfl); (case hg => rfl); (case hr => first | (go_simp; done) | (go_simp; rfl))
             intro gb548 hg w82 hbox hb
             have n0_ := Aside0.mk (Kd.R_below (G.cR HO_523001.out) hb)
             have n1_ := Aside0.mk (blk_below (g := gb519) (o := .cells #[.int .i64 0, .slice none 0 0] 29 (0, 0)) (G.cb BK519.out) hb)
             have n2_ := Aside0.mk (blk_below (g := gb522) (o := .cells #[.int .i64 x523000_2, .slice Ao78 x523001_2.length co78] 29 (0, 0)) (G.cb BK522.out) hb)
             have n3_ := Aside0.mk (IsS83.below (cI12) hb)
             have n4_ := Aside0.mk (KeepBut.trans (G.cK HK.out) (KeepBut.of_below hb g none) (.inl rfl))
             have n5_ := Aside0.mk (below_step (cBs12 HB.out) hb)
             have n6_ := Aside0.mk (hbox)
             have n7_ := Aside0.mk ((c12_12 : w.heap.size ≤ gb548))
             have n8_ := Aside0.mk ((Nat.le_trans HW0.out (c12_12 : w.heap.size ≤ gb548) : w0.heap.size ≤ gb548))
             have n9_ := Aside0.mk ((c12_8 : gb519 ≠ gb548))
             have n10_ := Aside0.mk ((c12_9 : gb548 ≠ gb519))
             have n11_ := Aside0.mk ((c12_3 : gb522 ≠ gb548))
             have n12_ := Aside0.mk ((c12_4 : gb548 ≠ gb522))
             have n13_ := Aside0.mk ((c12_10 : g ≠ gb548))
             have n14_ := Aside0.mk ((c12_11 : gb548 ≠ g))
             clear HO_523001 BK519 BK522 HI0 HK HB
             revert n0_ n1_ n2_ n3_ n4_ n5_ n6_ n7_ n8_ n9_ n10_ n11_ n12_ n13_ n14_
             intro HO_523001 BK519 BK522 HI0 HK HB BK548 GW548 GE548 NB519_548 NB548_519 NB522_548 NB548_522 NB0_548 NB548_0
             clear hb hbox hg
             refine hK.out _ _ ⟨(blk_cell BK522.out 0).trans rfl, (blk_cell BK522.out 1).trans rfl⟩ (fun hHeld => ?_)
             clear hK K
             refine G.no (some 7) ?_
             refine one_ (i := 9) (N := some 77) (G.fl 16 9215) rfl rfl (one_of HT_.out (c12_14)) (c12_15) (fun K hK => ?_)
             refine goes_ Try.func72 (c12_14) rfl #[.agg #[.int .i64 x523000_2, .slice Ao78 x523001_2.length co78], .int .i64 t539, .int .i64 t541] (by rfl) rfl rfl (G.ar) ?_
             with_reducible refine (spec_NetAdd.calls kj50 x523000_2 _ _ x523001_2 t539 t541 t543 t544 false _ ?side1 ?side2 A59.out).mono ?_
             (case side1 => repeat (first | exact (Kd.R_reads' HO_523001.out).2.2 | (with_reducible refine Kd.C_alloc ?_ _) | (with_reducible refine Kd.C_drewN ?_ _) | (with_reducible refine Kd.C_drew ?_)))
             (case side2 => exact (Kd.R_reads' HO_523001.out).2.1)
             rintro e w83 ⟨v545, rfl, ho0, hb⟩
             refine ⟨_, rfl, ?_⟩
             have n0_ := Aside0.mk (Kd.R_elder' (G.cR HO_523001.out) (Kd.R_base ho0) hb)
             have n1_ := Aside0.mk (Kd.R_lower (Kd.R_new' ho0 (Kd.R_lt (G.cR HO_523001.out))) (keep_size (w := w) (g := g) (row := none) (G.cK HK.out)))
             have n2_ := Aside0.mk (blk_below (g := gb519) (o := .cells #[.int .i64 0, .slice none 0 0] 29 (0, 0)) (G.cb BK519.out) hb)
             have n3_ := Aside0.mk (blk_below (g := gb522) (o := .cells #[.int .i64 x523000_2, .slice Ao78 x523001_2.length co78] 29 (0, 0)) (G.cb BK522.out) hb)
             have n4_ := Aside0.mk (IsS83.below (cI12) hb)
             have n5_ := Aside0.mk (blk_below (g := gb548) (o := .cells #[.int .i64 0, .slice none 0 0] 29 (0, 0)) (G.cb BK548.out) hb)
             have n6_ := Aside0.mk (KeepBut.trans (G.cK HK.out) (KeepBut.of_below hb g none) (.inl rfl))
             have n7_ := Aside0.mk (below_step (cBs12 HB.out) hb)
             clear HO_523001 BK519 BK522 HI0 BK548 HK HB
             revert n0_ n1_ n2_ n3_ n4_ n5_ n6_ n7_
             intro HO_523001 HO546 BK519 BK522 HI0 BK548 HK HB
             (try clear hb)
             (try clear hb2)
             (try clear hk)
             (try clear hi)
             (try clear ho0)
             refine hK.out _ _ ⟨(blk_cell BK522.out 0).trans rfl, (blk_cell BK522.out 1).trans rfl⟩ (fun hHeld => ?_)
             clear hK K
             refine G.no (some 77) ?_
             refine G.pu 10 (some 67) (G.fl 16 10239) ?_
             refine G.pu 11 (some 78) (G.fl 16 12287) ?_
             refine G.pu 12 (some 79) (G.fl 16 16383) ?_
             exact norm_ (by simp only [putAll, Act.put, List.setIfInBounds_toArray, List.set_cons_zero, List.set_cons_succ]) (hCont (v545, gb548) _ ⟨hHeld, (c12_7), (c12_6), (G.cb BK519.out), (G.cb BK522.out), (G.cb BK548.out), GW548.out, GE548.out, NB0_548.out, NB548_0.out, NB519_548.out, NB548_519.out, NB522_548.out, NB548_522.out, (cI12), (G.cK HK.out), (cBs12 HB.out)⟩)
           ·skip
            refine box_step ?hg (N := 7) ?hd (cs := #[.int .i64 0, .slice none 0 0]) (t := 29) ?hr ?_; (case hd => rfl); (case hg => rfl); (case hr => first | (go_simp; done) | (go_simp; rfl))
            intro gb548 hg w81 hbox hb
            have n0_ := Aside0.mk (Kd.R_below (G.cR HO_523001.out) hb)
            have n1_ := Aside0.mk (blk_below (g := gb519) (o := .cells #[.int .i64 0, .slice none 0 0] 29 (0, 0)) (G.cb BK519.out) hb)
            have n2_ := Aside0.mk (blk_below (g := gb522) (o := .cells #[.int .i64 x523000_2, .slice Ao78 x523001_2.length co78] 29 (0, 0)) (G.cb BK522.out) hb)
            have n3_ := Aside0.mk (IsS83.below (cI12) hb)
            have n4_ := Aside0.mk (KeepBut.trans (G.cK HK.out) (KeepBut.of_below hb g none) (.inl rfl))
            have n5_ := Aside0.mk (below_step (cBs12 HB.out) hb)
            have n6_ := Aside0.mk (hbox)
            have n7_ := Aside0.mk ((c12_12 : w.heap.size ≤ gb548))
            have n8_ := Aside0.mk ((Nat.le_trans HW0.out (c12_12 : w.heap.size ≤ gb548) : w0.heap.size ≤ gb548))
            have n9_ := Aside0.mk ((c12_8 : gb519 ≠ gb548))
            have n10_ := Aside0.mk ((c12_9 : gb548 ≠ gb519))
            have n11_ := Aside0.mk ((c12_3 : gb522 ≠ gb548))
            have n12_ := Aside0.mk ((c12_4 : gb548 ≠ gb522))
            have n13_ := Aside0.mk ((by rw [hg]; exact Nat.ne_of_lt (IsS83.lt (show IsS83 w0 _ g s0_0 t540 from cI12)) : g ≠ gb548))
            have n14_ := Aside0.mk ((by rw [hg]; exact Nat.ne_of_gt (IsS83.lt (show IsS83 w0 _ g s0_0 t540 from cI12)) : gb548 ≠ g))
            clear HO_523001 BK519 BK522 HI0 HK HB
            revert n0_ n1_ n2_ n3_ n4_ n5_ n6_ n7_ n8_ n9_ n10_ n11_ n12_ n13_ n14_
            intro HO_523001 BK519 BK522 HI0 HK HB BK548 GW548 GE548 NB519_548 NB548_519 NB522_548 NB548_522 NB0_548 NB548_0
            clear hb hbox hg
            refine hK.out _ _ ⟨(blk_cell BK522.out 0).trans rfl, (blk_cell BK522.out 1).trans rfl⟩ (fun hHeld => ?_)
            clear hK K
            refine G.no (some 7) ?_
            refine one_ (i := 8) (N := some 76) (G.fl 16 8703) rfl rfl (one_of HT_.out (c12_14)) (c12_15) (fun K hK => ?_)
            refine goes_ Try.func56 (c12_14) rfl #[.pointer (some ⟨g, 0, none⟩), .int .i64 x523000_2] (by rfl) rfl rfl (G.ar) ?_
            with_reducible refine (spec_l6Rd_pick.calls kj50 g s0_0 t540 x523000_2 t541 t542 w0 _ ?side1 ?side2 A58.out).mono ?_
            (case side1 => exact cI12)
            (case side2 => exact cBs12 HB.out)
            rintro e w82 ⟨rfl, hi, hb, hk⟩
            refine ⟨_, rfl, ?_⟩
            have n0_ := Aside0.mk (Kd.R_mono (Kd.R_keep (IsS83.apart (show IsS83 w0 _ g s0_0 t540 from cI12) (G.cR HO_523001.out) (c12_15)) hk (fun _ h => h.2)) (fun _ h => h.1))
            have n1_ := Aside0.mk (KeepBut.blk hk (g' := gb519) (o := .cells #[.int .i64 0, .slice none 0 0] 29 (0, 0)) (G.cb BK519.out) NB519_0.out (by simp))
            have n2_ := Aside0.mk (KeepBut.blk hk (g' := gb522) (o := .cells #[.int .i64 x523000_2, .slice Ao78 x523001_2.length co78] 29 (0, 0)) (G.cb BK522.out) NB522_0.out (by simp))
            have n3_ := Aside0.mk (KeepBut.blk hk (g' := gb548) (o := .cells #[.int .i64 0, .slice none 0 0] 29 (0, 0)) (G.cb BK548.out) NB548_0.out (by simp))
            have n4_ := Aside0.mk (KeepBut.trans (G.cK HK.out) hk (.inl rfl))
            have n5_ := Aside0.mk (hb)
            have n6_ := Aside0.mk (hi)
            clear HO_523001 BK519 BK522 BK548 HK HB HI0
            revert n0_ n1_ n2_ n3_ n4_ n5_ n6_
            intro HO_523001 BK519 BK522 BK548 HK HB HI0
            (try clear hb)
            (try clear hb2)
            (try clear hk)
            (try clear hi)
            refine hK.out _ _ ⟨(blk_cell BK522.out 0).trans rfl, (blk_cell BK522.out 1).trans rfl⟩ (fun hHeld => ?_)
            clear hK K
            refine G.no (some 76) ?_
            refine one_ (i := 9) (N := some 77) (G.fl 16 9215) rfl rfl (one_of HT_.out (c12_14)) (c12_15) (fun K hK => ?_)
            refine goes_ Try.func72 (c12_14) rfl #[.agg #[.int .i64 x523000_2, .slice Ao78 x523001_2.length co78], .int .i64 t539, .int .i64 t541] (by rfl) rfl rfl (G.ar) ?_
            with_reducible refine (spec_NetAdd.calls kj50 x523000_2 _ _ x523001_2 t539 t541 t543 t544 false _ ?side1 ?side2 A59.out).mono ?_
            (case side1 => repeat (first | exact (Kd.R_reads' HO_523001.out).2.2 | (with_reducible refine Kd.C_alloc ?_ _) | (with_reducible refine Kd.C_drewN ?_ _) | (with_reducible refine Kd.C_drew ?_)))
            (case side2 => exact (Kd.R_reads' HO_523001.out).2.1)
            rintro e w83 ⟨v545, rfl, ho0, hb⟩
            refine ⟨_, rfl, ?_⟩
            have n0_ := Aside0.mk (Kd.R_elder' (G.cR HO_523001.out) (Kd.R_base ho0) hb)
            have n1_ := Aside0.mk (Kd.R_lower (Kd.R_new' ho0 (Kd.R_lt (G.cR HO_523001.out))) (keep_size (w := w) (g := g) (row := none) (G.cK HK.out)))
            have n2_ := Aside0.mk (blk_below (g := gb519) (o := .cells #[.int .i64 0, .slice none 0 0] 29 (0, 0)) (G.cb BK519.out) hb)
            have n3_ := Aside0.mk (blk_below (g := gb522) (o := .cells #[.int .i64 x523000_2, .slice Ao78 x523001_2.length co78] 29 (0, 0)) (G.cb BK522.out) hb)
            have n4_ := Aside0.mk (IsS83.below (cI12) hb)
            have n5_ := Aside0.mk (blk_below (g := gb548) (o := .cells #[.int .i64 0, .slice none 0 0] 29 (0, 0)) (G.cb BK548.out) hb)
            have n6_ := Aside0.mk (KeepBut.trans (G.cK HK.out) (KeepBut.of_below hb g none) (.inl rfl))
            have n7_ := Aside0.mk (below_step (cBs12 HB.out) hb)
            clear HO_523001 BK519 BK522 HI0 BK548 HK HB
            revert n0_ n1_ n2_ n3_ n4_ n5_ n6_ n7_
            intro HO_523001 HO546 BK519 BK522 HI0 BK548 HK HB
            (try clear hb)
            (try clear hb2)
            (try clear hk)
            (try clear hi)
            (try clear ho0)
            refine hK.out _ _ ⟨(blk_cell BK522.out 0).trans rfl, (blk_cell BK522.out 1).trans rfl⟩ (fun hHeld => ?_)
            clear hK K
            refine G.no (some 77) ?_
            refine G.pu 10 (some 67) (G.fl 16 10239) ?_
            refine G.pu 11 (some 78) (G.fl 16 12287) ?_
            refine G.pu 12 (some 79) (G.fl 16 16383) ?_
            exact norm_ (by simp only [putAll, Act.put, List.setIfInBounds_toArray, List.set_cons_zero, List.set_cons_succ]) (hCont (v545, gb548) _ ⟨hHeld, (c12_7), (c12_6), (G.cb BK519.out), (G.cb BK522.out), (G.cb BK548.out), GW548.out, GE548.out, NB0_548.out, NB548_0.out, NB519_548.out, NB548_519.out, NB522_548.out, NB548_522.out, (cI12), (G.cK HK.out), (cBs12 HB.out)⟩)
          ·skip
           refine box_step ?hg (N := 7) ?hd (cs := #[.int .i64 0, .slice none 0 0]) (t := 29) ?hr ?_; (case hd => rfl); (case hg => rfl); (case hr => first | (go_simp; done) | (go_simp; rfl))
           intro gb548 hg w80 hbox hb
           have n0_ := Aside0.mk (Kd.R_below (G.cR HO_523001.out) hb)
           have n1_ := Aside0.mk (blk_below (g := gb519) (o := .cells #[.int .i64 0, .slice none 0 0] 29 (0, 0)) (G.cb BK519.out) hb)
           have n2_ := Aside0.mk (blk_below (g := gb522) (o := .cells #[.int .i64 x523000_2, .slice Ao78 x523001_2.length co78] 29 (0, 0)) (G.cb BK522.out) hb)
           have n3_ := Aside0.mk (IsS83.below (cI12) hb)
           have n4_ := Aside0.mk (KeepBut.trans (G.cK HK.out) (KeepBut.of_below hb g none) (.inl rfl))
           have n5_ := Aside0.mk (below_step (cBs12 HB.out) hb)
           have n6_ := Aside0.mk (hbox)
           have n7_ := Aside0.mk ((c12_12 : w.heap.size ≤ gb548))
           have n8_ := Aside0.mk ((Nat.le_trans HW0.out (c12_12 : w.heap.size ≤ gb548) : w0.heap.size ≤ gb548))
           have n9_ := Aside0.mk ((c12_8 : gb519 ≠ gb548))
           have n10_ := Aside0.mk ((c12_9 : gb548 ≠ gb519))
           have n11_ := Aside0.mk ((c12_3 : gb522 ≠ gb548))
           have n12_ := Aside0.mk ((c12_4 : gb548 ≠ gb522))
           have n13_ := Aside0.mk ((by rw [hg]; exact Nat.ne_of_lt (IsS83.lt (show IsS83 w0 _ g s0_0 x1001_2 from cI12)) : g ≠ gb548))
           have n14_ := Aside0.mk ((by rw [hg]; exact Nat.ne_of_gt (IsS83.lt (show IsS83 w0 _ g s0_0 x1001_2 from cI12)) : gb548 ≠ g))
           clear HO_523001 BK519 BK522 HI0 HK HB
           revert n0_ n1_ n2_ n3_ n4_ n5_ n6_ n7_ n8_ n9_ n10_ n11_ n12_ n13_ n14_
           intro HO_523001 BK519 BK522 HI0 HK HB BK548 GW548 GE548 NB519_548 NB548_519 NB522_548 NB548_522 NB0_548 NB548_0
           clear hb hbox hg
           refine hK.out _ _ ⟨(blk_cell BK522.out 0).trans rfl, (blk_cell BK522.out 1).trans rfl⟩ (fun hHeld => ?_)
           clear hK K
           refine G.no (some 7) ?_
           refine one_ (i := 4) (N := some 72) (G.fl 16 8447) rfl rfl (one_of HT_.out (c12_14)) (c12_15) (fun K hK => ?_)
           refine goes_ Try.func56 (c12_14) rfl #[.pointer (some ⟨g, 0, none⟩), .int .i64 x523000_2] (by rfl) rfl rfl (G.ar) ?_
           with_reducible refine (spec_l6Rd_pick.calls kj50 g s0_0 x1001_2 x523000_2 t539 t540 w0 _ ?side1 ?side2 A57.out).mono ?_
           (case side1 => exact cI12)
           (case side2 => exact cBs12 HB.out)
           rintro e w81 ⟨rfl, hi, hb, hk⟩
           refine ⟨_, rfl, ?_⟩
           have n0_ := Aside0.mk (Kd.R_mono (Kd.R_keep (IsS83.apart (show IsS83 w0 _ g s0_0 x1001_2 from cI12) (G.cR HO_523001.out) (c12_15)) hk (fun _ h => h.2)) (fun _ h => h.1))
           have n1_ := Aside0.mk (KeepBut.blk hk (g' := gb519) (o := .cells #[.int .i64 0, .slice none 0 0] 29 (0, 0)) (G.cb BK519.out) NB519_0.out (by simp))
           have n2_ := Aside0.mk (KeepBut.blk hk (g' := gb522) (o := .cells #[.int .i64 x523000_2, .slice Ao78 x523001_2.length co78] 29 (0, 0)) (G.cb BK522.out) NB522_0.out (by simp))
           have n3_ := Aside0.mk (KeepBut.blk hk (g' := gb548) (o := .cells #[.int .i64 0, .slice none 0 0] 29 (0, 0)) (G.cb BK548.out) NB548_0.out (by simp))
           have n4_ := Aside0.mk (KeepBut.trans (G.cK HK.out) hk (.inl rfl))
           have n5_ := Aside0.mk (hb)
           have n6_ := Aside0.mk (hi)
           clear HO_523001 BK519 BK522 BK548 HK HB HI0
           revert n0_ n1_ n2_ n3_ n4_ n5_ n6_
           intro HO_523001 BK519 BK522 BK548 HK HB HI0
           (try clear hb)
           (try clear hb2)
           (try clear hk)
           (try clear hi)
           refine hK.out _ _ ⟨(blk_cell BK522.out 0).trans rfl, (blk_cell BK522.out 1).trans rfl⟩ (fun hHeld => ?_)
           clear hK K
           refine G.no (some 72) ?_
           refine one_ (i := 8) (N := some 76) (G.fl 16 8703) rfl rfl (one_of HT_.out (c12_14)) (c12_15) (fun K hK => ?_)
           refine goes_ Try.func56 (c12_14) rfl #[.pointer (some ⟨g, 0, none⟩), .int .i64 x523000_2] (by rfl) rfl rfl (G.ar) ?_
           with_reducible refine (spec_l6Rd_pick.calls kj50 g s0_0 t540 x523000_2 t541 t542 w0 _ ?side1 ?side2 A58.out).mono ?_
           (case side1 => exact cI12)
           (case side2 => exact cBs12 HB.out)
           rintro e w82 ⟨rfl, hi, hb, hk⟩
           refine ⟨_, rfl, ?_⟩
           have n0_ := Aside0.mk (Kd.R_mono (Kd.R_keep (IsS83.apart (show IsS83 w0 _ g s0_0 t540 from cI12) (G.cR HO_523001.out) (c12_15)) hk (fun _ h => h.2)) (fun _ h => h.1))
           have n1_ := Aside0.mk (KeepBut.blk hk (g' := gb519) (o := .cells #[.int .i64 0, .slice none 0 0] 29 (0, 0)) (G.cb BK519.out) NB519_0.out (by simp))
           have n2_ := Aside0.mk (KeepBut.blk hk (g' := gb522) (o := .cells #[.int .i64 x523000_2, .slice Ao78 x523001_2.length co78] 29 (0, 0)) (G.cb BK522.out) NB522_0.out (by simp))
           have n3_ := Aside0.mk (KeepBut.blk hk (g' := gb548) (o := .cells #[.int .i64 0, .slice none 0 0] 29 (0, 0)) (G.cb BK548.out) NB548_0.out (by simp))
           have n4_ := Aside0.mk (KeepBut.trans (G.cK HK.out) hk (.inl rfl))
           have n5_ := Aside0.mk (hb)
           have n6_ := Aside0.mk (hi)
           clear HO_523001 BK519 BK522 BK548 HK HB HI0
           revert n0_ n1_ n2_ n3_ n4_ n5_ n6_
           intro HO_523001 BK519 BK522 BK548 HK HB HI0
           (try clear hb)
           (try clear hb2)
           (try clear hk)
           (try clear hi)
           refine hK.out _ _ ⟨(blk_cell BK522.out 0).trans rfl, (blk_cell BK522.out 1).trans rfl⟩ (fun hHeld => ?_)
           clear hK K
           refine G.no (some 76) ?_
           refine one_ (i := 9) (N := some 77) (G.fl 16 9215) rfl rfl (one_of HT_.out (c12_14)) (c12_15) (fun K hK => ?_)
           refine goes_ Try.func72 (c12_14) rfl #[.agg #[.int .i64 x523000_2, .slice Ao78 x523001_2.length co78], .int .i64 t539, .int .i64 t541] (by rfl) rfl rfl (G.ar) ?_
           with_reducible refine (spec_NetAdd.calls kj50 x523000_2 _ _ x523001_2 t539 t541 t543 t544 false _ ?side1 ?side2 A59.out).mono ?_
           (case side1 => repeat (first | exact (Kd.R_reads' HO_523001.out).2.2 | (with_reducible refine Kd.C_alloc ?_ _) | (with_reducible refine Kd.C_drewN ?_ _) | (with_reducible refine Kd.C_drew ?_)))
           (case side2 => exact (Kd.R_reads' HO_523001.out).2.1)
           rintro e w83 ⟨v545, rfl, ho0, hb⟩
           refine ⟨_, rfl, ?_⟩
           have n0_ := Aside0.mk (Kd.R_elder' (G.cR HO_523001.out) (Kd.R_base ho0) hb)
           have n1_ := Aside0.mk (Kd.R_lower (Kd.R_new' ho0 (Kd.R_lt (G.cR HO_523001.out))) (keep_size (w := w) (g := g) (row := none) (G.cK HK.out)))
           have n2_ := Aside0.mk (blk_below (g := gb519) (o := .cells #[.int .i64 0, .slice none 0 0] 29 (0, 0)) (G.cb BK519.out) hb)
           have n3_ := Aside0.mk (blk_below (g := gb522) (o := .cells #[.int .i64 x523000_2, .slice Ao78 x523001_2.length co78] 29 (0, 0)) (G.cb BK522.out) hb)
           have n4_ := Aside0.mk (IsS83.below (cI12) hb)
           have n5_ := Aside0.mk (blk_below (g := gb548) (o := .cells #[.int .i64 0, .slice none 0 0] 29 (0, 0)) (G.cb BK548.out) hb)
           have n6_ := Aside0.mk (KeepBut.trans (G.cK HK.out) (KeepBut.of_below hb g none) (.inl rfl))
           have n7_ := Aside0.mk (below_step (cBs12 HB.out) hb)
           clear HO_523001 BK519 BK522 HI0 BK548 HK HB
           revert n0_ n1_ n2_ n3_ n4_ n5_ n6_ n7_
           intro HO_523001 HO546 BK519 BK522 HI0 BK548 HK HB
           (try clear hb)
           (try clear hb2)
           (try clear hk)
           (try clear hi)
           (try clear ho0)
           refine hK.out _ _ ⟨(blk_cell BK522.out 0).trans rfl, (blk_cell BK522.out 1).trans rfl⟩ (fun hHeld => ?_)
           clear hK K
           refine G.no (some 77) ?_
           refine G.pu 10 (some 67) (G.fl 16 10239) ?_
           refine G.pu 11 (some 78) (G.fl 16 12287) ?_
           refine G.pu 12 (some 79) (G.fl 16 16383) ?_
           exact norm_ (by simp only [putAll, Act.put, List.setIfInBounds_toArray, List.set_cons_zero, List.set_cons_succ]) (hCont (v545, gb548) _ ⟨hHeld, (c12_7), (c12_6), (G.cb BK519.out), (G.cb BK522.out), (G.cb BK548.out), GW548.out, GE548.out, NB0_548.out, NB548_0.out, NB519_548.out, NB548_519.out, NB522_548.out, NB548_522.out, (cI12), (G.cK HK.out), (cBs12 HB.out)⟩)
         rintro ⟨v545, gb548⟩ w84 ⟨hS_, h0_, h1_, h2_, h3_, h4_, h5_, h6_, h7_, h8_, h9_, h10_, h11_, h12_, h13_, h14_, h15_⟩
         have n0_ : Aside0 (Kd.R k63 63 w84 w.heap.size (fun k_ => some k_ ≠ (.slice Ao78 x523001_2.length co78 : Value).ownBlock) v545 t544) := ⟨h0_⟩
         have n1_ : Aside0 (Kd.R k63 63 w84 w.heap.size (fun k_ => some k_ ≠ (v545 : Value).ownBlock) (.slice Ao78 x523001_2.length co78) x523001_2) := ⟨h1_⟩
         have n2_ : Aside0 (w84.heap[gb519]? = some (.cells #[.int .i64 0, .slice none 0 0] 29 (0, 0))) := ⟨h2_⟩
         have n3_ : Aside0 (w84.heap[gb522]? = some (.cells #[.int .i64 x523000_2, .slice Ao78 x523001_2.length co78] 29 (0, 0))) := ⟨h3_⟩
         have n4_ : Aside0 (w84.heap[gb548]? = some (.cells #[.int .i64 0, .slice none 0 0] 29 (0, 0))) := ⟨h4_⟩
         have n5_ : Aside0 (w.heap.size ≤ gb548) := ⟨h5_⟩
         have n6_ : Aside0 (w0.heap.size ≤ gb548) := ⟨h6_⟩
         have n7_ : Aside0 (g ≠ gb548) := ⟨h7_⟩
         have n8_ : Aside0 (gb548 ≠ g) := ⟨h8_⟩
         have n9_ : Aside0 (gb519 ≠ gb548) := ⟨h9_⟩
         have n10_ : Aside0 (gb548 ≠ gb519) := ⟨h10_⟩
         have n11_ : Aside0 (gb522 ≠ gb548) := ⟨h11_⟩
         have n12_ : Aside0 (gb548 ≠ gb522) := ⟨h12_⟩
         have n13_ : Aside0 (IsS83 w0 w84 g s0_0 t542) := ⟨h13_⟩
         have n14_ : Aside0 (KeepBut w w84 g none) := ⟨h14_⟩
         have n15_ : Aside0 (Below w0.heap.size w0 w84) := ⟨h15_⟩
         clear HO_523001 BK519 BK522 HI0 HK HB
         clear h0_ h1_ h2_ h3_ h4_ h5_ h6_ h7_ h8_ h9_ h10_ h11_ h12_ h13_ h14_ h15_
         revert n0_ n1_ n2_ n3_ n4_ n5_ n6_ n7_ n8_ n9_ n10_ n11_ n12_ n13_ n14_ n15_
         intro HO546 HO_523001 BK519 BK522 BK548 GW548 GE548 NB0_548 NB548_0 NB519_548 NB548_519 NB522_548 NB548_522 HI0 HK HB
         have hHeld : w84.cell? ⟨gb522, 0, none⟩ = some (.int .i64 x523000_2) ∧ w84.cell? ⟨gb522, 1, none⟩ = some (.slice Ao78 x523001_2.length co78) := hS_
         obtain ⟨Ao86, co86, eo86⟩ := Kd.R_slice HO546.out
         (first | subst eo86 | (injection eo86 with f1_ f2_ f3_; have f4_ := f1_.symm; have f5_ := f3_.symm; clear f1_ f2_ f3_; subst f4_; subst f5_))
         refine norm_ (a' := ?_) ?_ ?_
         rotate_left
         ·simp only [putAll, Act.put, List.setIfInBounds_toArray, List.set_cons_zero, List.set_cons_succ]
          rfl
         refine one_ (i := 14) (N := none) (G.fl 16 32767) rfl rfl (one_of HT_.out (c12_14)) (c12_15) (fun K hK => ?_)
         have hs85 : w84.cell? ⟨gb548, 0, none⟩ = some (.int .i64 0) := (blk_cell BK548.out 0).trans rfl
         have hfs85 := blk_frozen BK548.out 0
         have hns85_0 := NB519_548.out
         have hns85_1 := NB522_548.out
         have hms85_0 := NB548_519.out
         have hms85_1 := NB548_522.out
         have hs87 : w84.cell? ⟨gb548, 1, none⟩ = some (.slice none 0 0) := (blk_cell BK548.out 1).trans rfl
         have hfs87 := blk_frozen BK548.out 1
         have hns87_0 := NB519_548.out
         have hns87_1 := NB522_548.out
         have hms87_0 := NB548_519.out
         have hms87_1 := NB548_522.out
         refine skip_ (w1 := ?_) (by rfl) rfl ?_ ?_
         rotate_left
         ·go_simp
          rfl
         refine hK.out _ _ ⟨((cell_far (p := ⟨gb548, _, none⟩) NB522_548.out _).trans (((cell_far (p := ⟨gb548, _, none⟩) NB522_548.out _).trans (hHeld.1)))), ((cell_far (p := ⟨gb548, _, none⟩) NB522_548.out _).trans (((cell_far (p := ⟨gb548, _, none⟩) NB522_548.out _).trans (hHeld.2))))⟩ (fun hHeld => ?_)
         clear hK K
         refine G.pu 15 (some 8) (G.fl 16 65535) ?_
         refine done_ (done_of HT_.out (c12_14)) ?_
         try go_wp2
         go_roundg kj50
         case measure => have := HJ3.out; have := HK2.out; have := HJ50.out; omega
         case rel => exact ⟨(wrap64 (x6_2 - 1)), (t542), (x523000_2), (x523001_2), (.slice Ao78 x523001_2.length co78), (c12_13), H', ⟨by have := HJ3.out; have := HK2.out; have := HJ50.out; omega⟩, ⟨by (with_reducible repeat (first | apply Kd.R_alloc | apply Kd.R_drewN | apply Kd.R_drew)); exact Kd.R_mono (Kd.R_far (p := ⟨gb548, 1, none⟩) (Kd.R_far (p := ⟨gb548, 0, none⟩) (Kd.R_types HO_523001.out BK548.out (c12_15)) (fun _ hk => hk.2) (.int .i64 t543)) (fun _ hk => hk.2) (.slice Ao86 t544.length co86)) (fun _ hk => trivial)⟩, ⟨by (with_reducible repeat (first | refine blk_drewN ?_ _ | refine blk_drew ?_ | refine blk_alloc ?_ _)); refine blk_far ?_ NB519_548.out _; (with_reducible repeat (first | refine blk_drewN ?_ _ | refine blk_drew ?_ | refine blk_alloc ?_ _)); refine blk_far ?_ NB519_548.out _; (with_reducible repeat (first | refine blk_drewN ?_ _ | refine blk_drew ?_ | refine blk_alloc ?_ _)); exact BK519.out⟩, ⟨by (with_reducible repeat (first | refine blk_drewN ?_ _ | refine blk_drew ?_ | refine blk_alloc ?_ _)); refine blk_far ?_ NB522_548.out _; (with_reducible repeat (first | refine blk_drewN ?_ _ | refine blk_drew ?_ | refine blk_alloc ?_ _)); refine blk_far ?_ NB522_548.out _; (with_reducible repeat (first | refine blk_drewN ?_ _ | refine blk_drew ?_ | refine blk_alloc ?_ _)); exact BK522.out⟩, ⟨cI12⟩, ⟨G.cK HK.out⟩, ⟨cBs12 HB.out⟩⟩
       ·replace c56 := Bool.eq_false_iff.mpr c56
        subst c56
        have H1 : (some (x523000_2, x523001_2, x1001_2)) = some (r1, r2, r3) := by rw [if_neg (show ¬ (false = true) by decide)] at H; exact H
        clear H
        have H := H1
        clear H1
        simp only [Option.some.injEq, Prod.mk.injEq] at H
        obtain ⟨rfl, rfl, rfl⟩ := H
        have hnb88 := NB522_519.out
        have hnc88 := NB519_522.out
        have hnb89 := NB522_0.out
        have hnc89 := NB0_522.out
        have hcz90_0 : wc.cell? ⟨gb522, 0, none⟩ = some (.int .i64 x523000_2) := (blk_cell BK522.out 0).trans rfl
        have hcz90_1 : wc.cell? ⟨gb522, 1, none⟩ = some (u523001) := (blk_cell BK522.out 1).trans rfl
        have hfz90_0 := blk_frozen BK522.out 0
        have hfz90_1 := blk_frozen BK522.out 1
        have hnb91 := NB519_0.out
        have hnc91 := NB0_519.out
        have hcz92_0 : wc.cell? ⟨gb519, 0, none⟩ = some (.int .i64 0) := (blk_cell BK519.out 0).trans rfl
        have hcz92_1 : wc.cell? ⟨gb519, 1, none⟩ = some (.slice none 0 0) := (blk_cell BK519.out 1).trans rfl
        have hfz92_0 := blk_frozen BK519.out 0
        have hfz92_1 := blk_frozen BK519.out 1
        obtain ⟨Ao93, co93, eo93⟩ := Kd.R_slice HO_523001.out
        subst eo93
        go_wp2
        refine bodyPost_ret (results_cell_row rfl _ _ gb519 29 #[.int .i64 x523000_2, .slice Ao93 x523001_2.length co93] (0, 0) _ rfl (by (with_reducible repeat (first | refine blk_drewN ?_ _ | refine blk_drew ?_ | refine blk_alloc ?_ _)); refine blk_put (cs := #[.int .i64 x523000_2, .slice none 0 0]) ?_ 1 _ rfl; (with_reducible repeat (first | refine blk_drewN ?_ _ | refine blk_drew ?_ | refine blk_alloc ?_ _)); refine blk_put (cs := #[.int .i64 0, .slice none 0 0]) ?_ 0 _ rfl; (with_reducible repeat (first | refine blk_drewN ?_ _ | refine blk_drew ?_ | refine blk_alloc ?_ _)); exact BK519.out) Try.underlying29 rfl (c12_14)) rfl ?_
        exact ⟨_, by first | rfl | (simp [errW_none, errW_some] <;> rfl) | (simp [*, errW_none, errW_some] <;> rfl), by (with_reducible repeat (first | apply Kd.R_alloc | apply Kd.R_drewN | apply Kd.R_drew)); exact Kd.R_mono (Kd.R_far (p := ⟨gb519, 1, none⟩) (Kd.R_far (p := ⟨gb519, 0, none⟩) (Kd.R_types HO_523001.out BK519.out (c12_15)) (fun _ hk => hk.2) (.int .i64 x523000_2)) (fun _ hk => hk.2) (.slice Ao93 x523001_2.length co93)) (fun _ hk => trivial), cI12, cBs12 HB.out, G.cK HK.out⟩

end Go.Proofs.Ytbkdpnfjcnkoeaa.P
