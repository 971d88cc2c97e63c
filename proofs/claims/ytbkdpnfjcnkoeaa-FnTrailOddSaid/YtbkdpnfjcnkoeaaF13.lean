-- Printed by a program of this session (mp.py, over the kit's print). Not trusted: Lean checks it.
import Derived.Test.YtbkdpnfjcnkoeaaF0
import Derived.Test.YtbkdpnfjcnkoeaaF6
import Derived.Test.YtbkdpnfjcnkoeaaF10
namespace Go.Proofs.Ytbkdpnfjcnkoeaa.P
open Go.RowKit Go.Proofs.YtbkdpnfjcnkoeaaW.PrintWords Go.Proofs.YtbkdpnfjcnkoeaaW.PrintLast Go.Proofs.YtbkdpnfjcnkoeaaW.PrintMore
attribute [local go_sem] max2_int min2_int max_two min_two max_three min_three max_four min_four   -- for this text's walks alone
set_option linter.unusedVariables false
set_option linter.unusedSimpArgs false

theorem c13_0 {p : Prop} (h : p := by (with_reducible repeat (first | refine blk_drewN ?_ _ | refine blk_drew ?_ | refine blk_alloc ?_ _)); refine blk_put (cs := #[.int .i64 t551, .slice none 0 0]) ?_ 1 _ rfl; (with_reducible repeat (first | refine blk_drewN ?_ _ | refine blk_drew ?_ | refine blk_alloc ?_ _)); refine blk_put (cs := #[.int .i64 0, .slice none 0 0]) ?_ 0 _ rfl; (with_reducible repeat (first | refine blk_drewN ?_ _ | refine blk_drew ?_ | refine blk_alloc ?_ _)); refine blk_far ?_ NB550_549.out _; (with_reducible repeat (first | refine blk_drewN ?_ _ | refine blk_drew ?_ | refine blk_alloc ?_ _)); exact BK550.out) : p := h
theorem c13_1 {p : Prop} (h : p := by (with_reducible repeat (first | refine blk_drewN ?_ _ | refine blk_drew ?_ | refine blk_alloc ?_ _)); refine blk_put (cs := #[.int .i64 t551, .slice A1_1 l1_1.length c1_1]) ?_ 1 _ rfl; (with_reducible repeat (first | refine blk_drewN ?_ _ | refine blk_drew ?_ | refine blk_alloc ?_ _)); refine blk_put (cs := #[.int .i64 a1_0, .slice A1_1 l1_1.length c1_1]) ?_ 0 _ rfl; (with_reducible repeat (first | refine blk_drewN ?_ _ | refine blk_drew ?_ | refine blk_alloc ?_ _)); exact BK549.out) : p := h
theorem c13_2 {p : Prop} (h : p := by (with_reducible repeat (first | refine blk_drewN ?_ _ | refine blk_drew ?_ | refine blk_alloc ?_ _)); refine blk_put (cs := #[.int .i64 t551, .slice none 0 0]) ?_ 1 _ rfl; (with_reducible repeat (first | refine blk_drewN ?_ _ | refine blk_drew ?_ | refine blk_alloc ?_ _)); refine blk_put (cs := #[.int .i64 0, .slice none 0 0]) ?_ 0 _ rfl; (with_reducible repeat (first | refine blk_drewN ?_ _ | refine blk_drew ?_ | refine blk_alloc ?_ _)); exact BK550.out) : p := h
theorem c13_3 {p : Prop} (h : p := by (with_reducible repeat (first | refine blk_drewN ?_ _ | refine blk_drew ?_ | refine blk_alloc ?_ _)); refine blk_far ?_ NB550_549.out _; (with_reducible repeat (first | refine blk_drewN ?_ _ | refine blk_drew ?_ | refine blk_alloc ?_ _)); refine blk_far ?_ NB550_549.out _; (with_reducible repeat (first | refine blk_drewN ?_ _ | refine blk_drew ?_ | refine blk_alloc ?_ _)); exact BK550.out) : p := h
theorem c13_4 {p : Prop} (h : p := by rw [hg]; exact Nat.ne_of_lt (blk_lt (g := gb549) (o := .cells #[.int .i64 a1_0, .slice A1_1 l1_1.length c1_1] 29 (0, 0)) (G.cb BK549.out))) : p := h
theorem c13_5 {p : Prop} (h : p := by rw [hg]; exact Nat.ne_of_gt (blk_lt (g := gb549) (o := .cells #[.int .i64 a1_0, .slice A1_1 l1_1.length c1_1] 29 (0, 0)) (G.cb BK549.out))) : p := h
theorem c13_6 {p : Prop} (h : p := by rw [hg]; exact Nat.ne_of_lt (IsS83.lt (show IsS83 w0 _ g s0_0 s0_1 from cI13))) : p := h
theorem c13_7 {p : Prop} (h : p := by rw [hg]; exact Nat.ne_of_gt (IsS83.lt (show IsS83 w0 _ g s0_0 s0_1 from cI13))) : p := h
theorem c13_8 {p : Prop} (h : p := by rw [hg]; exact (keep_size (w := w) (g := g) (row := none) (G.cK HK.out))) : p := h
theorem c13_9 {p : Prop} (h : p := by kernel_rfl) : p := h
theorem c13_10 {p : Prop} (h : p := by decide) : p := h
theorem cI13 {p : Prop} (h : p := by repeat (first | (with_reducible first | exact HI0.out | apply IsS83.alloc | apply IsS83.drewN | apply IsS83.drew | apply IsS83.set_1) | (with_reducible refine IsS83.far ?_ (Aside0.out (by assumption)) _) | exact HI0.out)) : p := h
theorem cBs13 {B : Nat} {w w1 w2 : World} (H : Below B w w1) (h : Below B w w2 := by repeat (first | (with_reducible first | exact HB.out | apply below_alloc | apply pw_below_drewN | apply below_drew1) | (with_reducible refine below_set ?_ (Aside0.out (by assumption))) | (with_reducible refine below_set ?_ (IsS83.ge HI0.out)) | exact HB.out)) : Below B w w2 := h
/-! ### spec_l71Spoil: function 78 -/
def spec_l71Spoil.f (k : Nat) (s0_0 : List Int) (s0_1 : Int) (a1_0 : Int) (l1_1 : List (S63)) : Option (Int × (List (S63)) × Int) := (spec_l1Copy.f a1_0 l1_1).bind fun bt551 => ((spec_l6Rd_pick.f k s0_0 s0_1 6).bind fun bt555 => (if bt555.1 = 0 then ((some (([(-1), 0, 1, 8, 9] : List Int) : List Int)).bind fun y557 => ((spec_l6Rd_pick.f k s0_0 bt555.2 5).bind fun bt560 => (if 0 ≤ bt560.1 then (if bt560.1 < (y557.length : Int) then (some (rd y557 bt560.1, bt551.2, bt560.2)) else (none)) else (none)))) else (if bt555.1 = 1 then ((spec_l6Rd_pick.f k s0_0 bt555.2 3).bind fun bt563 => ((spec_l6Rd_pick.f k s0_0 bt563.2 3).bind fun bt565 => (if bt551.2.length < 8796093022208 then (some (bt551.1, (bt551.2 ++ [(⟨bt563.1, bt565.1⟩ : S63)]), bt565.2)) else (none)))) else (if bt555.1 = 2 then (if bt551.2.length < 8796093022208 then (some (bt551.1, (bt551.2 ++ [(⟨wrap64 (bt551.1 - 1), bt551.1⟩ : S63)]), bt555.2)) else (none)) else (if bt555.1 = 3 then (if (bt551.2.length : Int) > 0 then ((spec_l6Rd_pick.f k s0_0 bt555.2 (bt551.2.length : Int)).bind fun bt573 => (if 0 ≤ bt573.1 then (if bt573.1 < (bt551.2.length : Int) then (some (bt551.1, (bt551.2.set (bt573.1 : Int).toNat (⟨(rd_T63 bt551.2 bt573.1).f1, (rd_T63 bt551.2 bt573.1).f0⟩ : S63)), bt573.2)) else (none)) else (none))) else (some (bt551.1, bt551.2, bt555.2))) else (if bt555.1 = 4 then (if (bt551.2.length : Int) > 1 then (if 0 < (bt551.2.length : Int) then (if bt551.2.length < 8796093022208 then (some (bt551.1, (bt551.2 ++ [(⟨(rd_T63 bt551.2 0).f0, (rd_T63 bt551.2 0).f1⟩ : S63)]), bt555.2)) else (none)) else (none)) else (some (bt551.1, bt551.2, bt555.2))) else ((some (([(⟨(-1), 0⟩ : S63)] : List (S63)) : List (S63))).bind fun y582 => (if y582.length + bt551.2.length < 8796093022208 then (some (bt551.1, (y582 ++ bt551.2), bt555.2)) else (none)))))))))
theorem spec_l71Spoil.mono : ∀ a0 a1 a2 a3 k, LeO (spec_l71Spoil.f k a0 a1 a2 a3) (spec_l71Spoil.f (k + 1) a0 a1 a2 a3) := by
 intro a0 a1 a2 a3 k
 unfold spec_l71Spoil.f
 repeat' first
   | (with_reducible exact spec_l6Rd_pick.mono _ _ _ _)
   | (with_reducible exact LeO.refl _)
   | (with_reducible exact LeO.none _)
   | (with_reducible refine LeO.ite ?_ ?_)
   | (with_reducible refine LeO.bind ?_ (fun _ => ?_))
   | exact spec_l6Rd_pick.mono _ _ _ _
   | exact LeO.none _
   | refine LeO.ite ?_ ?_
   | refine LeO.bind ?_ (fun _ => ?_)
def spec_l71Spoil.T7 : Bool × List (List Nat × List Nat) := (true, [([], []), ([0], [0]), ([], []), ([2], [2]), ([], []), ([4, 3], [4]), ([3, 5], [3, 5]), ([6], [6]), ([1, 7, 5], [1, 7]), ([0, 1, 2, 3, 4, 5, 6, 7, 8], []), ([9, 8, 8, 0, 1, 2, 3, 4, 5, 6, 7, 8], [8, 9])])
def spec_l71Spoil.B7 : List Nat := [0, 1, 0, 4, 0, 28, 60, 124, 255, 511, 1023]
theorem spec_l71Spoil.tab7 : rtab .any (opsOf Try.f78 7) = spec_l71Spoil.T7 := by kernel_rfl
theorem spec_l71Spoil.bits7 : waitsOk spec_l71Spoil.T7.2 spec_l71Spoil.B7 = true := by kernel_rfl
def spec_l71Spoil.T13 : Bool × List (List Nat × List Nat) := (true, [([], []), ([0], [0]), ([], []), ([], []), ([3], [3]), ([], []), ([4, 5], [4, 5]), ([6], [6]), ([7], [7]), ([], []), ([9], [9]), ([], []), ([10, 11], [10, 11]), ([12], [12]), ([13], [13]), ([8, 14], [8, 14]), ([1, 2, 0, 1, 2, 3, 4, 5, 6, 7, 8, 9, 10, 11, 12, 13, 14, 15], [1, 2]), ([16, 15, 0, 1, 2, 3, 4, 5, 6, 7, 8, 9, 10, 11, 12, 13, 14, 15], [15, 16])])
def spec_l71Spoil.B13 : List Nat := [0, 1, 0, 0, 8, 0, 56, 120, 248, 0, 512, 0, 3584, 7680, 15872, 32760, 65535, 131071]
theorem spec_l71Spoil.tab13 : rtab .any (opsOf Try.f78 13) = spec_l71Spoil.T13 := by kernel_rfl
theorem spec_l71Spoil.bits13 : waitsOk spec_l71Spoil.T13.2 spec_l71Spoil.B13 = true := by kernel_rfl
def spec_l71Spoil.T16 : Bool × List (List Nat × List Nat) := (true, [([], []), ([0], [0]), ([], []), ([2], [2]), ([3], [3]), ([4], [4]), ([5], [5]), ([1, 6], [1, 6]), ([0, 1, 2, 3, 4, 5, 6, 7], []), ([8, 7, 7, 0, 1, 2, 3, 4, 5, 6, 7], [7, 8])])
def spec_l71Spoil.B16 : List Nat := [0, 1, 0, 4, 12, 28, 60, 127, 255, 511]
theorem spec_l71Spoil.tab16 : rtab .any (opsOf Try.f78 16) = spec_l71Spoil.T16 := by kernel_rfl
theorem spec_l71Spoil.bits16 : waitsOk spec_l71Spoil.T16.2 spec_l71Spoil.B16 = true := by kernel_rfl
set_option maxHeartbeats 8000000 in
set_option maxRecDepth 100000 in
theorem spec_l71Spoil.calls (k : Nat) (g : Nat) (s0_0 : List Int) (s0_1 : Int) (a1_0 : Int) (A1_1 : Option Addr) (c1_1 : Nat) (l1_1 : List (S63)) (r1 : Int) (r2 : List (S63)) (r3 : Int) (w0 w : World) (hI : IsS83 w0 w g s0_0 s0_1) (hB : Below w0.heap.size w0 w) (hr1_1 : ∀ W_, KeepBut w W_ g none → Kd.C k63 W_ A1_1 l1_1.length l1_1) (hc1_1 : l1_1.length ≤ c1_1) (h : spec_l71Spoil.f k s0_0 s0_1 a1_0 l1_1 = some (r1, r2, r3)) :
  Calls Try.prog 78 #[.pointer (some ⟨g, 0, none⟩), .agg #[.int .i64 a1_0, .slice A1_1 l1_1.length c1_1]] w fun e w' => ∃ v1_ : Value, e = .returned (.agg #[.int .i64 r1, v1_]) ∧ Kd.R k63 63 w' w.heap.size (fun _ => True) v1_ r2 ∧ IsS83 w0 w' g s0_0 r3 ∧ Below w0.heap.size w0 w' ∧ KeepBut w w' g none := by
 have hu29 := Try.underlying29
 have hu63 := Try.underlying63
 have HR1_1 := Aside0.mk hr1_1
 have HC1_1 := Aside0.mk hc1_1
 clear hr1_1 hc1_1
 have HI0 := Aside0.mk hI
 have HK := Aside0.mk (KeepBut.refl w g none)
 have HL := Aside0.mk hB.size
 clear hI
 have HW0 := Aside0.mk hB.size
 have HB := Aside0.mk hB
 clear hB
 have H : ((spec_l1Copy.f a1_0 l1_1).bind fun bt551 => ((spec_l6Rd_pick.f k s0_0 s0_1 6).bind fun bt555 => (if bt555.1 = 0 then ((some (([(-1), 0, 1, 8, 9] : List Int) : List Int)).bind fun y557 => ((spec_l6Rd_pick.f k s0_0 bt555.2 5).bind fun bt560 => (if 0 ≤ bt560.1 then (if bt560.1 < (y557.length : Int) then (some (rd y557 bt560.1, bt551.2, bt560.2)) else (none)) else (none)))) else (if bt555.1 = 1 then ((spec_l6Rd_pick.f k s0_0 bt555.2 3).bind fun bt563 => ((spec_l6Rd_pick.f k s0_0 bt563.2 3).bind fun bt565 => (if bt551.2.length < 8796093022208 then (some (bt551.1, (bt551.2 ++ [(⟨bt563.1, bt565.1⟩ : S63)]), bt565.2)) else (none)))) else (if bt555.1 = 2 then (if bt551.2.length < 8796093022208 then (some (bt551.1, (bt551.2 ++ [(⟨wrap64 (bt551.1 - 1), bt551.1⟩ : S63)]), bt555.2)) else (none)) else (if bt555.1 = 3 then (if (bt551.2.length : Int) > 0 then ((spec_l6Rd_pick.f k s0_0 bt555.2 (bt551.2.length : Int)).bind fun bt573 => (if 0 ≤ bt573.1 then (if bt573.1 < (bt551.2.length : Int) then (some (bt551.1, (bt551.2.set (bt573.1 : Int).toNat (⟨(rd_T63 bt551.2 bt573.1).f1, (rd_T63 bt551.2 bt573.1).f0⟩ : S63)), bt573.2)) else (none)) else (none))) else (some (bt551.1, bt551.2, bt555.2))) else (if bt555.1 = 4 then (if (bt551.2.length : Int) > 1 then (if 0 < (bt551.2.length : Int) then (if bt551.2.length < 8796093022208 then (some (bt551.1, (bt551.2 ++ [(⟨(rd_T63 bt551.2 0).f0, (rd_T63 bt551.2 0).f1⟩ : S63)]), bt555.2)) else (none)) else (none)) else (some (bt551.1, bt551.2, bt555.2))) else ((some (([(⟨(-1), 0⟩ : S63)] : List (S63)) : List (S63))).bind fun y582 => (if y582.length + bt551.2.length < 8796093022208 then (some (bt551.1, (y582 ++ bt551.2), bt555.2)) else (none)))))))))) = some (r1, r2, r3) := h
 clear h
 replace H := Option.bind_eq_some_iff.mp H
 obtain ⟨⟨t551, t552⟩, A30, H⟩ := H
 replace H : ((spec_l6Rd_pick.f k s0_0 s0_1 6).bind fun bt555 => (if bt555.1 = 0 then ((some (([(-1), 0, 1, 8, 9] : List Int) : List Int)).bind fun y557 => ((spec_l6Rd_pick.f k s0_0 bt555.2 5).bind fun bt560 => (if 0 ≤ bt560.1 then (if bt560.1 < (y557.length : Int) then (some (rd y557 bt560.1, t552, bt560.2)) else (none)) else (none)))) else (if bt555.1 = 1 then ((spec_l6Rd_pick.f k s0_0 bt555.2 3).bind fun bt563 => ((spec_l6Rd_pick.f k s0_0 bt563.2 3).bind fun bt565 => (if t552.length < 8796093022208 then (some (t551, (t552 ++ [(⟨bt563.1, bt565.1⟩ : S63)]), bt565.2)) else (none)))) else (if bt555.1 = 2 then (if t552.length < 8796093022208 then (some (t551, (t552 ++ [(⟨wrap64 (t551 - 1), t551⟩ : S63)]), bt555.2)) else (none)) else (if bt555.1 = 3 then (if (t552.length : Int) > 0 then ((spec_l6Rd_pick.f k s0_0 bt555.2 (t552.length : Int)).bind fun bt573 => (if 0 ≤ bt573.1 then (if bt573.1 < (t552.length : Int) then (some (t551, (t552.set (bt573.1 : Int).toNat (⟨(rd_T63 t552 bt573.1).f1, (rd_T63 t552 bt573.1).f0⟩ : S63)), bt573.2)) else (none)) else (none))) else (some (t551, t552, bt555.2))) else (if bt555.1 = 4 then (if (t552.length : Int) > 1 then (if 0 < (t552.length : Int) then (if t552.length < 8796093022208 then (some (t551, (t552 ++ [(⟨(rd_T63 t552 0).f0, (rd_T63 t552 0).f1⟩ : S63)]), bt555.2)) else (none)) else (none)) else (some (t551, t552, bt555.2))) else ((some (([(⟨(-1), 0⟩ : S63)] : List (S63)) : List (S63))).bind fun y582 => (if y582.length + t552.length < 8796093022208 then (some (t551, (y582 ++ t552), bt555.2)) else (none))))))))) = some (r1, r2, r3) := H
 have A3 := Aside0.mk A30
 clear A30
 replace H := Option.bind_eq_some_iff.mp H
 obtain ⟨⟨t555, t556⟩, A40, H⟩ := H
 replace H : (if t555 = 0 then ((some (([(-1), 0, 1, 8, 9] : List Int) : List Int)).bind fun y557 => ((spec_l6Rd_pick.f k s0_0 t556 5).bind fun bt560 => (if 0 ≤ bt560.1 then (if bt560.1 < (y557.length : Int) then (some (rd y557 bt560.1, t552, bt560.2)) else (none)) else (none)))) else (if t555 = 1 then ((spec_l6Rd_pick.f k s0_0 t556 3).bind fun bt563 => ((spec_l6Rd_pick.f k s0_0 bt563.2 3).bind fun bt565 => (if t552.length < 8796093022208 then (some (t551, (t552 ++ [(⟨bt563.1, bt565.1⟩ : S63)]), bt565.2)) else (none)))) else (if t555 = 2 then (if t552.length < 8796093022208 then (some (t551, (t552 ++ [(⟨wrap64 (t551 - 1), t551⟩ : S63)]), t556)) else (none)) else (if t555 = 3 then (if (t552.length : Int) > 0 then ((spec_l6Rd_pick.f k s0_0 t556 (t552.length : Int)).bind fun bt573 => (if 0 ≤ bt573.1 then (if bt573.1 < (t552.length : Int) then (some (t551, (t552.set (bt573.1 : Int).toNat (⟨(rd_T63 t552 bt573.1).f1, (rd_T63 t552 bt573.1).f0⟩ : S63)), bt573.2)) else (none)) else (none))) else (some (t551, t552, t556))) else (if t555 = 4 then (if (t552.length : Int) > 1 then (if 0 < (t552.length : Int) then (if t552.length < 8796093022208 then (some (t551, (t552 ++ [(⟨(rd_T63 t552 0).f0, (rd_T63 t552 0).f1⟩ : S63)]), t556)) else (none)) else (none)) else (some (t551, t552, t556))) else ((some (([(⟨(-1), 0⟩ : S63)] : List (S63)) : List (S63))).bind fun y582 => (if y582.length + t552.length < 8796093022208 then (some (t551, (y582 ++ t552), t556)) else (none)))))))) = some (r1, r2, r3) := H
 have A4 := Aside0.mk A40
 clear A40
 by_cases c5 : t555 = 0
 ·rw [if_pos c5] at H
  have c5b0 : (t555 == 0) = true := beq_iff_eq.mpr c5
  have c5b1 : (t555 != 0) = false := bne_eq_false_iff_eq.mpr c5
  clear c5
  obtain ⟨y557, hy557⟩ : ∃ y_ : List Int, y_ = (([(-1), 0, 1, 8, 9] : List Int)) := ⟨_, rfl⟩
  replace H : ((spec_l6Rd_pick.f k s0_0 t556 5).bind fun bt560 => (if 0 ≤ bt560.1 then (if bt560.1 < (y557.length : Int) then (some (rd y557 bt560.1, t552, bt560.2)) else (none)) else (none))) = some (r1, r2, r3) := by first | (rw [hy557]; with_reducible exact H) | (have H2_ := (Option.bind_some _ _).symm.trans H; rw [hy557]; with_reducible exact H2_) | (have H2_ := (Option.bind_some _ _).symm.trans H; with_reducible exact H2_) | with_reducible exact H | (rw [hy557]; exact H) | exact H
  have Ny557 := Aside0.mk hy557
  clear hy557
  replace H := Option.bind_eq_some_iff.mp H
  obtain ⟨⟨t560, t561⟩, A60, H⟩ := H
  replace H : (if 0 ≤ t560 then (if t560 < (y557.length : Int) then (some (rd y557 t560, t552, t561)) else (none)) else (none)) = some (r1, r2, r3) := H
  have A6 := Aside0.mk A60
  clear A60
  by_cases c7 : 0 ≤ t560
  ·rw [if_pos c7] at H
   have c7b0 : decide (0 ≤ t560) = true := decide_eq_true c7
   clear c7
   by_cases c8 : t560 < (y557.length : Int)
   ·rw [if_pos c8] at H
    have c8b0 : decide (t560 < (y557.length : Int)) = true := decide_eq_true c8
    clear c8
    simp only [Option.some.injEq, Prod.mk.injEq] at H
    obtain ⟨rfl, rfl, rfl⟩ := H
    go_enter Try.func78, Try.ntmps78
    go_wp2_with (first | ((with_reducible refine gate_dst (N := 3) rfl ?_); refine G.be 3 #[.int .i64 a1_0, .slice A1_1 l1_1.length c1_1] 29 ?_; intro gb549 hg w9 hbox hb; have n0_ := Aside0.mk (IsS83.below (cI13) hb); have n1_ := Aside0.mk (KeepBut.trans (G.cK HK.out) (KeepBut.of_below hb g none) (.inl rfl)); have n2_ := Aside0.mk (below_step (cBs13 HB.out) hb); have n3_ := Aside0.mk (hbox); have n4_ := Aside0.mk ((c13_8 : w.heap.size ≤ gb549)); have n5_ := Aside0.mk ((Nat.le_trans HW0.out (c13_8 : w.heap.size ≤ gb549) : w0.heap.size ≤ gb549)); have n6_ := Aside0.mk ((c13_6 : g ≠ gb549)); have n7_ := Aside0.mk ((c13_7 : gb549 ≠ g)); clear HI0 HK HB; revert n0_ n1_ n2_ n3_ n4_ n5_ n6_ n7_; intro HI0 HK HB BK549 GW549 GE549 NB0_549 NB549_0; clear hb hbox hg) | ((with_reducible refine gate_dst (N := 4) rfl ?_); refine G.be 4 #[.int .i64 0, .slice none 0 0] 29 ?_; intro gb550 hg w10 hbox hb; have n0_ := Aside0.mk (IsS83.below (cI13) hb); have n1_ := Aside0.mk (blk_below (g := gb549) (o := .cells #[.int .i64 a1_0, .slice A1_1 l1_1.length c1_1] 29 (0, 0)) (G.cb BK549.out) hb); have n2_ := Aside0.mk (KeepBut.trans (G.cK HK.out) (KeepBut.of_below hb g none) (.inl rfl)); have n3_ := Aside0.mk (below_step (cBs13 HB.out) hb); have n4_ := Aside0.mk (hbox); have n5_ := Aside0.mk ((c13_8 : w.heap.size ≤ gb550)); have n6_ := Aside0.mk ((Nat.le_trans HW0.out (c13_8 : w.heap.size ≤ gb550) : w0.heap.size ≤ gb550)); have n7_ := Aside0.mk ((c13_4 : gb549 ≠ gb550)); have n8_ := Aside0.mk ((c13_5 : gb550 ≠ gb549)); have n9_ := Aside0.mk ((c13_6 : g ≠ gb550)); have n10_ := Aside0.mk ((c13_7 : gb550 ≠ g)); clear HI0 BK549 HK HB; revert n0_ n1_ n2_ n3_ n4_ n5_ n6_ n7_ n8_ n9_ n10_; intro HI0 BK549 HK HB BK550 GW550 GE550 NB549_550 NB550_549 NB0_550 NB550_0; clear hb hbox hg; have hnb11 := NB549_550.out; have hnc11 := NB550_549.out; have hnb12 := NB549_0.out; have hnc12 := NB0_549.out; have hcz13_0 : w10.cell? ⟨gb549, 0, none⟩ = some (.int .i64 a1_0) := (blk_cell BK549.out 0).trans rfl; have hcz13_1 : w10.cell? ⟨gb549, 1, none⟩ = some (.slice A1_1 l1_1.length c1_1) := (blk_cell BK549.out 1).trans rfl; have hfz13_0 := blk_frozen BK549.out 0; have hfz13_1 := blk_frozen BK549.out 1) | ((with_reducible refine gate_callee (f := 47) rfl ?_); refine goesL_ (some 7) rfl rfl Try.func47 (c13_9) rfl #[.agg #[.int .i64 a1_0, .slice A1_1 l1_1.length c1_1]] rfl (G.ar) ?_; (with_reducible refine (spec_l1Copy.calls a1_0 _ _ l1_1 t551 t552 _ ?side1 ?side2 A3.out).mono ?_); (case side1 => exact Kd.C_foot_now HR1_1.out (G.cK HK.out)); (case side2 => exact HC1_1.out); rintro e w14 ⟨v553, rfl, ho0, hb⟩; refine ⟨_, rfl, ?_⟩; have n0_ := Aside0.mk (Kd.R_lower ho0 (keep_size (w := w) (g := g) (row := none) (G.cK HK.out))); have n1_ := Aside0.mk (IsS83.below (cI13) hb); have n2_ := Aside0.mk (blk_below (g := gb549) (o := .cells #[.int .i64 a1_0, .slice A1_1 l1_1.length c1_1] 29 (0, 0)) (G.cb BK549.out) hb); have n3_ := Aside0.mk (blk_below (g := gb550) (o := .cells #[.int .i64 0, .slice none 0 0] 29 (0, 0)) (G.cb BK550.out) hb); have n4_ := Aside0.mk (KeepBut.trans (G.cK HK.out) (KeepBut.of_below hb g none) (.inl rfl)); have n5_ := Aside0.mk (below_step (cBs13 HB.out) hb); clear HI0 BK549 BK550 HK HB; revert n0_ n1_ n2_ n3_ n4_ n5_; intro HO554 HI0 BK549 BK550 HK HB; (try clear hb); (try clear hb2); (try clear hk); (try clear hi); (try clear ho0); have hcz15_0 : w14.cell? ⟨gb549, 0, none⟩ = some (.int .i64 a1_0) := (blk_cell BK549.out 0).trans rfl; have hcz15_1 : w14.cell? ⟨gb549, 1, none⟩ = some (.slice A1_1 l1_1.length c1_1) := (blk_cell BK549.out 1).trans rfl; have hfz15_0 := blk_frozen BK549.out 0; have hfz15_1 := blk_frozen BK549.out 1; obtain ⟨Ao16, co16, eo16⟩ := Kd.R_slice HO554.out; subst eo16) | ((with_reducible refine gate_callee (f := 56) rfl ?_); refine goesL_ (some 9) rfl rfl Try.func56 (c13_9) rfl #[.pointer (some ⟨g, 0, none⟩), .int .i64 6] rfl (G.ar) ?_; (with_reducible refine (spec_l6Rd_pick.calls k g s0_0 s0_1 6 t555 t556 w0 _ ?side1 ?side2 A4.out).mono ?_); (case side1 => exact cI13); (case side2 => exact cBs13 HB.out); rintro e w17 ⟨rfl, hi, hb, hk⟩; refine ⟨_, rfl, ?_⟩; have n0_ := Aside0.mk (KeepBut.blk hk (g' := gb549) (o := .cells #[.int .i64 t551, .slice Ao16 t552.length co16] 29 (0, 0)) (c13_1) NB549_0.out (by simp)); have n1_ := Aside0.mk (KeepBut.blk hk (g' := gb550) (o := .cells #[.int .i64 0, .slice none 0 0] 29 (0, 0)) (c13_3) NB550_0.out (by simp)); have n2_ := Aside0.mk (Kd.R_mono (Kd.R_keep (IsS83.apart (show IsS83 w0 _ g s0_0 s0_1 from cI13) (by (with_reducible repeat (first | apply Kd.R_alloc | apply Kd.R_drewN | apply Kd.R_drew)); exact (Kd.R_mono (Kd.R_far (p := ⟨gb549, 1, none⟩) (Kd.R_far (p := ⟨gb549, 0, none⟩) (Kd.R_types HO554.out BK549.out (c13_10)) (fun _ hk => hk.2) (.int .i64 t551)) (fun _ hk => hk.2) (.slice Ao16 t552.length co16)) (fun _ h_ => h_.1))) (c13_10)) hk (fun _ h => h.2)) (fun _ h => h.1)); have n3_ := Aside0.mk (KeepBut.trans (G.cK HK.out) hk (.inl rfl)); have n4_ := Aside0.mk (hb); have n5_ := Aside0.mk (hi); clear BK549 BK550 HO554 HK HB HI0; revert n0_ n1_ n2_ n3_ n4_ n5_; intro BK549 BK550 HO554 HK HB HI0; (try clear hb); (try clear hb2); (try clear hk); (try clear hi)) | ((with_reducible refine gate_dst (N := 18) rfl ?_); refine Kd.R_lit (Kd.int .i64) _ 3 ?hg (N := 18) ?hd (xs := ([(-1), 0, 1, 8, 9] : List Int)) (inner := [.int .i64 (-1), .int .i64 0, .int .i64 1, .int .i64 8, .int .i64 9]) (ok := fun _ => True) (okp := fun _ => True) ?hr ?hp (fun _ hk => hk) trivial (Below.refl _ _) (Nat.le_refl _) (by simp) ?_; (case hd => rfl); (case hg => rfl); (case hr => first | (go_simp; done) | (go_simp; rfl)); (case hp => exact (Reps.one (show Kd.M (Kd.int .i64) _ _ _ (-1) [.int .i64 (-1)] from rfl) (Reps.one (show Kd.M (Kd.int .i64) _ _ _ 0 [.int .i64 0] from rfl) (Reps.one (show Kd.M (Kd.int .i64) _ _ _ 1 [.int .i64 1] from rfl) (Reps.one (show Kd.M (Kd.int .i64) _ _ _ 8 [.int .i64 8] from rfl) (Reps.one (show Kd.M (Kd.int .i64) _ _ _ 9 [.int .i64 9] from rfl) (Reps.none _ _))))))); intro v558 w18 ho19 hb hg_ hnew_; clear hg_ hnew_; (first | rw [← Ny557.out] at ho19 | (simp only [Int.reduceToNat] at ho19; rw [← Ny557.out] at ho19)); have n0_ := Aside0.mk (Kd.R_below (G.cR HO554.out) hb); have n1_ := Aside0.mk (Kd.R_lower ho19 (keep_size (w := w) (g := g) (row := none) (G.cK HK.out))); have n2_ := Aside0.mk (IsS83.below (cI13) hb); have n3_ := Aside0.mk (blk_below (g := gb549) (o := .cells #[.int .i64 t551, .slice Ao16 t552.length co16] 29 (0, 0)) (G.cb BK549.out) hb); have n4_ := Aside0.mk (blk_below (g := gb550) (o := .cells #[.int .i64 0, .slice none 0 0] 29 (0, 0)) (G.cb BK550.out) hb); have n5_ := Aside0.mk (KeepBut.trans (G.cK HK.out) (KeepBut.of_below hb g none) (.inl rfl)); have n6_ := Aside0.mk (below_step (cBs13 HB.out) hb); clear HO554 HI0 BK549 BK550 HK HB; revert n0_ n1_ n2_ n3_ n4_ n5_ n6_; intro HO554 HO559 HI0 BK549 BK550 HK HB; clear hb ho19) | ((with_reducible refine gate_callee (f := 56) rfl ?_); refine goesL_ (some 20) rfl rfl Try.func56 (c13_9) rfl #[.pointer (some ⟨g, 0, none⟩), .int .i64 5] rfl (G.ar) ?_; (with_reducible refine (spec_l6Rd_pick.calls k g s0_0 t556 5 t560 t561 w0 _ ?side1 ?side2 A6.out).mono ?_); (case side1 => exact cI13); (case side2 => exact cBs13 HB.out); rintro e w20 ⟨rfl, hi, hb, hk⟩; refine ⟨_, rfl, ?_⟩; have n0_ := Aside0.mk (KeepBut.blk hk (g' := gb549) (o := .cells #[.int .i64 t551, .slice Ao16 t552.length co16] 29 (0, 0)) (G.cb BK549.out) NB549_0.out (by simp)); have n1_ := Aside0.mk (KeepBut.blk hk (g' := gb550) (o := .cells #[.int .i64 0, .slice none 0 0] 29 (0, 0)) (G.cb BK550.out) NB550_0.out (by simp)); have n2_ := Aside0.mk (Kd.R_mono (Kd.R_keep (IsS83.apart (show IsS83 w0 _ g s0_0 t556 from cI13) (G.cR HO554.out) (c13_10)) hk (fun _ h => h.2)) (fun _ h => h.1)); have n3_ := Aside0.mk (Kd.R_mono (Kd.R_keep (IsS83.apart (show IsS83 w0 _ g s0_0 t556 from cI13) (G.cR HO559.out) (c13_10)) hk (fun _ h => h.2)) (fun _ h => h.1)); have n4_ := Aside0.mk (KeepBut.trans (G.cK HK.out) hk (.inl rfl)); have n5_ := Aside0.mk (hb); have n6_ := Aside0.mk (hi); clear BK549 BK550 HO554 HO559 HK HB HI0; revert n0_ n1_ n2_ n3_ n4_ n5_ n6_; intro BK549 BK550 HO554 HO559 HK HB HI0; (try clear hb); (try clear hb2); (try clear hk); (try clear hi); obtain ⟨Ao21, co21, eo21⟩ := Kd.R_slice HO559.out; subst eo21; have p562 : 0 ≤ (t560 : Int) := of_decide_eq_true (G.asm); have q562 : t560 < (y557.length : Int) := of_decide_eq_true (G.asm); obtain ⟨ad562, e562, hx562_0⟩ := Kd.at_int (Kd.R_reads' HO559.out).2.2 t560 p562 q562; cases e562; replace p562 := eq_true p562; replace q562 := eq_true q562; have hcz22_0 : w20.cell? ⟨gb549, 0, none⟩ = some (.int .i64 t551) := (blk_cell BK549.out 0).trans rfl; have hcz22_1 : w20.cell? ⟨gb549, 1, none⟩ = some (.slice Ao16 t552.length co16) := (blk_cell BK549.out 1).trans rfl; have hfz22_0 := blk_frozen BK549.out 0; have hfz22_1 := blk_frozen BK549.out 1; have hnb23 := NB550_0.out; have hnc23 := NB0_550.out; have hcz24_0 : w20.cell? ⟨gb550, 0, none⟩ = some (.int .i64 0) := (blk_cell BK550.out 0).trans rfl; have hcz24_1 : w20.cell? ⟨gb550, 1, none⟩ = some (.slice none 0 0) := (blk_cell BK550.out 1).trans rfl; have hfz24_0 := blk_frozen BK550.out 0; have hfz24_1 := blk_frozen BK550.out 1))
    refine bodyPost_ret (results_cell_row rfl _ _ gb550 29 #[.int .i64 (rd y557 t560), .slice Ao16 t552.length co16] (0, 0) _ rfl (by (with_reducible repeat (first | refine blk_drewN ?_ _ | refine blk_drew ?_ | refine blk_alloc ?_ _)); refine blk_put (cs := #[.int .i64 (rd y557 t560), .slice none 0 0]) ?_ 1 _ rfl; (with_reducible repeat (first | refine blk_drewN ?_ _ | refine blk_drew ?_ | refine blk_alloc ?_ _)); refine blk_put (cs := #[.int .i64 0, .slice none 0 0]) ?_ 0 _ rfl; (with_reducible repeat (first | refine blk_drewN ?_ _ | refine blk_drew ?_ | refine blk_alloc ?_ _)); refine blk_far ?_ NB550_549.out _; (with_reducible repeat (first | refine blk_drewN ?_ _ | refine blk_drew ?_ | refine blk_alloc ?_ _)); exact BK550.out) Try.underlying29 rfl (c13_9)) rfl ?_
    exact ⟨_, by first | rfl | (simp [errW_none, errW_some] <;> rfl) | (simp [*, errW_none, errW_some] <;> rfl), by (with_reducible repeat (first | apply Kd.R_alloc | apply Kd.R_drewN | apply Kd.R_drew)); exact Kd.R_mono (Kd.R_far (p := ⟨gb550, 1, none⟩) (Kd.R_far (p := ⟨gb550, 0, none⟩) (Kd.R_far (p := ⟨gb549, 0, none⟩) (Kd.R_types (Kd.R_types HO554.out BK549.out (c13_10)) BK550.out (c13_10)) (fun _ hk => hk.1.2) (.int .i64 (rd y557 t560))) (fun _ hk => hk.2) (.int .i64 (rd y557 t560))) (fun _ hk => hk.2) (.slice Ao16 t552.length co16)) (fun _ hk => trivial), cI13, cBs13 HB.out, G.cK HK.out⟩
   ·rw [if_neg c8] at H
    exact absurd H (by simp)
  ·rw [if_neg c7] at H
   exact absurd H (by simp)
 ·rw [if_neg c5] at H
  have c5b0 : (t555 == 0) = false := beq_eq_false_iff_ne.mpr c5
  have c5b1 : (t555 != 0) = true := bne_iff_ne.mpr c5
  by_cases c25 : t555 = 1
  ·rw [if_pos c25] at H
   have c25b0 : (t555 == 1) = true := beq_iff_eq.mpr c25
   have c25b1 : (t555 != 1) = false := bne_eq_false_iff_eq.mpr c25
   clear c25
   replace H := Option.bind_eq_some_iff.mp H
   obtain ⟨⟨t563, t564⟩, A260, H⟩ := H
   replace H : ((spec_l6Rd_pick.f k s0_0 t564 3).bind fun bt565 => (if t552.length < 8796093022208 then (some (t551, (t552 ++ [(⟨t563, bt565.1⟩ : S63)]), bt565.2)) else (none))) = some (r1, r2, r3) := H
   have A26 := Aside0.mk A260
   clear A260
   replace H := Option.bind_eq_some_iff.mp H
   obtain ⟨⟨t565, t566⟩, A270, H⟩ := H
   replace H : (if t552.length < 8796093022208 then (some (t551, (t552 ++ [(⟨t563, t565⟩ : S63)]), t566)) else (none)) = some (r1, r2, r3) := H
   have A27 := Aside0.mk A270
   clear A270
   by_cases c28 : t552.length < 8796093022208
   ·rw [if_pos c28] at H
    have LMc28 := Aside0.mk c28
    clear c28
    obtain ⟨y567, hy567⟩ : ∃ y_ : List (S63), y_ = (t552 ++ [(⟨t563, t565⟩ : S63)]) := ⟨_, rfl⟩
    replace H : (some (t551, y567, t566)) = some (r1, r2, r3) := by first | (rw [hy567]; with_reducible exact H) | (have H2_ := (Option.bind_some _ _).symm.trans H; rw [hy567]; with_reducible exact H2_) | (have H2_ := (Option.bind_some _ _).symm.trans H; with_reducible exact H2_) | with_reducible exact H | (rw [hy567]; exact H) | exact H
    have Ny567 := Aside0.mk hy567
    clear hy567
    simp only [Option.some.injEq, Prod.mk.injEq] at H
    obtain ⟨rfl, rfl, rfl⟩ := H
    go_enter Try.func78, Try.ntmps78
    try go_wp2_with (first | ((with_reducible refine gate_dst (N := 3) rfl ?_); refine G.be 3 #[.int .i64 a1_0, .slice A1_1 l1_1.length c1_1] 29 ?_; intro gb549 hg w29 hbox hb; have n0_ := Aside0.mk (IsS83.below (cI13) hb); have n1_ := Aside0.mk (KeepBut.trans (G.cK HK.out) (KeepBut.of_below hb g none) (.inl rfl)); have n2_ := Aside0.mk (below_step (cBs13 HB.out) hb); have n3_ := Aside0.mk (hbox); have n4_ := Aside0.mk ((c13_8 : w.heap.size ≤ gb549)); have n5_ := Aside0.mk ((Nat.le_trans HW0.out (c13_8 : w.heap.size ≤ gb549) : w0.heap.size ≤ gb549)); have n6_ := Aside0.mk ((c13_6 : g ≠ gb549)); have n7_ := Aside0.mk ((c13_7 : gb549 ≠ g)); clear HI0 HK HB; revert n0_ n1_ n2_ n3_ n4_ n5_ n6_ n7_; intro HI0 HK HB BK549 GW549 GE549 NB0_549 NB549_0; clear hb hbox hg) | ((with_reducible refine gate_dst (N := 4) rfl ?_); refine G.be 4 #[.int .i64 0, .slice none 0 0] 29 ?_; intro gb550 hg w30 hbox hb; have n0_ := Aside0.mk (IsS83.below (cI13) hb); have n1_ := Aside0.mk (blk_below (g := gb549) (o := .cells #[.int .i64 a1_0, .slice A1_1 l1_1.length c1_1] 29 (0, 0)) (G.cb BK549.out) hb); have n2_ := Aside0.mk (KeepBut.trans (G.cK HK.out) (KeepBut.of_below hb g none) (.inl rfl)); have n3_ := Aside0.mk (below_step (cBs13 HB.out) hb); have n4_ := Aside0.mk (hbox); have n5_ := Aside0.mk ((c13_8 : w.heap.size ≤ gb550)); have n6_ := Aside0.mk ((Nat.le_trans HW0.out (c13_8 : w.heap.size ≤ gb550) : w0.heap.size ≤ gb550)); have n7_ := Aside0.mk ((c13_4 : gb549 ≠ gb550)); have n8_ := Aside0.mk ((c13_5 : gb550 ≠ gb549)); have n9_ := Aside0.mk ((c13_6 : g ≠ gb550)); have n10_ := Aside0.mk ((c13_7 : gb550 ≠ g)); clear HI0 BK549 HK HB; revert n0_ n1_ n2_ n3_ n4_ n5_ n6_ n7_ n8_ n9_ n10_; intro HI0 BK549 HK HB BK550 GW550 GE550 NB549_550 NB550_549 NB0_550 NB550_0; clear hb hbox hg; have hnb31 := NB549_550.out; have hnc31 := NB550_549.out; have hnb32 := NB549_0.out; have hnc32 := NB0_549.out; have hcz33_0 : w30.cell? ⟨gb549, 0, none⟩ = some (.int .i64 a1_0) := (blk_cell BK549.out 0).trans rfl; have hcz33_1 : w30.cell? ⟨gb549, 1, none⟩ = some (.slice A1_1 l1_1.length c1_1) := (blk_cell BK549.out 1).trans rfl; have hfz33_0 := blk_frozen BK549.out 0; have hfz33_1 := blk_frozen BK549.out 1) | ((with_reducible refine gate_callee (f := 47) rfl ?_); refine goesL_ (some 7) rfl rfl Try.func47 (c13_9) rfl #[.agg #[.int .i64 a1_0, .slice A1_1 l1_1.length c1_1]] rfl (G.ar) ?_; (with_reducible refine (spec_l1Copy.calls a1_0 _ _ l1_1 t551 t552 _ ?side1 ?side2 A3.out).mono ?_); (case side1 => exact Kd.C_foot_now HR1_1.out (G.cK HK.out)); (case side2 => exact HC1_1.out); rintro e w34 ⟨v553, rfl, ho0, hb⟩; refine ⟨_, rfl, ?_⟩; have n0_ := Aside0.mk (Kd.R_lower ho0 (keep_size (w := w) (g := g) (row := none) (G.cK HK.out))); have n1_ := Aside0.mk (IsS83.below (cI13) hb); have n2_ := Aside0.mk (blk_below (g := gb549) (o := .cells #[.int .i64 a1_0, .slice A1_1 l1_1.length c1_1] 29 (0, 0)) (G.cb BK549.out) hb); have n3_ := Aside0.mk (blk_below (g := gb550) (o := .cells #[.int .i64 0, .slice none 0 0] 29 (0, 0)) (G.cb BK550.out) hb); have n4_ := Aside0.mk (KeepBut.trans (G.cK HK.out) (KeepBut.of_below hb g none) (.inl rfl)); have n5_ := Aside0.mk (below_step (cBs13 HB.out) hb); clear HI0 BK549 BK550 HK HB; revert n0_ n1_ n2_ n3_ n4_ n5_; intro HO554 HI0 BK549 BK550 HK HB; (try clear hb); (try clear hb2); (try clear hk); (try clear hi); (try clear ho0); have hcz35_0 : w34.cell? ⟨gb549, 0, none⟩ = some (.int .i64 a1_0) := (blk_cell BK549.out 0).trans rfl; have hcz35_1 : w34.cell? ⟨gb549, 1, none⟩ = some (.slice A1_1 l1_1.length c1_1) := (blk_cell BK549.out 1).trans rfl; have hfz35_0 := blk_frozen BK549.out 0; have hfz35_1 := blk_frozen BK549.out 1; obtain ⟨Ao36, co36, eo36⟩ := Kd.R_slice HO554.out; subst eo36) | ((with_reducible refine gate_callee (f := 56) rfl ?_); refine goesL_ (some 9) rfl rfl Try.func56 (c13_9) rfl #[.pointer (some ⟨g, 0, none⟩), .int .i64 6] rfl (G.ar) ?_; (with_reducible refine (spec_l6Rd_pick.calls k g s0_0 s0_1 6 t555 t556 w0 _ ?side1 ?side2 A4.out).mono ?_); (case side1 => exact cI13); (case side2 => exact cBs13 HB.out); rintro e w37 ⟨rfl, hi, hb, hk⟩; refine ⟨_, rfl, ?_⟩; have n0_ := Aside0.mk (KeepBut.blk hk (g' := gb549) (o := .cells #[.int .i64 t551, .slice Ao36 t552.length co36] 29 (0, 0)) (c13_1) NB549_0.out (by simp)); have n1_ := Aside0.mk (KeepBut.blk hk (g' := gb550) (o := .cells #[.int .i64 0, .slice none 0 0] 29 (0, 0)) (c13_3) NB550_0.out (by simp)); have n2_ := Aside0.mk (Kd.R_mono (Kd.R_keep (IsS83.apart (show IsS83 w0 _ g s0_0 s0_1 from cI13) (by (with_reducible repeat (first | apply Kd.R_alloc | apply Kd.R_drewN | apply Kd.R_drew)); exact (Kd.R_mono (Kd.R_far (p := ⟨gb549, 1, none⟩) (Kd.R_far (p := ⟨gb549, 0, none⟩) (Kd.R_types HO554.out BK549.out (c13_10)) (fun _ hk => hk.2) (.int .i64 t551)) (fun _ hk => hk.2) (.slice Ao36 t552.length co36)) (fun _ h_ => h_.1))) (c13_10)) hk (fun _ h => h.2)) (fun _ h => h.1)); have n3_ := Aside0.mk (KeepBut.trans (G.cK HK.out) hk (.inl rfl)); have n4_ := Aside0.mk (hb); have n5_ := Aside0.mk (hi); clear BK549 BK550 HO554 HK HB HI0; revert n0_ n1_ n2_ n3_ n4_ n5_; intro BK549 BK550 HO554 HK HB HI0; (try clear hb); (try clear hb2); (try clear hk); (try clear hi)))
    have n0_ := Aside0.mk (Kd.R_drew HO554.out)
    have n1_ := Aside0.mk (blk_drew BK549.out)
    have n2_ := Aside0.mk (blk_drew BK550.out)
    have n3_ := Aside0.mk (IsS83.drew HI0.out)
    have n4_ := Aside0.mk (keep_drew HK.out)
    have n5_ := Aside0.mk (below_drew1 HB.out)
    clear HO554 BK549 BK550 HI0 HK HB
    revert n0_ n1_ n2_ n3_ n4_ n5_
    intro HO554 BK549 BK550 HI0 HK HB
    refine start_ (n := 11) (S := fun w' => w'.cell? ⟨gb549, 0, none⟩ = some (.int .i64 t551) ∧ w'.cell? ⟨gb549, 1, none⟩ = some (.slice Ao36 t552.length co36)) (ds := [10]) (G.fl 11 0) (c13_9) rfl (c13_9) ⟨(blk_cell BK549.out 0).trans rfl, (blk_cell BK549.out 1).trans rfl⟩ (fun hHeld => ?_); refine with_tabW spec_l71Spoil.tab7 spec_l71Spoil.bits7 (fun HT_ HW_ => ?_)
    generalize w37.drew = w38 at HO554 BK549 BK550 HI0 HK HB hHeld ⊢
    refine G.pu 0 (some 26) (G.fl 11 1) ?_
    refine G.pu 2 (some 28) (G.fl 11 5) ?_
    refine G.pu 4 (some 30) (G.fl 11 21) ?_
    refine G.ta2 1 (some 27) (G.fl 11 23) ?_
    refine one_ (i := 3) (N := some 29) (G.fl 11 31) rfl rfl (one_of HT_.out (c13_9)) (c13_10) (fun K hK => ?_)
    refine goes_ Try.func56 (c13_9) rfl #[.pointer (some ⟨g, 0, none⟩), .int .i64 3] (by rfl) rfl rfl (G.ar) ?_
    with_reducible refine (spec_l6Rd_pick.calls k g s0_0 t556 3 t563 t564 w0 _ ?side1 ?side2 A26.out).mono ?_
    (case side1 => exact cI13)
    (case side2 => exact cBs13 HB.out)
    rintro e w39 ⟨rfl, hi, hb, hk⟩
    refine ⟨_, rfl, ?_⟩
    have n0_ := Aside0.mk (KeepBut.blk hk (g' := gb549) (o := .cells #[.int .i64 t551, .slice Ao36 t552.length co36] 29 (0, 0)) (G.cb BK549.out) NB549_0.out (by simp))
    have n1_ := Aside0.mk (KeepBut.blk hk (g' := gb550) (o := .cells #[.int .i64 0, .slice none 0 0] 29 (0, 0)) (G.cb BK550.out) NB550_0.out (by simp))
    have n2_ := Aside0.mk (Kd.R_mono (Kd.R_keep (IsS83.apart (show IsS83 w0 _ g s0_0 t556 from cI13) (G.cR HO554.out) (c13_10)) hk (fun _ h => h.2)) (fun _ h => h.1))
    have n3_ := Aside0.mk (KeepBut.trans (G.cK HK.out) hk (.inl rfl))
    have n4_ := Aside0.mk (hb)
    have n5_ := Aside0.mk (hi)
    clear BK549 BK550 HO554 HK HB HI0
    revert n0_ n1_ n2_ n3_ n4_ n5_
    intro BK549 BK550 HO554 HK HB HI0
    (try clear hb)
    (try clear hb2)
    (try clear hk)
    (try clear hi)
    refine hK.out _ _ ⟨(blk_cell BK549.out 0).trans rfl, (blk_cell BK549.out 1).trans rfl⟩ (fun hHeld => ?_)
    clear hK K
    refine G.no (some 29) ?_
    refine one_ (i := 5) (N := some 31) (G.fl 11 63) rfl rfl (one_of HT_.out (c13_9)) (c13_10) (fun K hK => ?_)
    refine goes_ Try.func56 (c13_9) rfl #[.pointer (some ⟨g, 0, none⟩), .int .i64 3] (by rfl) rfl rfl (G.ar) ?_
    with_reducible refine (spec_l6Rd_pick.calls k g s0_0 t564 3 t565 t566 w0 _ ?side1 ?side2 A27.out).mono ?_
    (case side1 => exact cI13)
    (case side2 => exact cBs13 HB.out)
    rintro e w40 ⟨rfl, hi, hb, hk⟩
    refine ⟨_, rfl, ?_⟩
    have n0_ := Aside0.mk (KeepBut.blk hk (g' := gb549) (o := .cells #[.int .i64 t551, .slice Ao36 t552.length co36] 29 (0, 0)) (G.cb BK549.out) NB549_0.out (by simp))
    have n1_ := Aside0.mk (KeepBut.blk hk (g' := gb550) (o := .cells #[.int .i64 0, .slice none 0 0] 29 (0, 0)) (G.cb BK550.out) NB550_0.out (by simp))
    have n2_ := Aside0.mk (Kd.R_mono (Kd.R_keep (IsS83.apart (show IsS83 w0 _ g s0_0 t564 from cI13) (G.cR HO554.out) (c13_10)) hk (fun _ h => h.2)) (fun _ h => h.1))
    have n3_ := Aside0.mk (KeepBut.trans (G.cK HK.out) hk (.inl rfl))
    have n4_ := Aside0.mk (hb)
    have n5_ := Aside0.mk (hi)
    clear BK549 BK550 HO554 HK HB HI0
    revert n0_ n1_ n2_ n3_ n4_ n5_
    intro BK549 BK550 HO554 HK HB HI0
    (try clear hb)
    (try clear hb2)
    (try clear hk)
    (try clear hi)
    refine hK.out _ _ ⟨(blk_cell BK549.out 0).trans rfl, (blk_cell BK549.out 1).trans rfl⟩ (fun hHeld => ?_)
    clear hK K
    refine G.no (some 31) ?_
    refine G.pu 6 (some 32) (G.fl 11 127) ?_
    refine one_ (i := 7) (N := some 33) (G.fl 11 255) rfl rfl (one_of HT_.out (c13_9)) (c13_10) (fun K hK => ?_)
    refine value_ (w1 := ?_) (v := ?_) (by rfl) rfl ?_ ?_
    rotate_left 2
    ·go_simp
     constructor
     ·rfl
     ·rfl
    refine hK.out _ _ ⟨(blk_cell (blk_alloc BK549.out _) 0).trans rfl, (blk_cell (blk_alloc BK549.out _) 1).trans rfl⟩ (fun hHeld => ?_)
    clear hK K
    refine G.no (some 33) ?_
    refine one_ (i := 8) (N := some 34) (G.fl 11 511) rfl rfl (one_of HT_.out (c13_9)) (c13_10) (fun K hK => ?_)
    refine Kd.R_append_step k63 w.heap.size (by rfl) (.tmp 27) (.tmp 33) 27 63 (.agg #[(.int .i64 0), (.int .i64 0)]) 16 rfl Try.underlying27 info63 rfl (c13_10) (by omega) (.slice Ao36 t552.length co36) t552 (⟨t563, t565⟩ : S63) [.int .i64 t563, .int .i64 t565] (fun _ => True) (fun _ => False) rfl rfl ?aP (fun _ hk => hk.elim) ?aF ?aO (Below.refl _ _) ?aS ?aL ?_
    (case aP => exact k63_mkM _ _ _ (⟨t563, t565⟩ : S63))
    (case aF => exact (fun _ _ => trivial))
    (case aO => exact (G.cR HO554.out))
    (case aS => exact (keep_size (w := w) (g := g) (row := none) (G.cK HK.out)))
    (case aL => have := LMc28.out; omega)
    intro v568 w41 ho hb hg hat
    rw [← Ny567.out] at ho
    have n0_ := Aside0.mk (IsS83.grown (cI13) hg (IsS83.own_ne HI0.out HO554.out (c13_10)))
    have n1_ := Aside0.mk (blk_grown (g := gb549) (o := .cells #[.int .i64 t551, .slice Ao36 t552.length co36] 29 (0, 0)) (G.cb BK549.out) hg (Kd.R_ne HO554.out BK549.out (c13_10)))
    have n2_ := Aside0.mk (blk_grown (g := gb550) (o := .cells #[.int .i64 0, .slice none 0 0] 29 (0, 0)) (G.cb BK550.out) hg (Kd.R_ne HO554.out BK550.out (c13_10)))
    have n3_ := Aside0.mk (below_weaken (cBs13 HB.out) HL.out hb)
    have n4_ := Aside0.mk (KeepBut.trans (G.cK HK.out) (KeepBut.of_grown hg g) (Kd.R_base2 HO554.out))
    have n5_ := Aside0.mk (ho)
    clear HI0 BK549 BK550 HB HK HO554
    revert n0_ n1_ n2_ n3_ n4_ n5_
    intro HI0 BK549 BK550 HB HK HO569
    clear ho hb hg hat
    obtain ⟨Ao42, co42, eo42⟩ := Kd.R_slice HO569.out
    (first | subst eo42 | (injection eo42 with f1_ f2_ f3_; have f4_ := f1_.symm; have f5_ := f3_.symm; clear f1_ f2_ f3_; subst f4_; subst f5_))
    refine hK.out _ _ ⟨(blk_cell BK549.out 0).trans rfl, (blk_cell BK549.out 1).trans rfl⟩ (fun hHeld => ?_)
    clear hK K
    refine G.no (some 34) ?_
    refine G.pu 9 (some 35) (G.fl 11 1023) ?_
    refine last_ (i := 10) (N := none) (G.fl 11 2047) rfl rfl (one_of HT_.out (c13_9)) (c13_10) (fun K hK => ?_)
    have hs43 : w41.cell? ⟨gb549, 1, none⟩ = some (.slice Ao36 t552.length co36) := (blk_cell BK549.out 1).trans rfl
    have hfs43 := blk_frozen BK549.out 1
    have hns43_1 := NB550_549.out
    have hms43_1 := NB549_550.out
    refine skip_ (w1 := ?_) (by rfl) rfl ?_ ?_
    rotate_left
    ·go_simp
     rfl
    refine hK.out _ _ ?_
    clear hK K
    refine done_ (done_of HT_.out (c13_9)) ?_
    have hcz44_0 : w41.cell? ⟨gb549, 0, none⟩ = some (.int .i64 t551) := (blk_cell BK549.out 0).trans rfl
    have hcz44_1 : w41.cell? ⟨gb549, 1, none⟩ = some (.slice Ao36 t552.length co36) := (blk_cell BK549.out 1).trans rfl
    have hfz44_0 := blk_frozen BK549.out 0
    have hfz44_1 := blk_frozen BK549.out 1
    have hnb45 := NB550_0.out
    have hnc45 := NB0_550.out
    have hcz46_0 : w41.cell? ⟨gb550, 0, none⟩ = some (.int .i64 0) := (blk_cell BK550.out 0).trans rfl
    have hcz46_1 : w41.cell? ⟨gb550, 1, none⟩ = some (.slice none 0 0) := (blk_cell BK550.out 1).trans rfl
    have hfz46_0 := blk_frozen BK550.out 0
    have hfz46_1 := blk_frozen BK550.out 1
    try go_wp2
    refine bodyPost_ret (results_cell_row rfl _ _ gb550 29 #[.int .i64 t551, .slice Ao42 y567.length co42] (0, 0) _ rfl (c13_0) Try.underlying29 rfl (c13_9)) rfl ?_
    exact ⟨_, by first | rfl | (simp [errW_none, errW_some] <;> rfl) | (simp [*, errW_none, errW_some] <;> rfl), by (with_reducible repeat (first | apply Kd.R_alloc | apply Kd.R_drewN | apply Kd.R_drew)); exact Kd.R_mono (Kd.R_far (p := ⟨gb550, 1, none⟩) (Kd.R_far (p := ⟨gb550, 0, none⟩) (Kd.R_far (p := ⟨gb549, 1, none⟩) (Kd.R_types (Kd.R_types HO569.out BK549.out (c13_10)) BK550.out (c13_10)) (fun _ hk => hk.1.2) (.slice Ao42 y567.length co42)) (fun _ hk => hk.2) (.int .i64 t551)) (fun _ hk => hk.2) (.slice Ao42 y567.length co42)) (fun _ hk => trivial), cI13, cBs13 HB.out, G.cK HK.out⟩
   ·rw [if_neg c28] at H
    exact absurd H (by simp)
  ·rw [if_neg c25] at H
   have c25b0 : (t555 == 1) = false := beq_eq_false_iff_ne.mpr c25
   have c25b1 : (t555 != 1) = true := bne_iff_ne.mpr c25
   by_cases c47 : t555 = 2
   ·rw [if_pos c47] at H
    have c47b0 : (t555 == 2) = true := beq_iff_eq.mpr c47
    have c47b1 : (t555 != 2) = false := bne_eq_false_iff_eq.mpr c47
    clear c47
    by_cases c48 : t552.length < 8796093022208
    ·rw [if_pos c48] at H
     have LMc48 := Aside0.mk c48
     clear c48
     obtain ⟨y570, hy570⟩ : ∃ y_ : List (S63), y_ = (t552 ++ [(⟨wrap64 (t551 - 1), t551⟩ : S63)]) := ⟨_, rfl⟩
     replace H : (some (t551, y570, t556)) = some (r1, r2, r3) := by first | (rw [hy570]; with_reducible exact H) | (have H2_ := (Option.bind_some _ _).symm.trans H; rw [hy570]; with_reducible exact H2_) | (have H2_ := (Option.bind_some _ _).symm.trans H; with_reducible exact H2_) | with_reducible exact H | (rw [hy570]; exact H) | exact H
     have Ny570 := Aside0.mk hy570
     clear hy570
     simp only [Option.some.injEq, Prod.mk.injEq] at H
     obtain ⟨rfl, rfl, rfl⟩ := H
     go_enter Try.func78, Try.ntmps78
     go_wp2_with (first | ((with_reducible refine gate_dst (N := 3) rfl ?_); refine G.be 3 #[.int .i64 a1_0, .slice A1_1 l1_1.length c1_1] 29 ?_; intro gb549 hg w49 hbox hb; have n0_ := Aside0.mk (IsS83.below (cI13) hb); have n1_ := Aside0.mk (KeepBut.trans (G.cK HK.out) (KeepBut.of_below hb g none) (.inl rfl)); have n2_ := Aside0.mk (below_step (cBs13 HB.out) hb); have n3_ := Aside0.mk (hbox); have n4_ := Aside0.mk ((c13_8 : w.heap.size ≤ gb549)); have n5_ := Aside0.mk ((Nat.le_trans HW0.out (c13_8 : w.heap.size ≤ gb549) : w0.heap.size ≤ gb549)); have n6_ := Aside0.mk ((c13_6 : g ≠ gb549)); have n7_ := Aside0.mk ((c13_7 : gb549 ≠ g)); clear HI0 HK HB; revert n0_ n1_ n2_ n3_ n4_ n5_ n6_ n7_; intro HI0 HK HB BK549 GW549 GE549 NB0_549 NB549_0; clear hb hbox hg) | ((with_reducible refine gate_dst (N := 4) rfl ?_); refine G.be 4 #[.int .i64 0, .slice none 0 0] 29 ?_; intro gb550 hg w50 hbox hb; have n0_ := Aside0.mk (IsS83.below (cI13) hb); have n1_ := Aside0.mk (blk_below (g := gb549) (o := .cells #[.int .i64 a1_0, .slice A1_1 l1_1.length c1_1] 29 (0, 0)) (G.cb BK549.out) hb); have n2_ := Aside0.mk (KeepBut.trans (G.cK HK.out) (KeepBut.of_below hb g none) (.inl rfl)); have n3_ := Aside0.mk (below_step (cBs13 HB.out) hb); have n4_ := Aside0.mk (hbox); have n5_ := Aside0.mk ((c13_8 : w.heap.size ≤ gb550)); have n6_ := Aside0.mk ((Nat.le_trans HW0.out (c13_8 : w.heap.size ≤ gb550) : w0.heap.size ≤ gb550)); have n7_ := Aside0.mk ((c13_4 : gb549 ≠ gb550)); have n8_ := Aside0.mk ((c13_5 : gb550 ≠ gb549)); have n9_ := Aside0.mk ((c13_6 : g ≠ gb550)); have n10_ := Aside0.mk ((c13_7 : gb550 ≠ g)); clear HI0 BK549 HK HB; revert n0_ n1_ n2_ n3_ n4_ n5_ n6_ n7_ n8_ n9_ n10_; intro HI0 BK549 HK HB BK550 GW550 GE550 NB549_550 NB550_549 NB0_550 NB550_0; clear hb hbox hg; have hnb51 := NB549_550.out; have hnc51 := NB550_549.out; have hnb52 := NB549_0.out; have hnc52 := NB0_549.out; have hcz53_0 : w50.cell? ⟨gb549, 0, none⟩ = some (.int .i64 a1_0) := (blk_cell BK549.out 0).trans rfl; have hcz53_1 : w50.cell? ⟨gb549, 1, none⟩ = some (.slice A1_1 l1_1.length c1_1) := (blk_cell BK549.out 1).trans rfl; have hfz53_0 := blk_frozen BK549.out 0; have hfz53_1 := blk_frozen BK549.out 1) | ((with_reducible refine gate_callee (f := 47) rfl ?_); refine goesL_ (some 7) rfl rfl Try.func47 (c13_9) rfl #[.agg #[.int .i64 a1_0, .slice A1_1 l1_1.length c1_1]] rfl (G.ar) ?_; (with_reducible refine (spec_l1Copy.calls a1_0 _ _ l1_1 t551 t552 _ ?side1 ?side2 A3.out).mono ?_); (case side1 => exact Kd.C_foot_now HR1_1.out (G.cK HK.out)); (case side2 => exact HC1_1.out); rintro e w54 ⟨v553, rfl, ho0, hb⟩; refine ⟨_, rfl, ?_⟩; have n0_ := Aside0.mk (Kd.R_lower ho0 (keep_size (w := w) (g := g) (row := none) (G.cK HK.out))); have n1_ := Aside0.mk (IsS83.below (cI13) hb); have n2_ := Aside0.mk (blk_below (g := gb549) (o := .cells #[.int .i64 a1_0, .slice A1_1 l1_1.length c1_1] 29 (0, 0)) (G.cb BK549.out) hb); have n3_ := Aside0.mk (blk_below (g := gb550) (o := .cells #[.int .i64 0, .slice none 0 0] 29 (0, 0)) (G.cb BK550.out) hb); have n4_ := Aside0.mk (KeepBut.trans (G.cK HK.out) (KeepBut.of_below hb g none) (.inl rfl)); have n5_ := Aside0.mk (below_step (cBs13 HB.out) hb); clear HI0 BK549 BK550 HK HB; revert n0_ n1_ n2_ n3_ n4_ n5_; intro HO554 HI0 BK549 BK550 HK HB; (try clear hb); (try clear hb2); (try clear hk); (try clear hi); (try clear ho0); have hcz55_0 : w54.cell? ⟨gb549, 0, none⟩ = some (.int .i64 a1_0) := (blk_cell BK549.out 0).trans rfl; have hcz55_1 : w54.cell? ⟨gb549, 1, none⟩ = some (.slice A1_1 l1_1.length c1_1) := (blk_cell BK549.out 1).trans rfl; have hfz55_0 := blk_frozen BK549.out 0; have hfz55_1 := blk_frozen BK549.out 1; obtain ⟨Ao56, co56, eo56⟩ := Kd.R_slice HO554.out; subst eo56) | ((with_reducible refine gate_callee (f := 56) rfl ?_); refine goesL_ (some 9) rfl rfl Try.func56 (c13_9) rfl #[.pointer (some ⟨g, 0, none⟩), .int .i64 6] rfl (G.ar) ?_; (with_reducible refine (spec_l6Rd_pick.calls k g s0_0 s0_1 6 t555 t556 w0 _ ?side1 ?side2 A4.out).mono ?_); (case side1 => exact cI13); (case side2 => exact cBs13 HB.out); rintro e w57 ⟨rfl, hi, hb, hk⟩; refine ⟨_, rfl, ?_⟩; have n0_ := Aside0.mk (KeepBut.blk hk (g' := gb549) (o := .cells #[.int .i64 t551, .slice Ao56 t552.length co56] 29 (0, 0)) (c13_1) NB549_0.out (by simp)); have n1_ := Aside0.mk (KeepBut.blk hk (g' := gb550) (o := .cells #[.int .i64 0, .slice none 0 0] 29 (0, 0)) (c13_3) NB550_0.out (by simp)); have n2_ := Aside0.mk (Kd.R_mono (Kd.R_keep (IsS83.apart (show IsS83 w0 _ g s0_0 s0_1 from cI13) (by (with_reducible repeat (first | apply Kd.R_alloc | apply Kd.R_drewN | apply Kd.R_drew)); exact (Kd.R_mono (Kd.R_far (p := ⟨gb549, 1, none⟩) (Kd.R_far (p := ⟨gb549, 0, none⟩) (Kd.R_types HO554.out BK549.out (c13_10)) (fun _ hk => hk.2) (.int .i64 t551)) (fun _ hk => hk.2) (.slice Ao56 t552.length co56)) (fun _ h_ => h_.1))) (c13_10)) hk (fun _ h => h.2)) (fun _ h => h.1)); have n3_ := Aside0.mk (KeepBut.trans (G.cK HK.out) hk (.inl rfl)); have n4_ := Aside0.mk (hb); have n5_ := Aside0.mk (hi); clear BK549 BK550 HO554 HK HB HI0; revert n0_ n1_ n2_ n3_ n4_ n5_; intro BK549 BK550 HO554 HK HB HI0; (try clear hb); (try clear hb2); (try clear hk); (try clear hi); have hcz58_0 : w57.cell? ⟨gb549, 0, none⟩ = some (.int .i64 t551) := (blk_cell BK549.out 0).trans rfl; have hcz58_1 : w57.cell? ⟨gb549, 1, none⟩ = some (.slice Ao56 t552.length co56) := (blk_cell BK549.out 1).trans rfl; have hfz58_0 := blk_frozen BK549.out 0; have hfz58_1 := blk_frozen BK549.out 1) | ((with_reducible refine gate_builtin (b := .append) (xs := #[.tmp 39, .tmp 46]) rfl ?_); at_builtin; refine Kd.R_append k63 w.heap.size rfl (.tmp 39) (.tmp 46) 27 63 (.agg #[(.int .i64 0), (.int .i64 0)]) 16 rfl Try.underlying27 info63 rfl (c13_10) (by omega) (.slice Ao56 t552.length co56) t552 (⟨wrap64 (t551 - 1), t551⟩ : S63) [.int .i64 (wrap64 (t551 - 1)), .int .i64 t551] (fun _ => True) (fun _ => False) rfl rfl ?aP (fun _ hk => hk.elim) ?aF ?aO (Below.refl _ _) ?aS ?aL ?_; (case aP => exact k63_mkM _ _ _ (⟨wrap64 (t551 - 1), t551⟩ : S63)); (case aF => exact (fun _ _ => trivial)); (case aO => exact (G.cR HO554.out)); (case aS => exact (keep_size (w := w) (g := g) (row := none) (G.cK HK.out))); (case aL => have := LMc48.out; omega); intro v571 w59 ho hb hg hat; rw [← Ny570.out] at ho; have n0_ := Aside0.mk (IsS83.grown (cI13) hg (IsS83.own_ne HI0.out HO554.out (c13_10))); have n1_ := Aside0.mk (blk_grown (g := gb549) (o := .cells #[.int .i64 t551, .slice Ao56 t552.length co56] 29 (0, 0)) (G.cb BK549.out) hg (Kd.R_ne HO554.out BK549.out (c13_10))); have n2_ := Aside0.mk (blk_grown (g := gb550) (o := .cells #[.int .i64 0, .slice none 0 0] 29 (0, 0)) (G.cb BK550.out) hg (Kd.R_ne HO554.out BK550.out (c13_10))); have n3_ := Aside0.mk (below_weaken (cBs13 HB.out) HL.out hb); have n4_ := Aside0.mk (KeepBut.trans (G.cK HK.out) (KeepBut.of_grown hg g) (Kd.R_base2 HO554.out)); have n5_ := Aside0.mk (ho); clear HI0 BK549 BK550 HB HK HO554; revert n0_ n1_ n2_ n3_ n4_ n5_; intro HI0 BK549 BK550 HB HK HO572; clear ho hb hg hat; obtain ⟨Ao60, co60, eo60⟩ := Kd.R_slice HO572.out; subst eo60; have hcz61_0 : w59.cell? ⟨gb549, 0, none⟩ = some (.int .i64 t551) := (blk_cell BK549.out 0).trans rfl; have hcz61_1 : w59.cell? ⟨gb549, 1, none⟩ = some (.slice Ao56 t552.length co56) := (blk_cell BK549.out 1).trans rfl; have hfz61_0 := blk_frozen BK549.out 0; have hfz61_1 := blk_frozen BK549.out 1; have hnb62 := NB550_0.out; have hnc62 := NB0_550.out; have hcz63_0 : w59.cell? ⟨gb550, 0, none⟩ = some (.int .i64 0) := (blk_cell BK550.out 0).trans rfl; have hcz63_1 : w59.cell? ⟨gb550, 1, none⟩ = some (.slice none 0 0) := (blk_cell BK550.out 1).trans rfl; have hfz63_0 := blk_frozen BK550.out 0; have hfz63_1 := blk_frozen BK550.out 1))
     refine bodyPost_ret (results_cell_row rfl _ _ gb550 29 #[.int .i64 t551, .slice Ao60 y570.length co60] (0, 0) _ rfl (c13_0) Try.underlying29 rfl (c13_9)) rfl ?_
     exact ⟨_, by first | rfl | (simp [errW_none, errW_some] <;> rfl) | (simp [*, errW_none, errW_some] <;> rfl), by (with_reducible repeat (first | apply Kd.R_alloc | apply Kd.R_drewN | apply Kd.R_drew)); exact Kd.R_mono (Kd.R_far (p := ⟨gb550, 1, none⟩) (Kd.R_far (p := ⟨gb550, 0, none⟩) (Kd.R_far (p := ⟨gb549, 1, none⟩) (Kd.R_types (Kd.R_types HO572.out BK549.out (c13_10)) BK550.out (c13_10)) (fun _ hk => hk.1.2) (.slice Ao60 y570.length co60)) (fun _ hk => hk.2) (.int .i64 t551)) (fun _ hk => hk.2) (.slice Ao60 y570.length co60)) (fun _ hk => trivial), cI13, cBs13 HB.out, G.cK HK.out⟩
    ·rw [if_neg c48] at H
     exact absurd H (by simp)
   ·rw [if_neg c47] at H
    have c47b0 : (t555 == 2) = false := beq_eq_false_iff_ne.mpr c47
    have c47b1 : (t555 != 2) = true := bne_iff_ne.mpr c47
    by_cases c64 : t555 = 3
    ·rw [if_pos c64] at H
     have c64b0 : (t555 == 3) = true := beq_iff_eq.mpr c64
     have c64b1 : (t555 != 3) = false := bne_eq_false_iff_eq.mpr c64
     clear c64
     by_cases c65 : (t552.length : Int) > 0
     ·rw [if_pos c65] at H
      have c65b0 : decide (0 < (t552.length : Int)) = true := decide_eq_true c65
      have c65b1 : decide (0 < t552.length) = true := decide_eq_true (by omega)
      clear c65
      replace H := Option.bind_eq_some_iff.mp H
      obtain ⟨⟨t573, t574⟩, A660, H⟩ := H
      replace H : (if 0 ≤ t573 then (if t573 < (t552.length : Int) then (some (t551, (t552.set (t573 : Int).toNat (⟨(rd_T63 t552 t573).f1, (rd_T63 t552 t573).f0⟩ : S63)), t574)) else (none)) else (none)) = some (r1, r2, r3) := H
      have A66 := Aside0.mk A660
      clear A660
      by_cases c67 : 0 ≤ t573
      ·rw [if_pos c67] at H
       have c67b0 : decide (0 ≤ t573) = true := decide_eq_true c67
       clear c67
       by_cases c68 : t573 < (t552.length : Int)
       ·rw [if_pos c68] at H
        have c68b0 : decide (t573 < (t552.length : Int)) = true := decide_eq_true c68
        clear c68
        obtain ⟨y577, hy577⟩ : ∃ y_ : List (S63), y_ = (t552.set (t573 : Int).toNat (⟨(rd_T63 t552 t573).f1, (rd_T63 t552 t573).f0⟩ : S63)) := ⟨_, rfl⟩
        replace H : (some (t551, y577, t574)) = some (r1, r2, r3) := by first | (rw [hy577]; with_reducible exact H) | (have H2_ := (Option.bind_some _ _).symm.trans H; rw [hy577]; with_reducible exact H2_) | (have H2_ := (Option.bind_some _ _).symm.trans H; with_reducible exact H2_) | with_reducible exact H | (rw [hy577]; exact H) | exact H
        have Ny577 := Aside0.mk hy577
        clear hy577
        simp only [Option.some.injEq, Prod.mk.injEq] at H
        obtain ⟨rfl, rfl, rfl⟩ := H
        go_enter Try.func78, Try.ntmps78
        try go_wp2_with (first | ((with_reducible refine gate_dst (N := 3) rfl ?_); refine G.be 3 #[.int .i64 a1_0, .slice A1_1 l1_1.length c1_1] 29 ?_; intro gb549 hg w70 hbox hb; have n0_ := Aside0.mk (IsS83.below (cI13) hb); have n1_ := Aside0.mk (KeepBut.trans (G.cK HK.out) (KeepBut.of_below hb g none) (.inl rfl)); have n2_ := Aside0.mk (below_step (cBs13 HB.out) hb); have n3_ := Aside0.mk (hbox); have n4_ := Aside0.mk ((c13_8 : w.heap.size ≤ gb549)); have n5_ := Aside0.mk ((Nat.le_trans HW0.out (c13_8 : w.heap.size ≤ gb549) : w0.heap.size ≤ gb549)); have n6_ := Aside0.mk ((c13_6 : g ≠ gb549)); have n7_ := Aside0.mk ((c13_7 : gb549 ≠ g)); clear HI0 HK HB; revert n0_ n1_ n2_ n3_ n4_ n5_ n6_ n7_; intro HI0 HK HB BK549 GW549 GE549 NB0_549 NB549_0; clear hb hbox hg) | ((with_reducible refine gate_dst (N := 4) rfl ?_); refine G.be 4 #[.int .i64 0, .slice none 0 0] 29 ?_; intro gb550 hg w71 hbox hb; have n0_ := Aside0.mk (IsS83.below (cI13) hb); have n1_ := Aside0.mk (blk_below (g := gb549) (o := .cells #[.int .i64 a1_0, .slice A1_1 l1_1.length c1_1] 29 (0, 0)) (G.cb BK549.out) hb); have n2_ := Aside0.mk (KeepBut.trans (G.cK HK.out) (KeepBut.of_below hb g none) (.inl rfl)); have n3_ := Aside0.mk (below_step (cBs13 HB.out) hb); have n4_ := Aside0.mk (hbox); have n5_ := Aside0.mk ((c13_8 : w.heap.size ≤ gb550)); have n6_ := Aside0.mk ((Nat.le_trans HW0.out (c13_8 : w.heap.size ≤ gb550) : w0.heap.size ≤ gb550)); have n7_ := Aside0.mk ((c13_4 : gb549 ≠ gb550)); have n8_ := Aside0.mk ((c13_5 : gb550 ≠ gb549)); have n9_ := Aside0.mk ((c13_6 : g ≠ gb550)); have n10_ := Aside0.mk ((c13_7 : gb550 ≠ g)); clear HI0 BK549 HK HB; revert n0_ n1_ n2_ n3_ n4_ n5_ n6_ n7_ n8_ n9_ n10_; intro HI0 BK549 HK HB BK550 GW550 GE550 NB549_550 NB550_549 NB0_550 NB550_0; clear hb hbox hg; have hnb72 := NB549_550.out; have hnc72 := NB550_549.out; have hnb73 := NB549_0.out; have hnc73 := NB0_549.out; have hcz74_0 : w71.cell? ⟨gb549, 0, none⟩ = some (.int .i64 a1_0) := (blk_cell BK549.out 0).trans rfl; have hcz74_1 : w71.cell? ⟨gb549, 1, none⟩ = some (.slice A1_1 l1_1.length c1_1) := (blk_cell BK549.out 1).trans rfl; have hfz74_0 := blk_frozen BK549.out 0; have hfz74_1 := blk_frozen BK549.out 1) | ((with_reducible refine gate_callee (f := 47) rfl ?_); refine goesL_ (some 7) rfl rfl Try.func47 (c13_9) rfl #[.agg #[.int .i64 a1_0, .slice A1_1 l1_1.length c1_1]] rfl (G.ar) ?_; (with_reducible refine (spec_l1Copy.calls a1_0 _ _ l1_1 t551 t552 _ ?side1 ?side2 A3.out).mono ?_); (case side1 => exact Kd.C_foot_now HR1_1.out (G.cK HK.out)); (case side2 => exact HC1_1.out); rintro e w75 ⟨v553, rfl, ho0, hb⟩; refine ⟨_, rfl, ?_⟩; have n0_ := Aside0.mk (Kd.R_lower ho0 (keep_size (w := w) (g := g) (row := none) (G.cK HK.out))); have n1_ := Aside0.mk (IsS83.below (cI13) hb); have n2_ := Aside0.mk (blk_below (g := gb549) (o := .cells #[.int .i64 a1_0, .slice A1_1 l1_1.length c1_1] 29 (0, 0)) (G.cb BK549.out) hb); have n3_ := Aside0.mk (blk_below (g := gb550) (o := .cells #[.int .i64 0, .slice none 0 0] 29 (0, 0)) (G.cb BK550.out) hb); have n4_ := Aside0.mk (KeepBut.trans (G.cK HK.out) (KeepBut.of_below hb g none) (.inl rfl)); have n5_ := Aside0.mk (below_step (cBs13 HB.out) hb); clear HI0 BK549 BK550 HK HB; revert n0_ n1_ n2_ n3_ n4_ n5_; intro HO554 HI0 BK549 BK550 HK HB; (try clear hb); (try clear hb2); (try clear hk); (try clear hi); (try clear ho0); have hcz76_0 : w75.cell? ⟨gb549, 0, none⟩ = some (.int .i64 a1_0) := (blk_cell BK549.out 0).trans rfl; have hcz76_1 : w75.cell? ⟨gb549, 1, none⟩ = some (.slice A1_1 l1_1.length c1_1) := (blk_cell BK549.out 1).trans rfl; have hfz76_0 := blk_frozen BK549.out 0; have hfz76_1 := blk_frozen BK549.out 1; obtain ⟨Ao77, co77, eo77⟩ := Kd.R_slice HO554.out; subst eo77) | ((with_reducible refine gate_callee (f := 56) rfl ?_); refine goesL_ (some 9) rfl rfl Try.func56 (c13_9) rfl #[.pointer (some ⟨g, 0, none⟩), .int .i64 6] rfl (G.ar) ?_; (with_reducible refine (spec_l6Rd_pick.calls k g s0_0 s0_1 6 t555 t556 w0 _ ?side1 ?side2 A4.out).mono ?_); (case side1 => exact cI13); (case side2 => exact cBs13 HB.out); rintro e w78 ⟨rfl, hi, hb, hk⟩; refine ⟨_, rfl, ?_⟩; have n0_ := Aside0.mk (KeepBut.blk hk (g' := gb549) (o := .cells #[.int .i64 t551, .slice Ao77 t552.length co77] 29 (0, 0)) (c13_1) NB549_0.out (by simp)); have n1_ := Aside0.mk (KeepBut.blk hk (g' := gb550) (o := .cells #[.int .i64 0, .slice none 0 0] 29 (0, 0)) (c13_3) NB550_0.out (by simp)); have n2_ := Aside0.mk (Kd.R_mono (Kd.R_keep (IsS83.apart (show IsS83 w0 _ g s0_0 s0_1 from cI13) (by (with_reducible repeat (first | apply Kd.R_alloc | apply Kd.R_drewN | apply Kd.R_drew)); exact (Kd.R_mono (Kd.R_far (p := ⟨gb549, 1, none⟩) (Kd.R_far (p := ⟨gb549, 0, none⟩) (Kd.R_types HO554.out BK549.out (c13_10)) (fun _ hk => hk.2) (.int .i64 t551)) (fun _ hk => hk.2) (.slice Ao77 t552.length co77)) (fun _ h_ => h_.1))) (c13_10)) hk (fun _ h => h.2)) (fun _ h => h.1)); have n3_ := Aside0.mk (KeepBut.trans (G.cK HK.out) hk (.inl rfl)); have n4_ := Aside0.mk (hb); have n5_ := Aside0.mk (hi); clear BK549 BK550 HO554 HK HB HI0; revert n0_ n1_ n2_ n3_ n4_ n5_; intro BK549 BK550 HO554 HK HB HI0; (try clear hb); (try clear hb2); (try clear hk); (try clear hi); have hcz79_0 : w78.cell? ⟨gb549, 0, none⟩ = some (.int .i64 t551) := (blk_cell BK549.out 0).trans rfl; have hcz79_1 : w78.cell? ⟨gb549, 1, none⟩ = some (.slice Ao77 t552.length co77) := (blk_cell BK549.out 1).trans rfl; have hfz79_0 := blk_frozen BK549.out 0; have hfz79_1 := blk_frozen BK549.out 1) | ((with_reducible refine gate_callee (f := 56) rfl ?_); refine goesL_ (some 59) rfl rfl Try.func56 (c13_9) rfl #[.pointer (some ⟨g, 0, none⟩), .int .i64 (t552.length : Int)] rfl (G.ar) ?_; (with_reducible refine (spec_l6Rd_pick.calls k g s0_0 t556 (t552.length : Int) t573 t574 w0 _ ?side1 ?side2 A66.out).mono ?_); (case side1 => exact cI13); (case side2 => exact cBs13 HB.out); rintro e w80 ⟨rfl, hi, hb, hk⟩; refine ⟨_, rfl, ?_⟩; have n0_ := Aside0.mk (KeepBut.blk hk (g' := gb549) (o := .cells #[.int .i64 t551, .slice Ao77 t552.length co77] 29 (0, 0)) (G.cb BK549.out) NB549_0.out (by simp)); have n1_ := Aside0.mk (KeepBut.blk hk (g' := gb550) (o := .cells #[.int .i64 0, .slice none 0 0] 29 (0, 0)) (G.cb BK550.out) NB550_0.out (by simp)); have n2_ := Aside0.mk (Kd.R_mono (Kd.R_keep (IsS83.apart (show IsS83 w0 _ g s0_0 t556 from cI13) (G.cR HO554.out) (c13_10)) hk (fun _ h => h.2)) (fun _ h => h.1)); have n3_ := Aside0.mk (KeepBut.trans (G.cK HK.out) hk (.inl rfl)); have n4_ := Aside0.mk (hb); have n5_ := Aside0.mk (hi); clear BK549 BK550 HO554 HK HB HI0; revert n0_ n1_ n2_ n3_ n4_ n5_; intro BK549 BK550 HO554 HK HB HI0; (try clear hb); (try clear hb2); (try clear hk); (try clear hi)))
        have n0_ := Aside0.mk (Kd.R_drew HO554.out)
        have n1_ := Aside0.mk (blk_drew BK549.out)
        have n2_ := Aside0.mk (blk_drew BK550.out)
        have n3_ := Aside0.mk (IsS83.drew HI0.out)
        have n4_ := Aside0.mk (keep_drew HK.out)
        have n5_ := Aside0.mk (below_drew1 HB.out)
        clear HO554 BK549 BK550 HI0 HK HB
        revert n0_ n1_ n2_ n3_ n4_ n5_
        intro HO554 BK549 BK550 HI0 HK HB
        have p575 : 0 ≤ (t573 : Int) := of_decide_eq_true (G.asm)
        have q575 : t573 < (t552.length : Int) := of_decide_eq_true (G.asm)
        obtain ⟨ad575, e575, hx575_0, hx575_1⟩ := at_T63 (Kd.R_reads' HO554.out).2.2 t573 p575 q575
        cases e575
        replace p575 := eq_true p575
        replace q575 := eq_true q575
        have p576 : 0 ≤ (t573 : Int) := of_decide_eq_true (G.asm)
        have q576 : t573 < (t552.length : Int) := of_decide_eq_true (G.asm)
        obtain ⟨ad576, e576, hx576_0, hx576_1⟩ := at_T63 (Kd.R_reads' HO554.out).2.2 t573 p576 q576
        obtain rfl : ad575 = ad576 := (by injection e576)
        replace p576 := eq_true p576
        replace q576 := eq_true q576
        have p69 : 0 ≤ (t573 : Int) := of_decide_eq_true (G.asm)
        have q69 : (t573 : Int) < ((t552.length : Int) : Int) := of_decide_eq_true (G.asm)
        obtain ⟨go69, co69, eo69, gb69, gl69, cl69, HG69⟩ := Kd.R_form HO554.out (by omega)
        (first | cases eo69 | (injection eo69 with ea_ en_ ec_; (first | subst ea_ | (injection ea_ with ea_; subst ea_)); subst ec_; clear en_))
        have GB69 := Aside0.mk gb69
        have GG69 := Aside0.mk HG69
        clear gb69 gl69 HG69
        (first | simp only [add_plain] at hx575_0 | skip)
        (first | simp only [add_plain] at hx575_1 | skip)
        (first | simp only [add_plain] at hx576_0 | skip)
        (first | simp only [add_plain] at hx576_1 | skip)
        obtain ⟨ce69, hcl69, hM69, hcc69, hfr69⟩ := Kd.R_elem HO554.out z63 (t573 : Int) p69 q69
        obtain rfl := k63_openM hM69
        have hx69_0 : World.cell? _ ⟨go69, (t573 : Int).toNat * 2, none⟩ = some (.int .i64 ((rd_T63 t552 t573).f0)) := hcc69 0 _ rfl
        have hx69_1 : World.cell? _ ⟨go69, (t573 : Int).toNat * 2 + 1, none⟩ = some (.int .i64 ((rd_T63 t552 t573).f1)) := hcc69 1 _ rfl
        have hf69_0 : World.frozen? _ ⟨go69, (t573 : Int).toNat * 2, none⟩ = false := hfr69 0
        have hf69_1 : World.frozen? _ ⟨go69, (t573 : Int).toNat * 2 + 1, none⟩ = false := hfr69 1
        clear hcl69 hcc69 hfr69 hM69
        replace p69 := eq_true p69
        replace q69 := eq_true q69
        have HN0_go69 := Aside0.mk (show g ≠ go69 from by have h_ := IsS83.own_ne HI0.out HO554.out (c13_10); intro e_; exact h_ (by rw [e_]; rfl))
        obtain ⟨ce82, hcl82, hM82, hcc82, hfr82⟩ := Kd.R_elem HO554.out z63 (t573 : Int) (of_decide_eq_true (G.asm)) (by have h_ : (t573 : Int) < ((t552.length : Int) : Int) := of_decide_eq_true (G.asm); first | exact h_ | (have e_ := (Kd.R_reads' HO554.out).1; omega) | simpa using h_)
        obtain rfl := k63_openM hM82
        have HP82 := (Kd.R_seg HO554.out (t573 : Int) (of_decide_eq_true (G.asm)) (by have h_ : (t573 : Int) < ((t552.length : Int) : Int) := of_decide_eq_true (G.asm); first | exact h_ | (have e_ := (Kd.R_reads' HO554.out).1; omega) | simpa using h_) (seg := [.int .i64 ((rd_T63 t552 t573).f1), .int .i64 ((rd_T63 t552 t573).f0)]) (j := 0) hcl82 hcc82 (show 2 ≤ 2 from by decide) (x' := (⟨(rd_T63 t552 t573).f1, (rd_T63 t552 t573).f0⟩ : S63)) (k63_mkM _ _ _ (⟨(rd_T63 t552 t573).f1, (rd_T63 t552 t573).f0⟩ : S63) ) (fun _ hk => hk)).1
        rw [← Ny577.out] at HP82
        have HQ82 := Aside0.mk HP82
        clear hcl82 hcc82 hfr82 hM82 HP82
        refine start_ (n := 18) (S := fun w' => w'.cell? ⟨gb549, 0, none⟩ = some (.int .i64 t551) ∧ w'.cell? ⟨gb549, 1, none⟩ = some (.slice (some ⟨go69, 0, none⟩) t552.length co77) ∧ w'.cell? ⟨go69, ((t573).toNat * 2), none⟩ = some (.int .i64 ((rd_T63 t552 t573).f0)) ∧ w'.cell? ⟨go69, ((t573).toNat * 2) + 1, none⟩ = some (.int .i64 ((rd_T63 t552 t573).f1)) ∧ w'.cell? ⟨go69, ((t573).toNat * 2), none⟩ = some (.int .i64 ((rd_T63 t552 t573).f0)) ∧ w'.cell? ⟨go69, ((t573).toNat * 2) + 1, none⟩ = some (.int .i64 ((rd_T63 t552 t573).f1))) (ds := [17]) (G.fl 18 0) (c13_9) rfl (c13_9) ⟨(blk_cell BK549.out 0).trans rfl, (blk_cell BK549.out 1).trans rfl, hx575_0, hx575_1, hx576_0, hx576_1⟩ (fun hHeld => ?_); refine with_tabW spec_l71Spoil.tab13 spec_l71Spoil.bits13 (fun HT_ HW_ => ?_)
        generalize w80.drew = w81 at HO554 BK549 BK550 HI0 HK HB GG69 HQ82 hf69_0 hf69_1 hx575_0 hx575_1 hx576_0 hx576_1 hx69_0 hx69_1 hHeld ⊢
        refine G.pu 0 (some 60) (G.fl 18 1) ?_
        refine G.pu 2 (some 62) (G.fl 18 5) ?_
        refine G.pu 3 (some 63) (G.fl 18 13) ?_
        refine G.pu 5 (some 65) (G.fl 18 45) ?_
        refine G.pu 9 (some 69) (G.fl 18 557) ?_
        refine G.pu 11 (some 71) (G.fl 18 2605) ?_
        refine G.ta6 1 (some 61) (G.fl 18 2607) ?_
        refine G.ta6 4 (some 64) (G.fl 18 2623) ?_
        refine G.pu 6 (some 66) (G.fl 18 2687) ?_
        refine G.pu 7 (some 67) (G.fl 18 2815) ?_
        refine G.ta6 8 (some 68) (G.fl 18 3071) ?_
        refine G.ta6 10 (some 70) (G.fl 18 4095) ?_
        refine G.pu 12 (some 72) (G.fl 18 8191) ?_
        refine G.pu 13 (some 73) (G.fl 18 16383) ?_
        refine G.ta6 14 (some 74) (G.fl 18 32767) ?_
        refine G.pu 15 (some 75) (G.fl 18 65535) ?_
        refine G.pu 16 (some 76) (G.fl 18 131071) ?_
        refine last_ (i := 17) (N := none) (G.fl 18 262143) rfl rfl (one_of HT_.out (c13_9)) (c13_10) (fun K hK => ?_)
        refine skip_ (w1 := ?_) (by rfl) rfl ?_ ?_
        rotate_left
        ·go_simp
         rfl
        refine hK.out _ _ ?_
        clear hK K
        refine done_ (done_of HT_.out (c13_9)) ?_
        have n0_ : Aside0 (Kd.R k63 63 ((w81.setCell ⟨go69, (t573 : Int).toNat * 2, none⟩ (.int .i64 ((rd_T63 t552 t573).f1))).setCell ⟨go69, (t573 : Int).toNat * 2 + 1, none⟩ (.int .i64 ((rd_T63 t552 t573).f0))) w.heap.size (fun _ => True) (.slice (some ⟨go69, 0, none⟩) t552.length co77) y577) := ⟨G.cR HQ82.out⟩
        have n1_ : Aside0 (((w81.setCell ⟨go69, (t573 : Int).toNat * 2, none⟩ (.int .i64 ((rd_T63 t552 t573).f1))).setCell ⟨go69, (t573 : Int).toNat * 2 + 1, none⟩ (.int .i64 ((rd_T63 t552 t573).f0))).heap[gb549]? = some (.cells #[.int .i64 t551, .slice (some ⟨go69, 0, none⟩) t552.length co77] 29 (0, 0))) := ⟨by (with_reducible repeat (first | refine blk_drewN ?_ _ | refine blk_drew ?_ | refine blk_alloc ?_ _)); refine blk_far ?_ (by have h_ := Kd.R_ne HO554.out BK549.out (c13_10); intro e_; exact h_ (by rw [e_]; rfl)) _; (with_reducible repeat (first | refine blk_drewN ?_ _ | refine blk_drew ?_ | refine blk_alloc ?_ _)); refine blk_far ?_ (by have h_ := Kd.R_ne HO554.out BK549.out (c13_10); intro e_; exact h_ (by rw [e_]; rfl)) _; (with_reducible repeat (first | refine blk_drewN ?_ _ | refine blk_drew ?_ | refine blk_alloc ?_ _)); exact BK549.out⟩
        have n2_ : Aside0 (((w81.setCell ⟨go69, (t573 : Int).toNat * 2, none⟩ (.int .i64 ((rd_T63 t552 t573).f1))).setCell ⟨go69, (t573 : Int).toNat * 2 + 1, none⟩ (.int .i64 ((rd_T63 t552 t573).f0))).heap[gb550]? = some (.cells #[.int .i64 0, .slice none 0 0] 29 (0, 0))) := ⟨by (with_reducible repeat (first | refine blk_drewN ?_ _ | refine blk_drew ?_ | refine blk_alloc ?_ _)); refine blk_far ?_ (by have h_ := Kd.R_ne HO554.out BK550.out (c13_10); intro e_; exact h_ (by rw [e_]; rfl)) _; (with_reducible repeat (first | refine blk_drewN ?_ _ | refine blk_drew ?_ | refine blk_alloc ?_ _)); refine blk_far ?_ (by have h_ := Kd.R_ne HO554.out BK550.out (c13_10); intro e_; exact h_ (by rw [e_]; rfl)) _; (with_reducible repeat (first | refine blk_drewN ?_ _ | refine blk_drew ?_ | refine blk_alloc ?_ _)); exact BK550.out⟩
        have n3_ : Aside0 (IsS83 w0 ((w81.setCell ⟨go69, (t573 : Int).toNat * 2, none⟩ (.int .i64 ((rd_T63 t552 t573).f1))).setCell ⟨go69, (t573 : Int).toNat * 2 + 1, none⟩ (.int .i64 ((rd_T63 t552 t573).f0))) g s0_0 t574) := ⟨by repeat (first | (with_reducible first | exact HI0.out | apply IsS83.alloc | apply IsS83.drewN | apply IsS83.drew | apply IsS83.set_1 | refine IsS83.far ?_ HN0_go69.out _ | refine IsS83.far ?_ HN0_go69.out _ | refine IsS83.far ?_ NB0_549.out _ | refine IsS83.far ?_ NB0_550.out _) | exact HI0.out)⟩
        have n4_ : Aside0 (KeepBut w ((w81.setCell ⟨go69, (t573 : Int).toNat * 2, none⟩ (.int .i64 ((rd_T63 t552 t573).f1))).setCell ⟨go69, (t573 : Int).toNat * 2 + 1, none⟩ (.int .i64 ((rd_T63 t552 t573).f0))) g none) := ⟨by repeat (first | (with_reducible first | exact HK.out | apply KeepBut.set_ | apply keep_drewN | apply keep_drew | apply keep_alloc | refine keep_far ?_ GB69.out _ | refine keep_far ?_ GB69.out _ | refine keep_far ?_ GW549.out _ | refine keep_far ?_ GW550.out _) | exact HK.out)⟩
        have n5_ : Aside0 (Below w0.heap.size w0 ((w81.setCell ⟨go69, (t573 : Int).toNat * 2, none⟩ (.int .i64 ((rd_T63 t552 t573).f1))).setCell ⟨go69, (t573 : Int).toNat * 2 + 1, none⟩ (.int .i64 ((rd_T63 t552 t573).f0)))) := ⟨by repeat (first | (with_reducible first | exact HB.out | apply below_alloc | apply pw_below_drewN | apply below_drew1 | refine below_set ?_ (Nat.le_trans HL.out GB69.out) | refine below_set ?_ (Nat.le_trans HL.out GB69.out) | refine below_set ?_ (IsS83.ge HI0.out) | refine below_set ?_ GE549.out | refine below_set ?_ GE550.out) | exact HB.out)⟩
        (try clear HO554)
        (try clear BK549)
        (try clear BK550)
        (try clear HI0)
        (try clear HK)
        (try clear HB)
        generalize ((w81.setCell ⟨go69, (t573 : Int).toNat * 2, none⟩ (.int .i64 ((rd_T63 t552 t573).f1))).setCell ⟨go69, (t573 : Int).toNat * 2 + 1, none⟩ (.int .i64 ((rd_T63 t552 t573).f0))) = w83 at n0_ n1_ n2_ n3_ n4_ n5_ ⊢
        revert n0_ n1_ n2_ n3_ n4_ n5_
        intro HO554 BK549 BK550 HI0 HK HB
        have hcz84_0 : w83.cell? ⟨gb549, 0, none⟩ = some (.int .i64 t551) := (blk_cell BK549.out 0).trans rfl
        have hcz84_1 : w83.cell? ⟨gb549, 1, none⟩ = some (.slice (some ⟨go69, 0, none⟩) t552.length co77) := (blk_cell BK549.out 1).trans rfl
        have hfz84_0 := blk_frozen BK549.out 0
        have hfz84_1 := blk_frozen BK549.out 1
        have hnb85 := NB550_0.out
        have hnc85 := NB0_550.out
        have hcz86_0 : w83.cell? ⟨gb550, 0, none⟩ = some (.int .i64 0) := (blk_cell BK550.out 0).trans rfl
        have hcz86_1 : w83.cell? ⟨gb550, 1, none⟩ = some (.slice none 0 0) := (blk_cell BK550.out 1).trans rfl
        have hfz86_0 := blk_frozen BK550.out 0
        have hfz86_1 := blk_frozen BK550.out 1
        try go_wp2
        refine bodyPost_ret (results_cell_row rfl _ _ gb550 29 #[.int .i64 t551, .slice (some ⟨go69, 0, none⟩) t552.length co77] (0, 0) _ rfl (c13_2) Try.underlying29 rfl (c13_9)) rfl ?_
        exact ⟨_, by first | rfl | (simp [errW_none, errW_some] <;> rfl) | (simp [*, errW_none, errW_some] <;> rfl), by (with_reducible repeat (first | apply Kd.R_alloc | apply Kd.R_drewN | apply Kd.R_drew)); exact Kd.R_mono (Kd.R_far (p := ⟨gb550, 1, none⟩) (Kd.R_far (p := ⟨gb550, 0, none⟩) (Kd.R_types HO554.out BK550.out (c13_10)) (fun _ hk => hk.2) (.int .i64 t551)) (fun _ hk => hk.2) (.slice (some ⟨go69, 0, none⟩) t552.length co77)) (fun _ hk => trivial), cI13, cBs13 HB.out, G.cK HK.out⟩
       ·rw [if_neg c68] at H
        exact absurd H (by simp)
      ·rw [if_neg c67] at H
       exact absurd H (by simp)
     ·rw [if_neg c65] at H
      have c65b0 : decide (0 < (t552.length : Int)) = false := decide_eq_false c65
      have c65b1 : decide (0 < t552.length) = false := decide_eq_false (by omega)
      clear c65
      simp only [Option.some.injEq, Prod.mk.injEq] at H
      obtain ⟨rfl, rfl, rfl⟩ := H
      go_enter Try.func78, Try.ntmps78
      go_wp2_with (first | ((with_reducible refine gate_dst (N := 3) rfl ?_); refine G.be 3 #[.int .i64 a1_0, .slice A1_1 l1_1.length c1_1] 29 ?_; intro gb549 hg w87 hbox hb; have n0_ := Aside0.mk (IsS83.below (cI13) hb); have n1_ := Aside0.mk (KeepBut.trans (G.cK HK.out) (KeepBut.of_below hb g none) (.inl rfl)); have n2_ := Aside0.mk (below_step (cBs13 HB.out) hb); have n3_ := Aside0.mk (hbox); have n4_ := Aside0.mk ((c13_8 : w.heap.size ≤ gb549)); have n5_ := Aside0.mk ((Nat.le_trans HW0.out (c13_8 : w.heap.size ≤ gb549) : w0.heap.size ≤ gb549)); have n6_ := Aside0.mk ((c13_6 : g ≠ gb549)); have n7_ := Aside0.mk ((c13_7 : gb549 ≠ g)); clear HI0 HK HB; revert n0_ n1_ n2_ n3_ n4_ n5_ n6_ n7_; intro HI0 HK HB BK549 GW549 GE549 NB0_549 NB549_0; clear hb hbox hg) | ((with_reducible refine gate_dst (N := 4) rfl ?_); refine G.be 4 #[.int .i64 0, .slice none 0 0] 29 ?_; intro gb550 hg w88 hbox hb; have n0_ := Aside0.mk (IsS83.below (cI13) hb); have n1_ := Aside0.mk (blk_below (g := gb549) (o := .cells #[.int .i64 a1_0, .slice A1_1 l1_1.length c1_1] 29 (0, 0)) (G.cb BK549.out) hb); have n2_ := Aside0.mk (KeepBut.trans (G.cK HK.out) (KeepBut.of_below hb g none) (.inl rfl)); have n3_ := Aside0.mk (below_step (cBs13 HB.out) hb); have n4_ := Aside0.mk (hbox); have n5_ := Aside0.mk ((c13_8 : w.heap.size ≤ gb550)); have n6_ := Aside0.mk ((Nat.le_trans HW0.out (c13_8 : w.heap.size ≤ gb550) : w0.heap.size ≤ gb550)); have n7_ := Aside0.mk ((c13_4 : gb549 ≠ gb550)); have n8_ := Aside0.mk ((c13_5 : gb550 ≠ gb549)); have n9_ := Aside0.mk ((c13_6 : g ≠ gb550)); have n10_ := Aside0.mk ((c13_7 : gb550 ≠ g)); clear HI0 BK549 HK HB; revert n0_ n1_ n2_ n3_ n4_ n5_ n6_ n7_ n8_ n9_ n10_; intro HI0 BK549 HK HB BK550 GW550 GE550 NB549_550 NB550_549 NB0_550 NB550_0; clear hb hbox hg; have hnb89 := NB549_550.out; have hnc89 := NB550_549.out; have hnb90 := NB549_0.out; have hnc90 := NB0_549.out; have hcz91_0 : w88.cell? ⟨gb549, 0, none⟩ = some (.int .i64 a1_0) := (blk_cell BK549.out 0).trans rfl; have hcz91_1 : w88.cell? ⟨gb549, 1, none⟩ = some (.slice A1_1 l1_1.length c1_1) := (blk_cell BK549.out 1).trans rfl; have hfz91_0 := blk_frozen BK549.out 0; have hfz91_1 := blk_frozen BK549.out 1) | ((with_reducible refine gate_callee (f := 47) rfl ?_); refine goesL_ (some 7) rfl rfl Try.func47 (c13_9) rfl #[.agg #[.int .i64 a1_0, .slice A1_1 l1_1.length c1_1]] rfl (G.ar) ?_; (with_reducible refine (spec_l1Copy.calls a1_0 _ _ l1_1 t551 t552 _ ?side1 ?side2 A3.out).mono ?_); (case side1 => exact Kd.C_foot_now HR1_1.out (G.cK HK.out)); (case side2 => exact HC1_1.out); rintro e w92 ⟨v553, rfl, ho0, hb⟩; refine ⟨_, rfl, ?_⟩; have n0_ := Aside0.mk (Kd.R_lower ho0 (keep_size (w := w) (g := g) (row := none) (G.cK HK.out))); have n1_ := Aside0.mk (IsS83.below (cI13) hb); have n2_ := Aside0.mk (blk_below (g := gb549) (o := .cells #[.int .i64 a1_0, .slice A1_1 l1_1.length c1_1] 29 (0, 0)) (G.cb BK549.out) hb); have n3_ := Aside0.mk (blk_below (g := gb550) (o := .cells #[.int .i64 0, .slice none 0 0] 29 (0, 0)) (G.cb BK550.out) hb); have n4_ := Aside0.mk (KeepBut.trans (G.cK HK.out) (KeepBut.of_below hb g none) (.inl rfl)); have n5_ := Aside0.mk (below_step (cBs13 HB.out) hb); clear HI0 BK549 BK550 HK HB; revert n0_ n1_ n2_ n3_ n4_ n5_; intro HO554 HI0 BK549 BK550 HK HB; (try clear hb); (try clear hb2); (try clear hk); (try clear hi); (try clear ho0); have hcz93_0 : w92.cell? ⟨gb549, 0, none⟩ = some (.int .i64 a1_0) := (blk_cell BK549.out 0).trans rfl; have hcz93_1 : w92.cell? ⟨gb549, 1, none⟩ = some (.slice A1_1 l1_1.length c1_1) := (blk_cell BK549.out 1).trans rfl; have hfz93_0 := blk_frozen BK549.out 0; have hfz93_1 := blk_frozen BK549.out 1; obtain ⟨Ao94, co94, eo94⟩ := Kd.R_slice HO554.out; subst eo94) | ((with_reducible refine gate_callee (f := 56) rfl ?_); refine goesL_ (some 9) rfl rfl Try.func56 (c13_9) rfl #[.pointer (some ⟨g, 0, none⟩), .int .i64 6] rfl (G.ar) ?_; (with_reducible refine (spec_l6Rd_pick.calls k g s0_0 s0_1 6 t555 t556 w0 _ ?side1 ?side2 A4.out).mono ?_); (case side1 => exact cI13); (case side2 => exact cBs13 HB.out); rintro e w95 ⟨rfl, hi, hb, hk⟩; refine ⟨_, rfl, ?_⟩; have n0_ := Aside0.mk (KeepBut.blk hk (g' := gb549) (o := .cells #[.int .i64 t551, .slice Ao94 t552.length co94] 29 (0, 0)) (c13_1) NB549_0.out (by simp)); have n1_ := Aside0.mk (KeepBut.blk hk (g' := gb550) (o := .cells #[.int .i64 0, .slice none 0 0] 29 (0, 0)) (c13_3) NB550_0.out (by simp)); have n2_ := Aside0.mk (Kd.R_mono (Kd.R_keep (IsS83.apart (show IsS83 w0 _ g s0_0 s0_1 from cI13) (by (with_reducible repeat (first | apply Kd.R_alloc | apply Kd.R_drewN | apply Kd.R_drew)); exact (Kd.R_mono (Kd.R_far (p := ⟨gb549, 1, none⟩) (Kd.R_far (p := ⟨gb549, 0, none⟩) (Kd.R_types HO554.out BK549.out (c13_10)) (fun _ hk => hk.2) (.int .i64 t551)) (fun _ hk => hk.2) (.slice Ao94 t552.length co94)) (fun _ h_ => h_.1))) (c13_10)) hk (fun _ h => h.2)) (fun _ h => h.1)); have n3_ := Aside0.mk (KeepBut.trans (G.cK HK.out) hk (.inl rfl)); have n4_ := Aside0.mk (hb); have n5_ := Aside0.mk (hi); clear BK549 BK550 HO554 HK HB HI0; revert n0_ n1_ n2_ n3_ n4_ n5_; intro BK549 BK550 HO554 HK HB HI0; (try clear hb); (try clear hb2); (try clear hk); (try clear hi); have hcz96_0 : w95.cell? ⟨gb549, 0, none⟩ = some (.int .i64 t551) := (blk_cell BK549.out 0).trans rfl; have hcz96_1 : w95.cell? ⟨gb549, 1, none⟩ = some (.slice Ao94 t552.length co94) := (blk_cell BK549.out 1).trans rfl; have hfz96_0 := blk_frozen BK549.out 0; have hfz96_1 := blk_frozen BK549.out 1; have hnb97 := NB550_0.out; have hnc97 := NB0_550.out; have hcz98_0 : w95.cell? ⟨gb550, 0, none⟩ = some (.int .i64 0) := (blk_cell BK550.out 0).trans rfl; have hcz98_1 : w95.cell? ⟨gb550, 1, none⟩ = some (.slice none 0 0) := (blk_cell BK550.out 1).trans rfl; have hfz98_0 := blk_frozen BK550.out 0; have hfz98_1 := blk_frozen BK550.out 1))
      refine bodyPost_ret (results_cell_row rfl _ _ gb550 29 #[.int .i64 t551, .slice Ao94 t552.length co94] (0, 0) _ rfl (c13_2) Try.underlying29 rfl (c13_9)) rfl ?_
      exact ⟨_, by first | rfl | (simp [errW_none, errW_some] <;> rfl) | (simp [*, errW_none, errW_some] <;> rfl), by (with_reducible repeat (first | apply Kd.R_alloc | apply Kd.R_drewN | apply Kd.R_drew)); exact Kd.R_mono (Kd.R_far (p := ⟨gb550, 1, none⟩) (Kd.R_far (p := ⟨gb550, 0, none⟩) (Kd.R_types HO554.out BK550.out (c13_10)) (fun _ hk => hk.2) (.int .i64 t551)) (fun _ hk => hk.2) (.slice Ao94 t552.length co94)) (fun _ hk => trivial), cI13, cBs13 HB.out, G.cK HK.out⟩
    ·rw [if_neg c64] at H
     have c64b0 : (t555 == 3) = false := beq_eq_false_iff_ne.mpr c64
     have c64b1 : (t555 != 3) = true := bne_iff_ne.mpr c64
     by_cases c99 : t555 = 4
     ·rw [if_pos c99] at H
      have c99b0 : (t555 == 4) = true := beq_iff_eq.mpr c99
      have c99b1 : (t555 != 4) = false := bne_eq_false_iff_eq.mpr c99
      clear c99
      by_cases c100 : (t552.length : Int) > 1
      ·rw [if_pos c100] at H
       have c100b0 : decide (1 < (t552.length : Int)) = true := decide_eq_true c100
       have c100b1 : decide (1 < t552.length) = true := decide_eq_true (by omega)
       clear c100
       by_cases c101 : 0 < (t552.length : Int)
       ·rw [if_pos c101] at H
        have c101b0 : decide (0 < (t552.length : Int)) = true := decide_eq_true c101
        have c101b1 : decide (0 < t552.length) = true := decide_eq_true (by omega)
        clear c101
        by_cases c102 : t552.length < 8796093022208
        ·rw [if_pos c102] at H
         have LMc102 := Aside0.mk c102
         clear c102
         obtain ⟨y579, hy579⟩ : ∃ y_ : List (S63), y_ = (t552 ++ [(⟨(rd_T63 t552 0).f0, (rd_T63 t552 0).f1⟩ : S63)]) := ⟨_, rfl⟩
         replace H : (some (t551, y579, t556)) = some (r1, r2, r3) := by first | (rw [hy579]; with_reducible exact H) | (have H2_ := (Option.bind_some _ _).symm.trans H; rw [hy579]; with_reducible exact H2_) | (have H2_ := (Option.bind_some _ _).symm.trans H; with_reducible exact H2_) | with_reducible exact H | (rw [hy579]; exact H) | exact H
         have Ny579 := Aside0.mk hy579
         clear hy579
         simp only [Option.some.injEq, Prod.mk.injEq] at H
         obtain ⟨rfl, rfl, rfl⟩ := H
         go_enter Try.func78, Try.ntmps78
         try go_wp2_with (first | ((with_reducible refine gate_dst (N := 3) rfl ?_); refine G.be 3 #[.int .i64 a1_0, .slice A1_1 l1_1.length c1_1] 29 ?_; intro gb549 hg w103 hbox hb; have n0_ := Aside0.mk (IsS83.below (cI13) hb); have n1_ := Aside0.mk (KeepBut.trans (G.cK HK.out) (KeepBut.of_below hb g none) (.inl rfl)); have n2_ := Aside0.mk (below_step (cBs13 HB.out) hb); have n3_ := Aside0.mk (hbox); have n4_ := Aside0.mk ((c13_8 : w.heap.size ≤ gb549)); have n5_ := Aside0.mk ((Nat.le_trans HW0.out (c13_8 : w.heap.size ≤ gb549) : w0.heap.size ≤ gb549)); have n6_ := Aside0.mk ((c13_6 : g ≠ gb549)); have n7_ := Aside0.mk ((c13_7 : gb549 ≠ g)); clear HI0 HK HB; revert n0_ n1_ n2_ n3_ n4_ n5_ n6_ n7_; intro HI0 HK HB BK549 GW549 GE549 NB0_549 NB549_0; clear hb hbox hg) | ((with_reducible refine gate_dst (N := 4) rfl ?_); refine G.be 4 #[.int .i64 0, .slice none 0 0] 29 ?_; intro gb550 hg w104 hbox hb; have n0_ := Aside0.mk (IsS83.below (cI13) hb); have n1_ := Aside0.mk (blk_below (g := gb549) (o := .cells #[.int .i64 a1_0, .slice A1_1 l1_1.length c1_1] 29 (0, 0)) (G.cb BK549.out) hb); have n2_ := Aside0.mk (KeepBut.trans (G.cK HK.out) (KeepBut.of_below hb g none) (.inl rfl)); have n3_ := Aside0.mk (below_step (cBs13 HB.out) hb); have n4_ := Aside0.mk (hbox); have n5_ := Aside0.mk ((c13_8 : w.heap.size ≤ gb550)); have n6_ := Aside0.mk ((Nat.le_trans HW0.out (c13_8 : w.heap.size ≤ gb550) : w0.heap.size ≤ gb550)); have n7_ := Aside0.mk ((c13_4 : gb549 ≠ gb550)); have n8_ := Aside0.mk ((c13_5 : gb550 ≠ gb549)); have n9_ := Aside0.mk ((c13_6 : g ≠ gb550)); have n10_ := Aside0.mk ((c13_7 : gb550 ≠ g)); clear HI0 BK549 HK HB; revert n0_ n1_ n2_ n3_ n4_ n5_ n6_ n7_ n8_ n9_ n10_; intro HI0 BK549 HK HB BK550 GW550 GE550 NB549_550 NB550_549 NB0_550 NB550_0; clear hb hbox hg; have hnb105 := NB549_550.out; have hnc105 := NB550_549.out; have hnb106 := NB549_0.out; have hnc106 := NB0_549.out; have hcz107_0 : w104.cell? ⟨gb549, 0, none⟩ = some (.int .i64 a1_0) := (blk_cell BK549.out 0).trans rfl; have hcz107_1 : w104.cell? ⟨gb549, 1, none⟩ = some (.slice A1_1 l1_1.length c1_1) := (blk_cell BK549.out 1).trans rfl; have hfz107_0 := blk_frozen BK549.out 0; have hfz107_1 := blk_frozen BK549.out 1) | ((with_reducible refine gate_callee (f := 47) rfl ?_); refine goesL_ (some 7) rfl rfl Try.func47 (c13_9) rfl #[.agg #[.int .i64 a1_0, .slice A1_1 l1_1.length c1_1]] rfl (G.ar) ?_; (with_reducible refine (spec_l1Copy.calls a1_0 _ _ l1_1 t551 t552 _ ?side1 ?side2 A3.out).mono ?_); (case side1 => exact Kd.C_foot_now HR1_1.out (G.cK HK.out)); (case side2 => exact HC1_1.out); rintro e w108 ⟨v553, rfl, ho0, hb⟩; refine ⟨_, rfl, ?_⟩; have n0_ := Aside0.mk (Kd.R_lower ho0 (keep_size (w := w) (g := g) (row := none) (G.cK HK.out))); have n1_ := Aside0.mk (IsS83.below (cI13) hb); have n2_ := Aside0.mk (blk_below (g := gb549) (o := .cells #[.int .i64 a1_0, .slice A1_1 l1_1.length c1_1] 29 (0, 0)) (G.cb BK549.out) hb); have n3_ := Aside0.mk (blk_below (g := gb550) (o := .cells #[.int .i64 0, .slice none 0 0] 29 (0, 0)) (G.cb BK550.out) hb); have n4_ := Aside0.mk (KeepBut.trans (G.cK HK.out) (KeepBut.of_below hb g none) (.inl rfl)); have n5_ := Aside0.mk (below_step (cBs13 HB.out) hb); clear HI0 BK549 BK550 HK HB; revert n0_ n1_ n2_ n3_ n4_ n5_; intro HO554 HI0 BK549 BK550 HK HB; (try clear hb); (try clear hb2); (try clear hk); (try clear hi); (try clear ho0); have hcz109_0 : w108.cell? ⟨gb549, 0, none⟩ = some (.int .i64 a1_0) := (blk_cell BK549.out 0).trans rfl; have hcz109_1 : w108.cell? ⟨gb549, 1, none⟩ = some (.slice A1_1 l1_1.length c1_1) := (blk_cell BK549.out 1).trans rfl; have hfz109_0 := blk_frozen BK549.out 0; have hfz109_1 := blk_frozen BK549.out 1; obtain ⟨Ao110, co110, eo110⟩ := Kd.R_slice HO554.out; subst eo110) | ((with_reducible refine gate_callee (f := 56) rfl ?_); refine goesL_ (some 9) rfl rfl Try.func56 (c13_9) rfl #[.pointer (some ⟨g, 0, none⟩), .int .i64 6] rfl (G.ar) ?_; (with_reducible refine (spec_l6Rd_pick.calls k g s0_0 s0_1 6 t555 t556 w0 _ ?side1 ?side2 A4.out).mono ?_); (case side1 => exact cI13); (case side2 => exact cBs13 HB.out); rintro e w111 ⟨rfl, hi, hb, hk⟩; refine ⟨_, rfl, ?_⟩; have n0_ := Aside0.mk (KeepBut.blk hk (g' := gb549) (o := .cells #[.int .i64 t551, .slice Ao110 t552.length co110] 29 (0, 0)) (c13_1) NB549_0.out (by simp)); have n1_ := Aside0.mk (KeepBut.blk hk (g' := gb550) (o := .cells #[.int .i64 0, .slice none 0 0] 29 (0, 0)) (c13_3) NB550_0.out (by simp)); have n2_ := Aside0.mk (Kd.R_mono (Kd.R_keep (IsS83.apart (show IsS83 w0 _ g s0_0 s0_1 from cI13) (by (with_reducible repeat (first | apply Kd.R_alloc | apply Kd.R_drewN | apply Kd.R_drew)); exact (Kd.R_mono (Kd.R_far (p := ⟨gb549, 1, none⟩) (Kd.R_far (p := ⟨gb549, 0, none⟩) (Kd.R_types HO554.out BK549.out (c13_10)) (fun _ hk => hk.2) (.int .i64 t551)) (fun _ hk => hk.2) (.slice Ao110 t552.length co110)) (fun _ h_ => h_.1))) (c13_10)) hk (fun _ h => h.2)) (fun _ h => h.1)); have n3_ := Aside0.mk (KeepBut.trans (G.cK HK.out) hk (.inl rfl)); have n4_ := Aside0.mk (hb); have n5_ := Aside0.mk (hi); clear BK549 BK550 HO554 HK HB HI0; revert n0_ n1_ n2_ n3_ n4_ n5_; intro BK549 BK550 HO554 HK HB HI0; (try clear hb); (try clear hb2); (try clear hk); (try clear hi); have hcz112_0 : w111.cell? ⟨gb549, 0, none⟩ = some (.int .i64 t551) := (blk_cell BK549.out 0).trans rfl; have hcz112_1 : w111.cell? ⟨gb549, 1, none⟩ = some (.slice Ao110 t552.length co110) := (blk_cell BK549.out 1).trans rfl; have hfz112_0 := blk_frozen BK549.out 0; have hfz112_1 := blk_frozen BK549.out 1))
         have n0_ := Aside0.mk (Kd.R_drew HO554.out)
         have n1_ := Aside0.mk (blk_drew BK549.out)
         have n2_ := Aside0.mk (blk_drew BK550.out)
         have n3_ := Aside0.mk (IsS83.drew HI0.out)
         have n4_ := Aside0.mk (keep_drew HK.out)
         have n5_ := Aside0.mk (below_drew1 HB.out)
         clear HO554 BK549 BK550 HI0 HK HB
         revert n0_ n1_ n2_ n3_ n4_ n5_
         intro HO554 BK549 BK550 HI0 HK HB
         have p578 : 0 ≤ (0 : Int) := (by omega)
         have q578 : 0 < (t552.length : Int) := of_decide_eq_true (G.asm)
         obtain ⟨ad578, e578, hx578_0, hx578_1⟩ := at_T63 (Kd.R_reads' HO554.out).2.2 0 p578 q578
         cases e578
         have qi578 : (0 < t552.length) = True := eq_true (by omega)
         (try rw [show ((0 : Int)).toNat = 0 from rfl] at hx578_0)
         (try rw [show 0 * 2 = 0 from rfl] at hx578_0)
         (try rw [Addr.add_zero'] at hx578_0)
         (try rw [show ((0 : Int)).toNat = 0 from rfl] at hx578_1)
         (try rw [show 0 * 2 = 0 from rfl] at hx578_1)
         (try rw [Addr.add_zero'] at hx578_1)
         replace p578 := eq_true p578
         replace q578 := eq_true q578
         refine start_ (n := 10) (S := fun w' => w'.cell? ⟨gb549, 0, none⟩ = some (.int .i64 t551) ∧ w'.cell? ⟨gb549, 1, none⟩ = some (.slice (some ad578) t552.length co110) ∧ w'.cell? ad578 = some (.int .i64 ((rd_T63 t552 0).f0)) ∧ w'.cell? ⟨ad578.block, ad578.off + 1, none⟩ = some (.int .i64 ((rd_T63 t552 0).f1))) (ds := [7, 9]) (G.fl 10 0) (c13_9) rfl (c13_9) ⟨(blk_cell BK549.out 0).trans rfl, (blk_cell BK549.out 1).trans rfl, hx578_0, hx578_1⟩ (fun hHeld => ?_); refine with_tabW spec_l71Spoil.tab16 spec_l71Spoil.bits16 (fun HT_ HW_ => ?_)
         generalize w111.drew = w113 at HO554 BK549 BK550 HI0 HK HB hx578_0 hx578_1 hHeld ⊢
         refine G.pu 0 (some 83) (G.fl 10 1) ?_
         refine G.pu 2 (some 85) (G.fl 10 5) ?_
         refine G.ta4 1 (some 84) (G.fl 10 7) ?_
         refine G.ta4 3 (some 86) (G.fl 10 15) ?_
         refine G.pu 4 (some 87) (G.fl 10 31) ?_
         refine G.ta4 5 (some 88) (G.fl 10 63) ?_
         refine one_ (i := 6) (N := some 89) (G.fl 10 127) rfl rfl (one_of HT_.out (c13_9)) (c13_10) (fun K hK => ?_)
         refine value_ (w1 := ?_) (v := ?_) (by rfl) rfl ?_ ?_
         rotate_left 2
         ·go_simp
          constructor
          ·rfl
          ·rfl
         refine hK.out _ _ ⟨(blk_cell (blk_alloc BK549.out _) 0).trans rfl, (blk_cell (blk_alloc BK549.out _) 1).trans rfl, (World.cell?_alloc_lt _ _ _ (World.block_lt_of_cell? _ _ (hHeld.2.2.1))).trans (hHeld.2.2.1), (World.cell?_alloc_lt _ _ _ (World.block_lt_of_cell? _ _ (hHeld.2.2.2))).trans (hHeld.2.2.2)⟩ (fun hHeld => ?_)
         clear hK K
         refine G.no (some 89) ?_
         refine last_ (i := 7) (N := some 90) (G.fl 10 255) rfl rfl (one_of HT_.out (c13_9)) (c13_10) (fun K hK => ?_)
         refine Kd.R_append_step k63 w.heap.size (by rfl) (.tmp 84) (.tmp 89) 27 63 (.agg #[(.int .i64 0), (.int .i64 0)]) 16 rfl Try.underlying27 info63 rfl (c13_10) (by omega) (.slice (some ad578) t552.length co110) t552 (⟨(rd_T63 t552 0).f0, (rd_T63 t552 0).f1⟩ : S63) [.int .i64 ((rd_T63 t552 0).f0), .int .i64 ((rd_T63 t552 0).f1)] (fun _ => True) (fun _ => False) rfl rfl ?aP (fun _ hk => hk.elim) ?aF ?aO (Below.refl _ _) ?aS ?aL ?_
         (case aP => exact k63_mkM _ _ _ (⟨(rd_T63 t552 0).f0, (rd_T63 t552 0).f1⟩ : S63))
         (case aF => exact (fun _ _ => trivial))
         (case aO => exact (G.cR HO554.out))
         (case aS => exact (keep_size (w := w) (g := g) (row := none) (G.cK HK.out)))
         (case aL => have := LMc102.out; omega)
         intro v580 w114 ho hb hg hat
         rw [← Ny579.out] at ho
         have n0_ := Aside0.mk (IsS83.grown (cI13) hg (IsS83.own_ne HI0.out HO554.out (c13_10)))
         have n1_ := Aside0.mk (blk_grown (g := gb549) (o := .cells #[.int .i64 t551, .slice (some ad578) t552.length co110] 29 (0, 0)) (G.cb BK549.out) hg (Kd.R_ne HO554.out BK549.out (c13_10)))
         have n2_ := Aside0.mk (blk_grown (g := gb550) (o := .cells #[.int .i64 0, .slice none 0 0] 29 (0, 0)) (G.cb BK550.out) hg (Kd.R_ne HO554.out BK550.out (c13_10)))
         have n3_ := Aside0.mk (below_weaken (cBs13 HB.out) HL.out hb)
         have n4_ := Aside0.mk (KeepBut.trans (G.cK HK.out) (KeepBut.of_grown hg g) (Kd.R_base2 HO554.out))
         have n5_ := Aside0.mk (ho)
         clear HI0 BK549 BK550 HB HK HO554
         revert n0_ n1_ n2_ n3_ n4_ n5_
         intro HI0 BK549 BK550 HB HK HO581
         clear ho hb hg hat
         obtain ⟨Ao115, co115, eo115⟩ := Kd.R_slice HO581.out
         (first | subst eo115 | (injection eo115 with f1_ f2_ f3_; have f4_ := f1_.symm; have f5_ := f3_.symm; clear f1_ f2_ f3_; subst f4_; subst f5_))
         refine hK.out _ _ ?_
         clear hK K
         refine G.no (some 90) ?_
         refine G.pu 8 (some 91) (G.fl 10 511) ?_
         refine last_ (i := 9) (N := none) (G.fl 10 1023) rfl rfl (one_of HT_.out (c13_9)) (c13_10) (fun K hK => ?_)
         have hs116 : w114.cell? ⟨gb549, 1, none⟩ = some (.slice (some ad578) t552.length co110) := (blk_cell BK549.out 1).trans rfl
         have hfs116 := blk_frozen BK549.out 1
         have hns116_1 := NB550_549.out
         have hms116_1 := NB549_550.out
         refine skip_ (w1 := ?_) (by rfl) rfl ?_ ?_
         rotate_left
         ·go_simp
          rfl
         refine hK.out _ _ ?_
         clear hK K
         refine done_ (done_of HT_.out (c13_9)) ?_
         have hcz117_0 : w114.cell? ⟨gb549, 0, none⟩ = some (.int .i64 t551) := (blk_cell BK549.out 0).trans rfl
         have hcz117_1 : w114.cell? ⟨gb549, 1, none⟩ = some (.slice (some ad578) t552.length co110) := (blk_cell BK549.out 1).trans rfl
         have hfz117_0 := blk_frozen BK549.out 0
         have hfz117_1 := blk_frozen BK549.out 1
         have hnb118 := NB550_0.out
         have hnc118 := NB0_550.out
         have hcz119_0 : w114.cell? ⟨gb550, 0, none⟩ = some (.int .i64 0) := (blk_cell BK550.out 0).trans rfl
         have hcz119_1 : w114.cell? ⟨gb550, 1, none⟩ = some (.slice none 0 0) := (blk_cell BK550.out 1).trans rfl
         have hfz119_0 := blk_frozen BK550.out 0
         have hfz119_1 := blk_frozen BK550.out 1
         try go_wp2
         refine bodyPost_ret (results_cell_row rfl _ _ gb550 29 #[.int .i64 t551, .slice Ao115 y579.length co115] (0, 0) _ rfl (c13_0) Try.underlying29 rfl (c13_9)) rfl ?_
         exact ⟨_, by first | rfl | (simp [errW_none, errW_some] <;> rfl) | (simp [*, errW_none, errW_some] <;> rfl), by (with_reducible repeat (first | apply Kd.R_alloc | apply Kd.R_drewN | apply Kd.R_drew)); exact Kd.R_mono (Kd.R_far (p := ⟨gb550, 1, none⟩) (Kd.R_far (p := ⟨gb550, 0, none⟩) (Kd.R_far (p := ⟨gb549, 1, none⟩) (Kd.R_types (Kd.R_types HO581.out BK549.out (c13_10)) BK550.out (c13_10)) (fun _ hk => hk.1.2) (.slice Ao115 y579.length co115)) (fun _ hk => hk.2) (.int .i64 t551)) (fun _ hk => hk.2) (.slice Ao115 y579.length co115)) (fun _ hk => trivial), cI13, cBs13 HB.out, G.cK HK.out⟩
        ·rw [if_neg c102] at H
         exact absurd H (by simp)
       ·rw [if_neg c101] at H
        exact absurd H (by simp)
      ·rw [if_neg c100] at H
       have c100b0 : decide (1 < (t552.length : Int)) = false := decide_eq_false c100
       have c100b1 : decide (1 < t552.length) = false := decide_eq_false (by omega)
       clear c100
       simp only [Option.some.injEq, Prod.mk.injEq] at H
       obtain ⟨rfl, rfl, rfl⟩ := H
       go_enter Try.func78, Try.ntmps78
       go_wp2_with (first | ((with_reducible refine gate_dst (N := 3) rfl ?_); refine G.be 3 #[.int .i64 a1_0, .slice A1_1 l1_1.length c1_1] 29 ?_; intro gb549 hg w120 hbox hb; have n0_ := Aside0.mk (IsS83.below (cI13) hb); have n1_ := Aside0.mk (KeepBut.trans (G.cK HK.out) (KeepBut.of_below hb g none) (.inl rfl)); have n2_ := Aside0.mk (below_step (cBs13 HB.out) hb); have n3_ := Aside0.mk (hbox); have n4_ := Aside0.mk ((c13_8 : w.heap.size ≤ gb549)); have n5_ := Aside0.mk ((Nat.le_trans HW0.out (c13_8 : w.heap.size ≤ gb549) : w0.heap.size ≤ gb549)); have n6_ := Aside0.mk ((c13_6 : g ≠ gb549)); have n7_ := Aside0.mk ((c13_7 : gb549 ≠ g)); clear HI0 HK HB; revert n0_ n1_ n2_ n3_ n4_ n5_ n6_ n7_; intro HI0 HK HB BK549 GW549 GE549 NB0_549 NB549_0; clear hb hbox hg) | ((with_reducible refine gate_dst (N := 4) rfl ?_); refine G.be 4 #[.int .i64 0, .slice none 0 0] 29 ?_; intro gb550 hg w121 hbox hb; have n0_ := Aside0.mk (IsS83.below (cI13) hb); have n1_ := Aside0.mk (blk_below (g := gb549) (o := .cells #[.int .i64 a1_0, .slice A1_1 l1_1.length c1_1] 29 (0, 0)) (G.cb BK549.out) hb); have n2_ := Aside0.mk (KeepBut.trans (G.cK HK.out) (KeepBut.of_below hb g none) (.inl rfl)); have n3_ := Aside0.mk (below_step (cBs13 HB.out) hb); have n4_ := Aside0.mk (hbox); have n5_ := Aside0.mk ((c13_8 : w.heap.size ≤ gb550)); have n6_ := Aside0.mk ((Nat.le_trans HW0.out (c13_8 : w.heap.size ≤ gb550) : w0.heap.size ≤ gb550)); have n7_ := Aside0.mk ((c13_4 : gb549 ≠ gb550)); have n8_ := Aside0.mk ((c13_5 : gb550 ≠ gb549)); have n9_ := Aside0.mk ((c13_6 : g ≠ gb550)); have n10_ := Aside0.mk ((c13_7 : gb550 ≠ g)); clear HI0 BK549 HK HB; revert n0_ n1_ n2_ n3_ n4_ n5_ n6_ n7_ n8_ n9_ n10_; intro HI0 BK549 HK HB BK550 GW550 GE550 NB549_550 NB550_549 NB0_550 NB550_0; clear hb hbox hg; have hnb122 := NB549_550.out; have hnc122 := NB550_549.out; have hnb123 := NB549_0.out; have hnc123 := NB0_549.out; have hcz124_0 : w121.cell? ⟨gb549, 0, none⟩ = some (.int .i64 a1_0) := (blk_cell BK549.out 0).trans rfl; have hcz124_1 : w121.cell? ⟨gb549, 1, none⟩ = some (.slice A1_1 l1_1.length c1_1) := (blk_cell BK549.out 1).trans rfl; have hfz124_0 := blk_frozen BK549.out 0; have hfz124_1 := blk_frozen BK549.out 1) | ((with_reducible refine gate_callee (f := 47) rfl ?_); refine goesL_ (some 7) rfl rfl Try.func47 (c13_9) rfl #[.agg #[.int .i64 a1_0, .slice A1_1 l1_1.length c1_1]] rfl (G.ar) ?_; (with_reducible refine (spec_l1Copy.calls a1_0 _ _ l1_1 t551 t552 _ ?side1 ?side2 A3.out).mono ?_); (case side1 => exact Kd.C_foot_now HR1_1.out (G.cK HK.out)); (case side2 => exact HC1_1.out); rintro e w125 ⟨v553, rfl, ho0, hb⟩; refine ⟨_, rfl, ?_⟩; have n0_ := Aside0.mk (Kd.R_lower ho0 (keep_size (w := w) (g := g) (row := none) (G.cK HK.out))); have n1_ := Aside0.mk (IsS83.below (cI13) hb); have n2_ := Aside0.mk (blk_below (g := gb549) (o := .cells #[.int .i64 a1_0, .slice A1_1 l1_1.length c1_1] 29 (0, 0)) (G.cb BK549.out) hb); have n3_ := Aside0.mk (blk_below (g := gb550) (o := .cells #[.int .i64 0, .slice none 0 0] 29 (0, 0)) (G.cb BK550.out) hb); have n4_ := Aside0.mk (KeepBut.trans (G.cK HK.out) (KeepBut.of_below hb g none) (.inl rfl)); have n5_ := Aside0.mk (below_step (cBs13 HB.out) hb); clear HI0 BK549 BK550 HK HB; revert n0_ n1_ n2_ n3_ n4_ n5_; intro HO554 HI0 BK549 BK550 HK HB; (try clear hb); (try clear hb2); (try clear hk); (try clear hi); (try clear ho0); have hcz126_0 : w125.cell? ⟨gb549, 0, none⟩ = some (.int .i64 a1_0) := (blk_cell BK549.out 0).trans rfl; have hcz126_1 : w125.cell? ⟨gb549, 1, none⟩ = some (.slice A1_1 l1_1.length c1_1) := (blk_cell BK549.out 1).trans rfl; have hfz126_0 := blk_frozen BK549.out 0; have hfz126_1 := blk_frozen BK549.out 1; obtain ⟨Ao127, co127, eo127⟩ := Kd.R_slice HO554.out; subst eo127) | ((with_reducible refine gate_callee (f := 56) rfl ?_); refine goesL_ (some 9) rfl rfl Try.func56 (c13_9) rfl #[.pointer (some ⟨g, 0, none⟩), .int .i64 6] rfl (G.ar) ?_; (with_reducible refine (spec_l6Rd_pick.calls k g s0_0 s0_1 6 t555 t556 w0 _ ?side1 ?side2 A4.out).mono ?_); (case side1 => exact cI13); (case side2 => exact cBs13 HB.out); rintro e w128 ⟨rfl, hi, hb, hk⟩; refine ⟨_, rfl, ?_⟩; have n0_ := Aside0.mk (KeepBut.blk hk (g' := gb549) (o := .cells #[.int .i64 t551, .slice Ao127 t552.length co127] 29 (0, 0)) (c13_1) NB549_0.out (by simp)); have n1_ := Aside0.mk (KeepBut.blk hk (g' := gb550) (o := .cells #[.int .i64 0, .slice none 0 0] 29 (0, 0)) (c13_3) NB550_0.out (by simp)); have n2_ := Aside0.mk (Kd.R_mono (Kd.R_keep (IsS83.apart (show IsS83 w0 _ g s0_0 s0_1 from cI13) (by (with_reducible repeat (first | apply Kd.R_alloc | apply Kd.R_drewN | apply Kd.R_drew)); exact (Kd.R_mono (Kd.R_far (p := ⟨gb549, 1, none⟩) (Kd.R_far (p := ⟨gb549, 0, none⟩) (Kd.R_types HO554.out BK549.out (c13_10)) (fun _ hk => hk.2) (.int .i64 t551)) (fun _ hk => hk.2) (.slice Ao127 t552.length co127)) (fun _ h_ => h_.1))) (c13_10)) hk (fun _ h => h.2)) (fun _ h => h.1)); have n3_ := Aside0.mk (KeepBut.trans (G.cK HK.out) hk (.inl rfl)); have n4_ := Aside0.mk (hb); have n5_ := Aside0.mk (hi); clear BK549 BK550 HO554 HK HB HI0; revert n0_ n1_ n2_ n3_ n4_ n5_; intro BK549 BK550 HO554 HK HB HI0; (try clear hb); (try clear hb2); (try clear hk); (try clear hi); have hcz129_0 : w128.cell? ⟨gb549, 0, none⟩ = some (.int .i64 t551) := (blk_cell BK549.out 0).trans rfl; have hcz129_1 : w128.cell? ⟨gb549, 1, none⟩ = some (.slice Ao127 t552.length co127) := (blk_cell BK549.out 1).trans rfl; have hfz129_0 := blk_frozen BK549.out 0; have hfz129_1 := blk_frozen BK549.out 1; have hnb130 := NB550_0.out; have hnc130 := NB0_550.out; have hcz131_0 : w128.cell? ⟨gb550, 0, none⟩ = some (.int .i64 0) := (blk_cell BK550.out 0).trans rfl; have hcz131_1 : w128.cell? ⟨gb550, 1, none⟩ = some (.slice none 0 0) := (blk_cell BK550.out 1).trans rfl; have hfz131_0 := blk_frozen BK550.out 0; have hfz131_1 := blk_frozen BK550.out 1))
       refine bodyPost_ret (results_cell_row rfl _ _ gb550 29 #[.int .i64 t551, .slice Ao127 t552.length co127] (0, 0) _ rfl (c13_2) Try.underlying29 rfl (c13_9)) rfl ?_
       exact ⟨_, by first | rfl | (simp [errW_none, errW_some] <;> rfl) | (simp [*, errW_none, errW_some] <;> rfl), by (with_reducible repeat (first | apply Kd.R_alloc | apply Kd.R_drewN | apply Kd.R_drew)); exact Kd.R_mono (Kd.R_far (p := ⟨gb550, 1, none⟩) (Kd.R_far (p := ⟨gb550, 0, none⟩) (Kd.R_types HO554.out BK550.out (c13_10)) (fun _ hk => hk.2) (.int .i64 t551)) (fun _ hk => hk.2) (.slice Ao127 t552.length co127)) (fun _ hk => trivial), cI13, cBs13 HB.out, G.cK HK.out⟩
     ·rw [if_neg c99] at H
      have c99b0 : (t555 == 4) = false := beq_eq_false_iff_ne.mpr c99
      have c99b1 : (t555 != 4) = true := bne_iff_ne.mpr c99
      obtain ⟨y582, hy582⟩ : ∃ y_ : List (S63), y_ = (([(⟨(-1), 0⟩ : S63)] : List (S63))) := ⟨_, rfl⟩
      replace H : (if y582.length + t552.length < 8796093022208 then (some (t551, (y582 ++ t552), t556)) else (none)) = some (r1, r2, r3) := by first | (rw [hy582]; with_reducible exact H) | (have H2_ := (Option.bind_some _ _).symm.trans H; rw [hy582]; with_reducible exact H2_) | (have H2_ := (Option.bind_some _ _).symm.trans H; with_reducible exact H2_) | with_reducible exact H | (rw [hy582]; exact H) | exact H
      have Ny582 := Aside0.mk hy582
      clear hy582
      by_cases c132 : y582.length + t552.length < 8796093022208
      ·rw [if_pos c132] at H
       have LMc132 := Aside0.mk c132
       clear c132
       obtain ⟨y585, hy585⟩ : ∃ y_ : List (S63), y_ = (y582 ++ t552) := ⟨_, rfl⟩
       replace H : (some (t551, y585, t556)) = some (r1, r2, r3) := by first | (rw [hy585]; with_reducible exact H) | (have H2_ := (Option.bind_some _ _).symm.trans H; rw [hy585]; with_reducible exact H2_) | (have H2_ := (Option.bind_some _ _).symm.trans H; with_reducible exact H2_) | with_reducible exact H | (rw [hy585]; exact H) | exact H
       have Ny585 := Aside0.mk hy585
       clear hy585
       simp only [Option.some.injEq, Prod.mk.injEq] at H
       obtain ⟨rfl, rfl, rfl⟩ := H
       go_enter Try.func78, Try.ntmps78
       go_wp2_with (first | ((with_reducible refine gate_dst (N := 3) rfl ?_); refine G.be 3 #[.int .i64 a1_0, .slice A1_1 l1_1.length c1_1] 29 ?_; intro gb549 hg w133 hbox hb; have n0_ := Aside0.mk (IsS83.below (cI13) hb); have n1_ := Aside0.mk (KeepBut.trans (G.cK HK.out) (KeepBut.of_below hb g none) (.inl rfl)); have n2_ := Aside0.mk (below_step (cBs13 HB.out) hb); have n3_ := Aside0.mk (hbox); have n4_ := Aside0.mk ((c13_8 : w.heap.size ≤ gb549)); have n5_ := Aside0.mk ((Nat.le_trans HW0.out (c13_8 : w.heap.size ≤ gb549) : w0.heap.size ≤ gb549)); have n6_ := Aside0.mk ((c13_6 : g ≠ gb549)); have n7_ := Aside0.mk ((c13_7 : gb549 ≠ g)); clear HI0 HK HB; revert n0_ n1_ n2_ n3_ n4_ n5_ n6_ n7_; intro HI0 HK HB BK549 GW549 GE549 NB0_549 NB549_0; clear hb hbox hg) | ((with_reducible refine gate_dst (N := 4) rfl ?_); refine G.be 4 #[.int .i64 0, .slice none 0 0] 29 ?_; intro gb550 hg w134 hbox hb; have n0_ := Aside0.mk (IsS83.below (cI13) hb); have n1_ := Aside0.mk (blk_below (g := gb549) (o := .cells #[.int .i64 a1_0, .slice A1_1 l1_1.length c1_1] 29 (0, 0)) (G.cb BK549.out) hb); have n2_ := Aside0.mk (KeepBut.trans (G.cK HK.out) (KeepBut.of_below hb g none) (.inl rfl)); have n3_ := Aside0.mk (below_step (cBs13 HB.out) hb); have n4_ := Aside0.mk (hbox); have n5_ := Aside0.mk ((c13_8 : w.heap.size ≤ gb550)); have n6_ := Aside0.mk ((Nat.le_trans HW0.out (c13_8 : w.heap.size ≤ gb550) : w0.heap.size ≤ gb550)); have n7_ := Aside0.mk ((c13_4 : gb549 ≠ gb550)); have n8_ := Aside0.mk ((c13_5 : gb550 ≠ gb549)); have n9_ := Aside0.mk ((c13_6 : g ≠ gb550)); have n10_ := Aside0.mk ((c13_7 : gb550 ≠ g)); clear HI0 BK549 HK HB; revert n0_ n1_ n2_ n3_ n4_ n5_ n6_ n7_ n8_ n9_ n10_; intro HI0 BK549 HK HB BK550 GW550 GE550 NB549_550 NB550_549 NB0_550 NB550_0; clear hb hbox hg; have hnb135 := NB549_550.out; have hnc135 := NB550_549.out; have hnb136 := NB549_0.out; have hnc136 := NB0_549.out; have hcz137_0 : w134.cell? ⟨gb549, 0, none⟩ = some (.int .i64 a1_0) := (blk_cell BK549.out 0).trans rfl; have hcz137_1 : w134.cell? ⟨gb549, 1, none⟩ = some (.slice A1_1 l1_1.length c1_1) := (blk_cell BK549.out 1).trans rfl; have hfz137_0 := blk_frozen BK549.out 0; have hfz137_1 := blk_frozen BK549.out 1) | ((with_reducible refine gate_callee (f := 47) rfl ?_); refine goesL_ (some 7) rfl rfl Try.func47 (c13_9) rfl #[.agg #[.int .i64 a1_0, .slice A1_1 l1_1.length c1_1]] rfl (G.ar) ?_; (with_reducible refine (spec_l1Copy.calls a1_0 _ _ l1_1 t551 t552 _ ?side1 ?side2 A3.out).mono ?_); (case side1 => exact Kd.C_foot_now HR1_1.out (G.cK HK.out)); (case side2 => exact HC1_1.out); rintro e w138 ⟨v553, rfl, ho0, hb⟩; refine ⟨_, rfl, ?_⟩; have n0_ := Aside0.mk (Kd.R_lower ho0 (keep_size (w := w) (g := g) (row := none) (G.cK HK.out))); have n1_ := Aside0.mk (IsS83.below (cI13) hb); have n2_ := Aside0.mk (blk_below (g := gb549) (o := .cells #[.int .i64 a1_0, .slice A1_1 l1_1.length c1_1] 29 (0, 0)) (G.cb BK549.out) hb); have n3_ := Aside0.mk (blk_below (g := gb550) (o := .cells #[.int .i64 0, .slice none 0 0] 29 (0, 0)) (G.cb BK550.out) hb); have n4_ := Aside0.mk (KeepBut.trans (G.cK HK.out) (KeepBut.of_below hb g none) (.inl rfl)); have n5_ := Aside0.mk (below_step (cBs13 HB.out) hb); clear HI0 BK549 BK550 HK HB; revert n0_ n1_ n2_ n3_ n4_ n5_; intro HO554 HI0 BK549 BK550 HK HB; (try clear hb); (try clear hb2); (try clear hk); (try clear hi); (try clear ho0); have hcz139_0 : w138.cell? ⟨gb549, 0, none⟩ = some (.int .i64 a1_0) := (blk_cell BK549.out 0).trans rfl; have hcz139_1 : w138.cell? ⟨gb549, 1, none⟩ = some (.slice A1_1 l1_1.length c1_1) := (blk_cell BK549.out 1).trans rfl; have hfz139_0 := blk_frozen BK549.out 0; have hfz139_1 := blk_frozen BK549.out 1; obtain ⟨Ao140, co140, eo140⟩ := Kd.R_slice HO554.out; subst eo140) | ((with_reducible refine gate_callee (f := 56) rfl ?_); refine goesL_ (some 9) rfl rfl Try.func56 (c13_9) rfl #[.pointer (some ⟨g, 0, none⟩), .int .i64 6] rfl (G.ar) ?_; (with_reducible refine (spec_l6Rd_pick.calls k g s0_0 s0_1 6 t555 t556 w0 _ ?side1 ?side2 A4.out).mono ?_); (case side1 => exact cI13); (case side2 => exact cBs13 HB.out); rintro e w141 ⟨rfl, hi, hb, hk⟩; refine ⟨_, rfl, ?_⟩; have n0_ := Aside0.mk (KeepBut.blk hk (g' := gb549) (o := .cells #[.int .i64 t551, .slice Ao140 t552.length co140] 29 (0, 0)) (c13_1) NB549_0.out (by simp)); have n1_ := Aside0.mk (KeepBut.blk hk (g' := gb550) (o := .cells #[.int .i64 0, .slice none 0 0] 29 (0, 0)) (c13_3) NB550_0.out (by simp)); have n2_ := Aside0.mk (Kd.R_mono (Kd.R_keep (IsS83.apart (show IsS83 w0 _ g s0_0 s0_1 from cI13) (by (with_reducible repeat (first | apply Kd.R_alloc | apply Kd.R_drewN | apply Kd.R_drew)); exact (Kd.R_mono (Kd.R_far (p := ⟨gb549, 1, none⟩) (Kd.R_far (p := ⟨gb549, 0, none⟩) (Kd.R_types HO554.out BK549.out (c13_10)) (fun _ hk => hk.2) (.int .i64 t551)) (fun _ hk => hk.2) (.slice Ao140 t552.length co140)) (fun _ h_ => h_.1))) (c13_10)) hk (fun _ h => h.2)) (fun _ h => h.1)); have n3_ := Aside0.mk (KeepBut.trans (G.cK HK.out) hk (.inl rfl)); have n4_ := Aside0.mk (hb); have n5_ := Aside0.mk (hi); clear BK549 BK550 HO554 HK HB HI0; revert n0_ n1_ n2_ n3_ n4_ n5_; intro BK549 BK550 HO554 HK HB HI0; (try clear hb); (try clear hb2); (try clear hk); (try clear hi)) | ((with_reducible refine gate_dst (N := 11) rfl ?_); refine Kd.R_lit k63 _ 63 ?hg (N := 11) ?hd (xs := ([(⟨(-1), 0⟩ : S63)] : List (S63))) (inner := [.int .i64 (-1), .int .i64 0]) (ok := fun _ => True) (okp := fun _ => True) ?hr ?hp (fun _ hk => hk) trivial (Below.refl _ _) (Nat.le_refl _) (by simp) ?_; (case hd => rfl); (case hg => rfl); (case hr => first | (go_simp; done) | (go_simp; rfl)); (case hp => exact (Reps.c2 (show Kd.M k63 _ _ _ (⟨(-1), 0⟩ : S63) [.int .i64 (-1), .int .i64 0] from (k63_mkM _ _ _ (⟨(-1), 0⟩ : S63) )) (Reps.none _ _))); intro v583 w142 ho143 hb hg_ hnew_; clear hg_ hnew_; (first | rw [← Ny582.out] at ho143 | (simp only [Int.reduceToNat] at ho143; rw [← Ny582.out] at ho143)); have n0_ := Aside0.mk (Kd.R_elder' (G.cR HO554.out) (Kd.R_base ho143) hb); have n1_ := Aside0.mk (Kd.R_lower (Kd.R_new' ho143 (Kd.R_lt (G.cR HO554.out))) (keep_size (w := w) (g := g) (row := none) (G.cK HK.out))); have n2_ := Aside0.mk (IsS83.below (cI13) hb); have n3_ := Aside0.mk (blk_below (g := gb549) (o := .cells #[.int .i64 t551, .slice Ao140 t552.length co140] 29 (0, 0)) (G.cb BK549.out) hb); have n4_ := Aside0.mk (blk_below (g := gb550) (o := .cells #[.int .i64 0, .slice none 0 0] 29 (0, 0)) (G.cb BK550.out) hb); have n5_ := Aside0.mk (KeepBut.trans (G.cK HK.out) (KeepBut.of_below hb g none) (.inl rfl)); have n6_ := Aside0.mk (below_step (cBs13 HB.out) hb); clear HO554 HI0 BK549 BK550 HK HB; revert n0_ n1_ n2_ n3_ n4_ n5_ n6_; intro HO554 HO584 HI0 BK549 BK550 HK HB; clear hb ho143; have hcz144_0 : w142.cell? ⟨gb549, 0, none⟩ = some (.int .i64 t551) := (blk_cell BK549.out 0).trans rfl; have hcz144_1 : w142.cell? ⟨gb549, 1, none⟩ = some (.slice Ao140 t552.length co140) := (blk_cell BK549.out 1).trans rfl; have hfz144_0 := blk_frozen BK549.out 0; have hfz144_1 := blk_frozen BK549.out 1) | ((with_reducible refine gate_builtin (b := .append) (xs := #[.tmp 11, .tmp 13]) rfl ?_); at_builtin; refine Kd.R_append_rows k63 w.heap.size rfl (.tmp 11) (.tmp 13) 27 63 (.agg #[(.int .i64 0), (.int .i64 0)]) 16 rfl Try.underlying27 info63 rfl (c13_10) (by omega) v583 y582 t552 _ _ _ (fun k_ => some k_ ≠ (.slice Ao140 t552.length co140 : Value).ownBlock) (fun _ => False) rfl rfl ?aO ?aR (fun _ _ h => h) (fun _ h => h.elim) ?aF (Below.refl _ _) ?aS ?aL ?_; (case aR => repeat (first | exact (Kd.R_reads' HO554.out).2.2 | (with_reducible refine Kd.C_alloc ?_ _) | (with_reducible refine Kd.C_drewN ?_ _) | (with_reducible refine Kd.C_drew ?_))); (case aF => exact (fun k_ hk => Kd.fresh' (Kd.R_lt (G.cR HO554.out)) k_ hk)); (case aO => exact (by (with_reducible repeat (first | apply Kd.R_alloc | apply Kd.R_drewN | apply Kd.R_drew)); exact Kd.R_mono HO584.out (fun _ hk => hk.2))); (case aS => exact (keep_size (w := w) (g := g) (row := none) (G.cK HK.out))); (case aL => have := LMc132.out; omega); intro v586 w145 ho hb hg hat; rw [← Ny585.out] at ho; have n0_ := Aside0.mk (IsS83.grown (cI13) hg (IsS83.own_ne HI0.out HO584.out (c13_10))); have n1_ := Aside0.mk (blk_grown (g := gb549) (o := .cells #[.int .i64 t551, .slice Ao140 t552.length co140] 29 (0, 0)) (G.cb BK549.out) hg (Kd.R_ne HO584.out BK549.out (c13_10))); have n2_ := Aside0.mk (blk_grown (g := gb550) (o := .cells #[.int .i64 0, .slice none 0 0] 29 (0, 0)) (G.cb BK550.out) hg (Kd.R_ne HO584.out BK550.out (c13_10))); have n3_ := Aside0.mk (Kd.R_after (ok := (fun _ => True)) (G.cR HO554.out) hg hat); have n4_ := Aside0.mk (below_weaken (cBs13 HB.out) HL.out hb); have n5_ := Aside0.mk (KeepBut.trans (G.cK HK.out) (KeepBut.of_grown hg g) (Kd.R_base2 HO584.out)); have n6_ := Aside0.mk (ho); clear HI0 BK549 BK550 HO554 HB HK HO584; revert n0_ n1_ n2_ n3_ n4_ n5_ n6_; intro HI0 BK549 BK550 HO554 HB HK HO587; clear ho hb hg hat; obtain ⟨Ao146, co146, eo146⟩ := Kd.R_slice HO587.out; subst eo146; have hcz147_0 : w145.cell? ⟨gb549, 0, none⟩ = some (.int .i64 t551) := (blk_cell BK549.out 0).trans rfl; have hcz147_1 : w145.cell? ⟨gb549, 1, none⟩ = some (.slice Ao140 t552.length co140) := (blk_cell BK549.out 1).trans rfl; have hfz147_0 := blk_frozen BK549.out 0; have hfz147_1 := blk_frozen BK549.out 1; have hnb148 := NB550_0.out; have hnc148 := NB0_550.out; have hcz149_0 : w145.cell? ⟨gb550, 0, none⟩ = some (.int .i64 0) := (blk_cell BK550.out 0).trans rfl; have hcz149_1 : w145.cell? ⟨gb550, 1, none⟩ = some (.slice none 0 0) := (blk_cell BK550.out 1).trans rfl; have hfz149_0 := blk_frozen BK550.out 0; have hfz149_1 := blk_frozen BK550.out 1))
       refine bodyPost_ret (results_cell_row rfl _ _ gb550 29 #[.int .i64 t551, .slice Ao146 y585.length co146] (0, 0) _ rfl (c13_0) Try.underlying29 rfl (c13_9)) rfl ?_
       exact ⟨_, by first | rfl | (simp [errW_none, errW_some] <;> rfl) | (simp [*, errW_none, errW_some] <;> rfl), by (with_reducible repeat (first | apply Kd.R_alloc | apply Kd.R_drewN | apply Kd.R_drew)); exact Kd.R_mono (Kd.R_far (p := ⟨gb550, 1, none⟩) (Kd.R_far (p := ⟨gb550, 0, none⟩) (Kd.R_far (p := ⟨gb549, 1, none⟩) (Kd.R_types (Kd.R_types HO587.out BK549.out (c13_10)) BK550.out (c13_10)) (fun _ hk => hk.1.2) (.slice Ao146 y585.length co146)) (fun _ hk => hk.2) (.int .i64 t551)) (fun _ hk => hk.2) (.slice Ao146 y585.length co146)) (fun _ hk => trivial), cI13, cBs13 HB.out, G.cK HK.out⟩
      ·rw [if_neg c132] at H
       exact absurd H (by simp)

end Go.Proofs.Ytbkdpnfjcnkoeaa.P
