-- Printed by a program of this session (mp.py, over the kit's print). Not trusted: Lean checks it.
import Derived.Test.YtbpkngahnmoocaaDoorF0
import Derived.Test.YtbpkngahnmoocaaDoorF1
import Derived.Test.YtbpkngahnmoocaaDoorF3
namespace Go.Proofs.YtbpkngahnmoocaaDoor.P
open Go.RowKit Go.Proofs.YtbpkngahnmoocaaDoorW.PrintWords Go.Proofs.YtbpkngahnmoocaaDoorW.PrintLast Go.Proofs.YtbpkngahnmoocaaDoorW.PrintMore
attribute [local go_sem] max2_int min2_int max_two min_two max_three min_three max_four min_four   -- for this text's walks alone
set_option linter.unusedVariables false
set_option linter.unusedSimpArgs false

theorem caai {p : Prop} (h : p := by repeat (first | (with_reducible exact aT.out) | (with_reducible refine Kd.C_alloc ?_ _) | (with_reducible refine Kd.C_drewN ?_ _) | (with_reducible refine Kd.C_drew ?_) | exact aT.out)) : p := h
theorem caaj {p : Prop} (h : p := by repeat (first | (with_reducible exact aU.out) | (with_reducible refine Kd.C_alloc ?_ _) | (with_reducible refine Kd.C_drewN ?_ _) | (with_reducible refine Kd.C_drew ?_) | exact aU.out)) : p := h
theorem caag {p : Prop} (h : p := by rw [hg]; exact (below_size (by repeat (first | (with_reducible first | exact HBW.out | apply below_alloc | apply pw_below_drewN | apply below_drew1) | exact HBW.out)))) : p := h
theorem caaf {p : Prop} (h : p := by repeat (first | (with_reducible first | exact ah.out | apply IsS35.alloc | apply IsS35.drewN | apply IsS35.drew | apply IsS35.set_1) | exact ah.out)) : p := h
theorem caam {p : Prop} (h : p := by repeat (first | (with_reducible first | exact HBW.out | apply below_alloc | apply pw_below_drewN | apply below_drew1) | exact HBW.out)) : p := h
theorem caak {p : Prop} (h : p := by first | rfl | (simp [errW_none, errW_some] <;> rfl) | (simp [*, errW_none, errW_some] <;> rfl)) : p := h
theorem caae {p : Prop} (h : p := by first | rfl | (simp; done) | (simp [*]; done)) : p := h
theorem caal {p : Prop} (h : p := by kernel_rfl) : p := h
theorem caah {p : Prop} (h : p := by repeat (first | (with_reducible first | exact a9.out | apply IsS35.alloc | apply IsS35.drewN | apply IsS35.drew | apply IsS35.set_1) | (with_reducible refine IsS35.far ?_ (Aside0.out (by assumption)) _) | exact a9.out)) : p := h
theorem caad {B : Nat} {w w1 w2 : World} (H : Below B w w1) (h : Below B w w2 := by repeat (first | (with_reducible first | exact HB.out | apply below_alloc | apply pw_below_drewN | apply below_drew1) | (with_reducible refine below_set ?_ (Aside0.out (by assumption))) | (with_reducible refine below_set ?_ (IsS35.ge a9.out)) | exact HB.out)) : Below B w w2 := h
/-- A state of type 35 at block g of W; what its slices lead to came in by w0. -/
def IsS35 (w0 W : World) (g : Nat) (f0 : List Int) (f1 : Int) : Prop := ∃ A0 c0, W.heap[g]? = some (.cells #[.slice A0 f0.length c0, .int .i64 f1] 35 (0, 0)) ∧ w0.heap.size ≤ g ∧ Kd.C (Kd.int .u8) w0 A0 f0.length f0
theorem IsS35.grown {w0 W : World} {g : Nat} {f0 : List Int} {f1 : Int} {W1 : World} {row : Option Nat} (h : IsS35 w0 W g f0 f1) (hw : W.grownBy W1 row) (hne : some g ≠ row) : IsS35 w0 W1 g f0 f1 := by
 obtain ⟨A0, c0, hb, hg, am⟩ := h; exact ⟨A0, c0, blk_grown hb hw hne, hg, am⟩
theorem IsS35.own_neN {w0 W : World} {g : Nat} {f0 : List Int} {f1 : Int} {α : Type} {d : Kd α} {e : Nat} {base : Nat} {ok : Nat → Prop} {v : Value} {xs : List α} (h : IsS35 w0 W g f0 f1) (ho : Kd.N d e W base ok v xs) (ht : e ≠ 35) : some g ≠ v.ownBlock := by
 obtain ⟨A0, c0, hb, hg, am⟩ := h; exact Kd.N_ne ho hb ht
theorem IsS35.fresh {w0 W : World} {g : Nat} {f0 : List Int} {f1 : Int} (h : IsS35 w0 W g f0 f1) : ∀ k, W.heap.size ≤ k → k ≠ g := by
 obtain ⟨A0, c0, hb, hg, am⟩ := h; exact Kd.freshB hb
theorem IsS35.kept {w0 W : World} {g : Nat} {f0 : List Int} {f1 : Int} {W1 : World} {S : Nat → Prop} (h : IsS35 w0 W g f0 f1) (hk : Kept W W1 S) (hne : ¬ S g) : IsS35 w0 W1 g f0 f1 := by
 obtain ⟨A0, c0, hb, hg, am⟩ := h; exact ⟨A0, c0, blk_kept hb hk hne, hg, am⟩
theorem IsS35.below {w0 W : World} {g : Nat} {f0 : List Int} {f1 : Int} {W1 : World} (h : IsS35 w0 W g f0 f1) (hw : Below W.heap.size W W1) : IsS35 w0 W1 g f0 f1 := h.grown (grown_of_below hw none) (by simp)
theorem IsS35.alloc {w0 W : World} {g : Nat} {f0 : List Int} {f1 : Int} (h : IsS35 w0 W g f0 f1) (o : Obj) : IsS35 w0 (W.alloc o) g f0 f1 := h.below (below_alloc (Below.refl _ _) o)
theorem IsS35.drewN {w0 W : World} {g : Nat} {f0 : List Int} {f1 : Int} (h : IsS35 w0 W g f0 f1) (m : Nat) : IsS35 w0 (W.drewN m) g f0 f1 := h
theorem IsS35.drew {w0 W : World} {g : Nat} {f0 : List Int} {f1 : Int} (h : IsS35 w0 W g f0 f1) : IsS35 w0 W.drew g f0 f1 := h
theorem IsS35.at_ {w0 W : World} {g : Nat} {f0 : List Int} {f1 : Int} {w' : World} {m : Nat} (hq : W.drewN m = w') (h : IsS35 w0 W g f0 f1) : IsS35 w0 w' g f0 f1 := by subst hq; exact IsS35.drewN h m
theorem IsS35.apart {w0 W : World} {g : Nat} {f0 : List Int} {f1 : Int} {α : Type} {d : Kd α} {e : Nat} {base : Nat} {ok : Nat → Prop} {v : Value} {xs : List α} (h : IsS35 w0 W g f0 f1) (ho : d.R e W base ok v xs) (ht : ∀ q, q ∈ e :: d.E → q ≠ 35) : d.R e W base (fun k => ok k ∧ k ≠ g) v xs := by
 obtain ⟨A0, c0, hb, hg, am⟩ := h; exact Kd.R_types ho hb ht
theorem IsS35.own_ne {w0 W : World} {g : Nat} {f0 : List Int} {f1 : Int} {α : Type} {d : Kd α} {e : Nat} {base : Nat} {ok : Nat → Prop} {v : Value} {xs : List α} (h : IsS35 w0 W g f0 f1) (ho : d.R e W base ok v xs) (ht : e ≠ 35) : some g ≠ v.ownBlock := by
 obtain ⟨A0, c0, hb, hg, am⟩ := h; exact Kd.R_ne ho hb ht
theorem IsS35.apartQ {w0 W : World} {g : Nat} {f0 : List Int} {f1 : Int} {α : Type} {d : Kd α} {e : Nat} {base : Nat} {ok : Nat → Prop} {v : Value} {xs : List α} (h : IsS35 w0 W g f0 f1) (ho : d.Q e W base ok v xs) (ht : ∀ q, q ∈ e :: d.E → q ≠ 35) : d.Q e W base (fun k => ok k ∧ k ≠ g) v xs := by
 obtain ⟨A0, c0, hb, hg, am⟩ := h; exact Kd.Q_types ho hb ht
theorem IsS35.own_neQ {w0 W : World} {g : Nat} {f0 : List Int} {f1 : Int} {α : Type} {d : Kd α} {e : Nat} {base : Nat} {ok : Nat → Prop} {v : Value} {xs : List α} (h : IsS35 w0 W g f0 f1) (ho : d.Q e W base ok v xs) (ht : e ≠ 35) : some g ≠ v.ownBlock := by
 obtain ⟨A0, c0, hb, hg, am⟩ := h; exact Kd.Q_ne ho hb ht
theorem IsS35.apartS {w0 W : World} {g : Nat} {f0 : List Int} {f1 : Int} {α : Type} {d : Kd α} {e : Nat} {base : Nat} {ok : Nat → Prop} {v : Value} {xs : List α} (h : IsS35 w0 W g f0 f1) (ho : d.S e W base ok v xs) (ht : ∀ q, q ∈ e :: d.E → q ≠ 35) : d.S e W base (fun k => ok k ∧ k ≠ g) v xs := by
 obtain ⟨A0, c0, hb, hg, am⟩ := h; exact Kd.S_types ho hb ht
theorem IsS35.own_neS {w0 W : World} {g : Nat} {f0 : List Int} {f1 : Int} {α : Type} {d : Kd α} {e : Nat} {base : Nat} {ok : Nat → Prop} {v : Value} {xs : List α} (h : IsS35 w0 W g f0 f1) (ho : d.S e W base ok v xs) (ht : e ≠ 35) : some g ≠ v.ownBlock := by
 obtain ⟨A0, c0, hb, hg, am⟩ := h; exact Kd.S_ne ho hb ht
theorem IsS35.lt {w0 W : World} {g : Nat} {f0 : List Int} {f1 : Int} (h : IsS35 w0 W g f0 f1) : g < W.heap.size := by
 obtain ⟨A0, c0, hb, hg, am⟩ := h; exact blk_lt hb
theorem IsS35.ge {w0 W : World} {g : Nat} {f0 : List Int} {f1 : Int} (h : IsS35 w0 W g f0 f1) : w0.heap.size ≤ g := by
 obtain ⟨A0, c0, hb, hg, am⟩ := h; exact hg
theorem IsS35.ne_blk {w0 W : World} {g : Nat} {f0 : List Int} {f1 : Int} {a : Nat} {cs : Array Value} {t : TypeId} {fr : Nat × Nat} (h : IsS35 w0 W g f0 f1) (a_ : W.heap[a]? = some (.cells cs t fr)) (ht : t ≠ 35) : g ≠ a := by
 obtain ⟨A0, c0, hb, hg, am⟩ := h; rintro rfl; rw [hb] at a_; injection a_ with a_; injection a_ with _ ht2; exact ht ht2.symm
theorem IsS35.far {w0 W : World} {g : Nat} {f0 : List Int} {f1 : Int} {p : Addr} (h : IsS35 w0 W g f0 f1) (hne : g ≠ p.block) (u : Value) : IsS35 w0 (W.setCell p u) g f0 f1 := by
 obtain ⟨A0, c0, hb, hg, am⟩ := h; exact ⟨A0, c0, blk_far hb hne u, hg, am⟩
theorem cellS35_0 {W : World} {g : Nat} {A0 : Option Addr} {c0 : Nat} {f0 : List Int} {f1 : Int} (h : W.heap[g]? = some (.cells #[.slice A0 f0.length c0, .int .i64 f1] 35 (0, 0))) : W.cell? ⟨g, 0, none⟩ = some (.slice A0 f0.length c0) := (blk_cell h 0).trans rfl
theorem cellS35_1 {W : World} {g : Nat} {A0 : Option Addr} {c0 : Nat} {f0 : List Int} {f1 : Int} (h : W.heap[g]? = some (.cells #[.slice A0 f0.length c0, .int .i64 f1] 35 (0, 0))) : W.cell? ⟨g, 1, none⟩ = some (.int .i64 f1) := (blk_cell h 1).trans rfl
theorem IsS35.set_1 {w0 W : World} {g : Nat} {f0 : List Int} {f1 : Int} (h : IsS35 w0 W g f0 f1) (x : Int) : IsS35 w0 (W.setCell ⟨g, 1, none⟩ (.int .i64 x)) g f0 x := by
 obtain ⟨A0, c0, hb, hg, am⟩ := h; exact ⟨A0, c0, by simpa using blk_set hb 1 (.int .i64 x), hg, am⟩
theorem IsS35.new (w0 W : World) (A0 : Option Addr) (c0 : Nat) (f0 : List Int) (f1 : Int) (hB : Below w0.heap.size w0 W) (am : Kd.C (Kd.int .u8) w0 A0 f0.length f0) : IsS35 w0 (W.alloc (.cells #[.slice A0 f0.length c0, .int .i64 f1] 35)) W.heap.size f0 f1 := ⟨A0, c0, by simpa using heap_alloc_new W _, hB.size, am⟩

/-! ### spec_l6Open: function 12 -/
def spec_l6Open.f (l0 : List Int) : Option (List Int × Int) := if (l0.length : Int) > 2000 then (if 2000 ≤ (l0.length : Int) then (some (l0.take 2000, 0)) else (none)) else (some (l0, 0))
set_option maxHeartbeats 8000000 in
set_option maxRecDepth 100000 in
theorem spec_l6Open.calls (A0 : Option Addr) (c0 : Nat) (l0 : List Int) (r1 : List Int) (r2 : Int) (w0 w : World) (hB : Below w0.heap.size w0 w) (am : Kd.C (Kd.int .u8) w0 A0 l0.length l0) (ba : l0.length ≤ c0) (h : spec_l6Open.f l0 = some (r1, r2)) :
  Calls Tryd.prog 12 #[.slice A0 l0.length c0] w fun e w' => ∃ g_ : Nat, e = .returned (.pointer (some ⟨g_, 0, none⟩)) ∧ IsS35 w0 w' g_ r1 r2 ∧ Below w0.heap.size w0 w' ∧ Below w.heap.size w w' := by
 have en := Tryd.underlying35; have bn := G.m am; have bz := G.m ba; clear am ba; have HBW := G.m (Below.refl w.heap.size w); have cj := G.m hB.size; have HB := G.m hB; clear hB; have H : (if (l0.length : Int) > 2000 then (if 2000 ≤ (l0.length : Int) then (some (l0.take 2000, 0)) else (none)) else (some (l0, 0))) = some (r1, r2) := h; clear h
 by_cases c2 : (l0.length : Int) > 2000
 ·rw [if_pos c2] at H; have dj : decide (2000 < (l0.length : Int)) = true := decide_eq_true c2; have dk : decide (2000 < l0.length) = true := decide_eq_true (by omega); clear c2
  by_cases c3 : 2000 ≤ (l0.length : Int)
  ·rw [if_pos c3] at H; have eo := eq_true c3; have ep : decide (2000 ≤ (l0.length : Int)) = true := decide_eq_true c3; clear c3; simp only [Option.some.injEq, Prod.mk.injEq] at H; obtain ⟨rfl, rfl⟩ := H; obtain ⟨eC, ck, _, cl, _⟩ := info_parts info5; obtain ⟨ea, dc, dd⟩ := print_take_of (P := Tryd.prog) (Value.int .u8) 0 27 5 .i64 Tryd.underlying27 ck cl A0 c0 l0 2000 (by omega) (of_decide_eq_true (G.asm)) bz.out; have cz := G.m (Kd.C_of_reads (h1 := fun _ => rfl) (dc _ (Kd.reads_of_C bn.out))); have eb := G.m dd; clear dc dd ck cl
   go_enter Tryd.func12, Tryd.ntmps12
   go_wp2_with (first | ((with_reducible refine G.h 10 rfl ?_); refine G.be 10 #[.slice A0 (l0.take 2000).length c0, .int .i64 0] 35 ?_; intro bd hg w5 hbox hb; have n0 := G.m (below_step HBW.out hb); have n1 := G.bs HB hb; have n2 := G.m (hbox); have n3 := G.m (caag : w.heap.size ≤ bd); have n4 := G.m (Nat.le_trans cj.out (caag : w.heap.size ≤ bd) : w0.heap.size ≤ bd); clear HBW HB; revert n0 n1 n2 n3 n4; intro HBW HB cA cD cE; clear hb hbox hg))
   go_ret
   exact ⟨_, rfl, (show IsS35 w0 _ bd (l0.take 2000) 0 from ⟨_, _, G.cb cA.out, cE.out, cz.out⟩), G.cB HB.out, by repeat (first | (with_reducible first | exact HBW.out | apply below_alloc | apply pw_below_drewN | apply below_drew1 | refine below_set ?_ cD.out) | exact HBW.out)⟩
  ·rw [if_neg c3] at H; exact absurd H (by simp)
 ·rw [if_neg c2] at H; have dj : decide (2000 < (l0.length : Int)) = false := decide_eq_false c2; have dk : decide (2000 < l0.length) = false := decide_eq_false (by omega); clear c2; simp only [Option.some.injEq, Prod.mk.injEq] at H; obtain ⟨rfl, rfl⟩ := H
  go_enter Tryd.func12, Tryd.ntmps12
  go_wp2_with (first | ((with_reducible refine G.h 10 rfl ?_); refine G.be 10 #[.slice A0 l0.length c0, .int .i64 0] 35 ?_; intro bf hg w6 hbox hb; have n0 := G.m (below_step HBW.out hb); have n1 := G.bs HB hb; have n2 := G.m (hbox); have n3 := G.m (caag : w.heap.size ≤ bf); have n4 := G.m (Nat.le_trans cj.out (caag : w.heap.size ≤ bf) : w0.heap.size ≤ bf); clear HBW HB; revert n0 n1 n2 n3 n4; intro HBW HB cF cG cH; clear hb hbox hg))
  go_ret
  exact ⟨_, rfl, (show IsS35 w0 _ bf l0 0 from ⟨_, _, G.cb cF.out, cH.out, bn.out⟩), G.cB HB.out, by repeat (first | (with_reducible first | exact HBW.out | apply below_alloc | apply pw_below_drewN | apply below_drew1 | refine below_set ?_ cG.out) | exact HBW.out)⟩

/-! ### spec_l6Rd_pick: function 13 -/
def spec_l6Rd_pick.j0 : Nat → Int → Bool → List Int → Int → Option (Int × Int)
 | 0, _, _, _, _ => none
 | k + 1, x1, dM, ak, al => if dM = true then (some (0, al)) else (if (wrap64 (al - 1)) < (ak.length : Int) then (if 0 ≤ (wrap64 (al - 1)) then (if x1 = 0 then (none) else (some (Int.tmod (wrap64 (rd ak (wrap64 (al - 1)))) x1, al))) else (none)) else (if (ak.length : Int) = 0 then (none) else (if 0 ≤ (Int.tmod (wrap64 (al - 1)) (ak.length : Int)) then (if (Int.tmod (wrap64 (al - 1)) (ak.length : Int)) < (ak.length : Int) then (if 0 ≤ (Int.tmod (wrap64 ((wrap64 ((wrap64 (al - 1)) * 7)) + 3)) (ak.length : Int)) then (if (Int.tmod (wrap64 ((wrap64 ((wrap64 (al - 1)) * 7)) + 3)) (ak.length : Int)) < (ak.length : Int) then (if x1 = 0 then (none) else (some (Int.tmod (Go.bits .xor .i64 (wrap64 ((wrap64 ((wrap64 ((wrap64 ((wrap64 (rd ak (Int.tmod (wrap64 (al - 1)) (ak.length : Int)))) * 131)) + (wrap64 ((wrap64 (rd ak (Int.tmod (wrap64 ((wrap64 ((wrap64 (al - 1)) * 7)) + 3)) (ak.length : Int)))) * 1117)))) + (wrap64 ((wrap64 (al - 1)) * 29)))) + (wrap64 ((wrap64 (Int.tdiv (wrap64 (al - 1)) (ak.length : Int))) * 53)))) (wrap64 (Int.tdiv (wrap64 ((wrap64 ((wrap64 ((wrap64 ((wrap64 (rd ak (Int.tmod (wrap64 (al - 1)) (ak.length : Int)))) * 131)) + (wrap64 ((wrap64 (rd ak (Int.tmod (wrap64 ((wrap64 ((wrap64 (al - 1)) * 7)) + 3)) (ak.length : Int)))) * 1117)))) + (wrap64 ((wrap64 (al - 1)) * 29)))) + (wrap64 ((wrap64 (Int.tdiv (wrap64 (al - 1)) (ak.length : Int))) * 53)))) 64))) x1, al))) else (none)) else (none)) else (none)) else (none))))
def spec_l6Rd_pick.f (k : Nat) (ab : List Int) (ae : Int) (a1 : Int) : Option (Int × Int) := if a1 < 1 then (spec_l6Rd_pick.j0 k a1 true ab (wrap64 (ae + 1))) else (spec_l6Rd_pick.j0 k a1 ((ab.length : Int) == 0) ab (wrap64 (ae + 1)))
theorem spec_l6Rd_pick.mono_l : ∀ k, (∀ y0 y1 y2 y3, LeO (spec_l6Rd_pick.j0 k y0 y1 y2 y3) (spec_l6Rd_pick.j0 (k + 1) y0 y1 y2 y3))
 | 0 => fun _ _ _ _ r h => by simp [spec_l6Rd_pick.j0] at h
 | k + 1 => by
  have aA := spec_l6Rd_pick.mono_l k
  ·intro y0 y1 y2 y3; unfold spec_l6Rd_pick.j0
   repeat' first
   | (with_reducible exact aA _ _ _ _)
   | (with_reducible exact LeO.refl _)
   | (with_reducible exact LeO.none _)
   | (with_reducible refine LeO.ite ?_ ?_)
   | (with_reducible refine LeO.bind ?_ (fun _ => ?_))
   | exact aA _ _ _ _
   | exact LeO.none _
   | refine LeO.ite ?_ ?_
   | refine LeO.bind ?_ (fun _ => ?_)
theorem spec_l6Rd_pick.mono : ∀ a0 a1 a2 k, LeO (spec_l6Rd_pick.f k a0 a1 a2) (spec_l6Rd_pick.f (k + 1) a0 a1 a2) := by
 intro a0 a1 a2 k; have aA := spec_l6Rd_pick.mono_l k; unfold spec_l6Rd_pick.f
 repeat' first | (with_reducible first | exact aA _ _ _ _ | exact LeO.refl _ | exact LeO.none _ | refine LeO.ite ?_ ?_ | refine LeO.bind ?_ (fun _ => ?_)) | exact aA _ _ _ _ | exact LeO.none _ | refine LeO.ite ?_ ?_ | refine LeO.bind ?_ (fun _ => ?_)
set_option maxHeartbeats 8000000 in
set_option maxRecDepth 100000 in
theorem spec_l6Rd_pick.calls (k : Nat) (g : Nat) (ab : List Int) (ae : Int) (a1 : Int) (r1 : Int) (r2 : Int) (w0 w : World) (hI : IsS35 w0 w g ab ae) (hB : Below w0.heap.size w0 w) (h : spec_l6Rd_pick.f k ab ae a1 = some (r1, r2)) :
  Calls Tryd.prog 13 #[.pointer (some ⟨g, 0, none⟩), .int .i64 a1] w fun e w' => e = .returned (.int .i64 r1) ∧ IsS35 w0 w' g ab r2 ∧ Below w0.heap.size w0 w' ∧ KeepBut w w' g none := by
 have a9 := G.m hI; have HK := G.m (KeepBut.refl w g none); have HL := G.m hB.size; clear hI; have cj := G.m hB.size; have HB := G.m hB; clear hB; have H : (if a1 < 1 then (spec_l6Rd_pick.j0 k a1 true ab (wrap64 (ae + 1))) else (spec_l6Rd_pick.j0 k a1 ((ab.length : Int) == 0) ab (wrap64 (ae + 1)))) = some (r1, r2) := h; clear h; have bo := G.m H; clear H; obtain ⟨dN, dO, bG, dl, dP⟩ := a9.out; have cm := cellS35_0 bG; have cn := cellS35_1 bG; have co := blk_frozen bG 1; clear bG dl
 go_enter Tryd.func13, Tryd.ntmps13
 go_upto_region 2 with (fail)
 repeat (go_quiet (fail); go_upto_region 2 with (fail))
 go_cut [24] (fun dQ wc => ∃ (kq : Nat) (bh : Bool), dQ = .bool bh ∧ Aside0 (spec_l6Rd_pick.j0 kq a1 bh ab (wrap64 (ae + 1)) = some (r1, r2)) ∧ Aside0 (kq ≤ k) ∧ Aside0 (IsS35 w0 wc g ab (wrap64 (ae + 1))) ∧ Aside0 (KeepBut w wc g none) ∧ Aside0 (Below w0.heap.size w0 wc))
 case first =>
  have H := bo.out; clear bo
  by_cases c5 : a1 < 1
  ·rw [if_pos c5] at H; have bp : decide (a1 < 1) = true := decide_eq_true c5; clear c5; (first | rw [bp] | (simp only [i64_w, i32_w]; rw [bp]) | skip); have H' := G.m H; clear H
   go_wp2
   repeat (go_quiet (fail); try go_wp2)
   go_meet
   case rel => exact ⟨_, (true), (caae), H', ⟨by first | omega | exact Nat.le_refl _⟩, ⟨caah⟩, ⟨G.cK HK.out⟩, ⟨caad HB.out⟩⟩
  ·rw [if_neg c5] at H; have bp : decide (a1 < 1) = false := decide_eq_false c5; clear c5; (first | rw [bp] | (simp only [i64_w, i32_w]; rw [bp]) | skip); have H' := G.m H; clear H; obtain ⟨dR, dS, bH, dn, dT⟩ := a9.out; have dU := cellS35_0 bH; have dV := cellS35_1 bH; have dW := blk_frozen bH 1; clear bH dn
   go_wp2
   repeat (go_quiet (fail); try go_wp2)
   go_meet
   case rel => exact ⟨_, (((ab.length : Int) == 0)), (caae), H', ⟨by first | omega | exact Nat.le_refl _⟩, ⟨caah⟩, ⟨G.cK HK.out⟩, ⟨caad HB.out⟩⟩
 case rest =>
  clear bo; (try clear cm cn co); obtain ⟨kq, bh, rfl, HA, dX, a9, HK, HB⟩ := hcut; cases kq with
  | zero => exact absurd HA.out (by simp [spec_l6Rd_pick.j0])
  | succ ao =>
   have H := HA.out; clear HA; simp only [spec_l6Rd_pick.j0] at H
   by_cases c7 : bh = true
   ·subst c7; have H1 : (some (0, (wrap64 (ae + 1)))) = some (r1, r2) := by rw [if_pos rfl] at H; exact H
    clear H; have H := H1; clear H1; simp only [Option.some.injEq, Prod.mk.injEq] at H; obtain ⟨rfl, rfl⟩ := H
    go_wp2
    repeat (go_quiet (fail); try go_wp2)
    go_ret
    exact ⟨caak, caah, caad HB.out, G.cK HK.out⟩
   ·replace c7 := Bool.eq_false_iff.mpr c7; subst c7; have H1 : (if (wrap64 ((wrap64 (ae + 1)) - 1)) < (ab.length : Int) then (if 0 ≤ (wrap64 ((wrap64 (ae + 1)) - 1)) then (if a1 = 0 then (none) else (some (Int.tmod (wrap64 (rd ab (wrap64 ((wrap64 (ae + 1)) - 1)))) a1, (wrap64 (ae + 1))))) else (none)) else (if (ab.length : Int) = 0 then (none) else (if 0 ≤ (Int.tmod (wrap64 ((wrap64 (ae + 1)) - 1)) (ab.length : Int)) then (if (Int.tmod (wrap64 ((wrap64 (ae + 1)) - 1)) (ab.length : Int)) < (ab.length : Int) then (if 0 ≤ (Int.tmod (wrap64 ((wrap64 ((wrap64 ((wrap64 (ae + 1)) - 1)) * 7)) + 3)) (ab.length : Int)) then (if (Int.tmod (wrap64 ((wrap64 ((wrap64 ((wrap64 (ae + 1)) - 1)) * 7)) + 3)) (ab.length : Int)) < (ab.length : Int) then (if a1 = 0 then (none) else (some (Int.tmod (Go.bits .xor .i64 (wrap64 ((wrap64 ((wrap64 ((wrap64 ((wrap64 (rd ab (Int.tmod (wrap64 ((wrap64 (ae + 1)) - 1)) (ab.length : Int)))) * 131)) + (wrap64 ((wrap64 (rd ab (Int.tmod (wrap64 ((wrap64 ((wrap64 ((wrap64 (ae + 1)) - 1)) * 7)) + 3)) (ab.length : Int)))) * 1117)))) + (wrap64 ((wrap64 ((wrap64 (ae + 1)) - 1)) * 29)))) + (wrap64 ((wrap64 (Int.tdiv (wrap64 ((wrap64 (ae + 1)) - 1)) (ab.length : Int))) * 53)))) (wrap64 (Int.tdiv (wrap64 ((wrap64 ((wrap64 ((wrap64 ((wrap64 (rd ab (Int.tmod (wrap64 ((wrap64 (ae + 1)) - 1)) (ab.length : Int)))) * 131)) + (wrap64 ((wrap64 (rd ab (Int.tmod (wrap64 ((wrap64 ((wrap64 ((wrap64 (ae + 1)) - 1)) * 7)) + 3)) (ab.length : Int)))) * 1117)))) + (wrap64 ((wrap64 ((wrap64 (ae + 1)) - 1)) * 29)))) + (wrap64 ((wrap64 (Int.tdiv (wrap64 ((wrap64 (ae + 1)) - 1)) (ab.length : Int))) * 53)))) 64))) a1, (wrap64 (ae + 1))))) else (none)) else (none)) else (none)) else (none)))) = some (r1, r2) := by rw [if_neg (show ¬ (false = true) by decide)] at H; exact H
    clear H; have H := H1; clear H1
    by_cases c8 : (wrap64 ((wrap64 (ae + 1)) - 1)) < (ab.length : Int)
    ·rw [if_pos c8] at H; have bq : decide ((wrap64 ((wrap64 (ae + 1)) - 1)) < (ab.length : Int)) = true := decide_eq_true c8; clear c8; obtain ⟨bc, br⟩ : ∃ j_ : Int, (wrap64 ((wrap64 (ae + 1)) - 1)) = j_ := ⟨_, rfl⟩; replace H : (if 0 ≤ (bc) then (if a1 = 0 then (none) else (some (Int.tmod (wrap64 (rd ab (bc))) a1, (wrap64 (ae + 1))))) else (none)) = some (r1, r2) := by first | (rw [br] at H; exact H) | (simp only [br] at H ⊢; exact H)
     (try rw [br] at bq); have ec : (IntKind.i64.wrap ((wrap64 (ae + 1)) - 1)) = bc := (i64_w _).trans br
     by_cases c10 : 0 ≤ (bc)
     ·rw [if_pos c10] at H; have bI : decide (0 ≤ (bc)) = true := decide_eq_true c10; clear c10
      by_cases aY : a1 = 0
      ·rw [if_pos aY] at H; exact absurd H (by simp)
      ·rw [if_neg aY] at H; have cI : (a1 == 0) = false := beq_eq_false_iff_ne.mpr aY; have ed : (a1 != 0) = true := bne_iff_ne.mpr aY; simp only [Option.some.injEq, Prod.mk.injEq] at H; obtain ⟨rfl, rfl⟩ := H; obtain ⟨dB, dC, bj, cJ, ch⟩ := a9.out; have dD := cellS35_0 bj; have dE := cellS35_1 bj; have dF := blk_frozen bj 1; clear bj cJ; have bQ : 0 ≤ ((bc) : Int) := of_decide_eq_true (G.asm); have bR : (bc) < (ab.length : Int) := of_decide_eq_true (G.asm); obtain ⟨ee, dp, bA⟩ := Kd.at_int ch (bc) bQ bR; cases dp; replace bA := pw_cell_below HB.out bA; replace bQ := eq_true bQ; replace bR := eq_true bR
       go_wp2
       repeat (go_quiet (fail); try go_wp2)
       go_ret
       exact ⟨by first | rfl | (simp [errW_none, errW_some] <;> rfl) | (simp only [← br]; first | rfl | (simp [errW_none, errW_some] <;> rfl)) | (simp [*, errW_none, errW_some] <;> rfl), caah, caad HB.out, G.cK HK.out⟩
     ·rw [if_neg c10] at H; exact absurd H (by simp)
    ·rw [if_neg c8] at H; have bq : decide ((wrap64 ((wrap64 (ae + 1)) - 1)) < (ab.length : Int)) = false := decide_eq_false c8; clear c8
     by_cases aN : (ab.length : Int) = 0
     ·rw [if_pos aN] at H; exact absurd H (by simp)
     ·rw [if_neg aN] at H; have cL : ((ab.length : Int) == 0) = false := beq_eq_false_iff_ne.mpr aN; have cM : ((ab.length : Int) != 0) = true := bne_iff_ne.mpr aN; have ef : ¬ (ab = []) := fun h_ => aN (by rw [h_]; rfl); obtain ⟨az, bJ⟩ : ∃ j_ : Int, (Int.tmod (wrap64 ((wrap64 (ae + 1)) - 1)) (ab.length : Int)) = j_ := ⟨_, rfl⟩; replace H : (if 0 ≤ (az) then (if (az) < (ab.length : Int) then (if 0 ≤ (Int.tmod (wrap64 ((wrap64 ((wrap64 ((wrap64 (ae + 1)) - 1)) * 7)) + 3)) (ab.length : Int)) then (if (Int.tmod (wrap64 ((wrap64 ((wrap64 ((wrap64 (ae + 1)) - 1)) * 7)) + 3)) (ab.length : Int)) < (ab.length : Int) then (if a1 = 0 then (none) else (some (Int.tmod (Go.bits .xor .i64 (wrap64 ((wrap64 ((wrap64 ((wrap64 ((wrap64 (rd ab (az))) * 131)) + (wrap64 ((wrap64 (rd ab (Int.tmod (wrap64 ((wrap64 ((wrap64 ((wrap64 (ae + 1)) - 1)) * 7)) + 3)) (ab.length : Int)))) * 1117)))) + (wrap64 ((wrap64 ((wrap64 (ae + 1)) - 1)) * 29)))) + (wrap64 ((wrap64 (Int.tdiv (wrap64 ((wrap64 (ae + 1)) - 1)) (ab.length : Int))) * 53)))) (wrap64 (Int.tdiv (wrap64 ((wrap64 ((wrap64 ((wrap64 ((wrap64 (rd ab (az))) * 131)) + (wrap64 ((wrap64 (rd ab (Int.tmod (wrap64 ((wrap64 ((wrap64 ((wrap64 (ae + 1)) - 1)) * 7)) + 3)) (ab.length : Int)))) * 1117)))) + (wrap64 ((wrap64 ((wrap64 (ae + 1)) - 1)) * 29)))) + (wrap64 ((wrap64 (Int.tdiv (wrap64 ((wrap64 (ae + 1)) - 1)) (ab.length : Int))) * 53)))) 64))) a1, (wrap64 (ae + 1))))) else (none)) else (none)) else (none)) else (none)) = some (r1, r2) := by first | (rw [bJ] at H; exact H) | (simp only [bJ] at H ⊢; exact H)
      by_cases b5 : 0 ≤ (az)
      ·rw [if_pos b5] at H; have cN : decide (0 ≤ (az)) = true := decide_eq_true b5; clear b5
       by_cases b6 : (az) < (ab.length : Int)
       ·rw [if_pos b6] at H; have cO : decide ((az) < (ab.length : Int)) = true := decide_eq_true b6; clear b6; obtain ⟨aE, bK⟩ : ∃ j_ : Int, (Int.tmod (wrap64 ((wrap64 ((wrap64 ((wrap64 (ae + 1)) - 1)) * 7)) + 3)) (ab.length : Int)) = j_ := ⟨_, rfl⟩; replace H : (if 0 ≤ (aE) then (if (aE) < (ab.length : Int) then (if a1 = 0 then (none) else (some (Int.tmod (Go.bits .xor .i64 (wrap64 ((wrap64 ((wrap64 ((wrap64 ((wrap64 (rd ab (az))) * 131)) + (wrap64 ((wrap64 (rd ab (aE))) * 1117)))) + (wrap64 ((wrap64 ((wrap64 (ae + 1)) - 1)) * 29)))) + (wrap64 ((wrap64 (Int.tdiv (wrap64 ((wrap64 (ae + 1)) - 1)) (ab.length : Int))) * 53)))) (wrap64 (Int.tdiv (wrap64 ((wrap64 ((wrap64 ((wrap64 ((wrap64 (rd ab (az))) * 131)) + (wrap64 ((wrap64 (rd ab (aE))) * 1117)))) + (wrap64 ((wrap64 ((wrap64 (ae + 1)) - 1)) * 29)))) + (wrap64 ((wrap64 (Int.tdiv (wrap64 ((wrap64 (ae + 1)) - 1)) (ab.length : Int))) * 53)))) 64))) a1, (wrap64 (ae + 1))))) else (none)) else (none)) = some (r1, r2) := by first | (rw [bK] at H; exact H) | (simp only [bK] at H ⊢; exact H)
        by_cases aW : 0 ≤ (aE)
        ·rw [if_pos aW] at H; have cP : decide (0 ≤ (aE)) = true := decide_eq_true aW; clear aW
         by_cases b7 : (aE) < (ab.length : Int)
         ·rw [if_pos b7] at H; have eg : decide ((aE) < (ab.length : Int)) = true := decide_eq_true b7; clear b7
          by_cases b8 : a1 = 0
          ·rw [if_pos b8] at H; exact absurd H (by simp)
          ·rw [if_neg b8] at H; have eh : (a1 == 0) = false := beq_eq_false_iff_ne.mpr b8; have ei : (a1 != 0) = true := bne_iff_ne.mpr b8; simp only [Option.some.injEq, Prod.mk.injEq] at H; obtain ⟨rfl, rfl⟩ := H; obtain ⟨dG, dH, bk, cQ, bB⟩ := a9.out; have dI := cellS35_0 bk; have dJ := cellS35_1 bk; have dK := blk_frozen bk 1; clear bk cQ; have bS : 0 ≤ ((az) : Int) := of_decide_eq_true (G.asm); have bT : (az) < (ab.length : Int) := of_decide_eq_true (G.asm); obtain ⟨cS, dq, bC⟩ := Kd.at_int bB (az) bS bT; cases dq; replace bC := pw_cell_below HB.out bC; replace bS := eq_true bS; replace bT := eq_true bT; have bU : 0 ≤ ((aE) : Int) := of_decide_eq_true (G.asm); have bV : (aE) < (ab.length : Int) := of_decide_eq_true (G.asm); obtain ⟨cT, dr, bD⟩ := Kd.at_int bB (aE) bU bV; obtain rfl : cS = cT := (by injection dr); replace bD := pw_cell_below HB.out bD; replace bU := eq_true bU; replace bV := eq_true bV
           go_wp2
           repeat (go_quiet (fail); try go_wp2)
           go_ret
           exact ⟨by first | rfl | (simp [errW_none, errW_some] <;> rfl) | (simp only [← bJ, ← bK]; first | rfl | (simp [errW_none, errW_some] <;> rfl)) | (simp [*, errW_none, errW_some] <;> rfl), caah, caad HB.out, G.cK HK.out⟩
         ·rw [if_neg b7] at H; exact absurd H (by simp)
        ·rw [if_neg aW] at H; exact absurd H (by simp)
       ·rw [if_neg b6] at H; exact absurd H (by simp)
      ·rw [if_neg b5] at H; exact absurd H (by simp)

/-! ### spec_DrawLiveSay: function 9 -/
def spec_DrawLiveSay.l0 : Nat → List Int → Int → List Int → Int → Option (List Int)
 | 0, _, _, _, _ => none
 | k + 1, x4, x5, bE, ci => if x5 > 0 then ((some (([0, 1, 7, 10, 123, (-1)] : List Int) : List Int)).bind fun av => ((spec_l6Rd_pick.f k bE ci 6).bind fun aC => (if 0 ≤ aC.1 then (if aC.1 < (av.length : Int) then (if x4.length < 17592186044416 then (spec_DrawLiveSay.l0 k (x4 ++ [rd av aC.1]) (wrap64 (x5 - 1)) bE aC.2) else (none)) else (none)) else (none)))) else (some x4)
def spec_DrawLiveSay.f (k : Nat) (l0 : List Int) : Option (List Int) := (spec_l6Open.f l0).bind fun aK => ((spec_l6Rd_pick.f k aK.1 aK.2 6).bind fun aw => (spec_DrawLiveSay.l0 k (([] : List Int)) aw.1 aK.1 aw.2))
theorem spec_DrawLiveSay.mono_l : ∀ k, (∀ y0 y1 y2 y3, LeO (spec_DrawLiveSay.l0 k y0 y1 y2 y3) (spec_DrawLiveSay.l0 (k + 1) y0 y1 y2 y3))
 | 0 => fun _ _ _ _ r h => by simp [spec_DrawLiveSay.l0] at h
 | k + 1 => by
  have aA := spec_DrawLiveSay.mono_l k
  ·intro y0 y1 y2 y3; unfold spec_DrawLiveSay.l0
   repeat' first
   | (with_reducible exact aA _ _ _ _)
   | (with_reducible exact spec_l6Rd_pick.mono _ _ _ _)
   | (with_reducible exact LeO.refl _)
   | (with_reducible exact LeO.none _)
   | (with_reducible refine LeO.ite ?_ ?_)
   | (with_reducible refine LeO.bind ?_ (fun _ => ?_))
   | exact aA _ _ _ _
   | exact spec_l6Rd_pick.mono _ _ _ _
   | exact LeO.none _
   | refine LeO.ite ?_ ?_
   | refine LeO.bind ?_ (fun _ => ?_)
theorem spec_DrawLiveSay.mono : ∀ a0 k, LeO (spec_DrawLiveSay.f k a0) (spec_DrawLiveSay.f (k + 1) a0) := by
 intro a0 k; have aA := spec_DrawLiveSay.mono_l k; unfold spec_DrawLiveSay.f
 repeat' first | (with_reducible first | exact aA _ _ _ _ | exact spec_l6Rd_pick.mono _ _ _ _ | exact LeO.refl _ | exact LeO.none _ | refine LeO.ite ?_ ?_ | refine LeO.bind ?_ (fun _ => ?_)) | exact aA _ _ _ _ | exact spec_l6Rd_pick.mono _ _ _ _ | exact LeO.none _ | refine LeO.ite ?_ ?_ | refine LeO.bind ?_ (fun _ => ?_)
set_option maxHeartbeats 8000000 in
set_option maxRecDepth 100000 in
theorem spec_DrawLiveSay.calls (k : Nat) (A0 : Option Addr) (c0 : Nat) (l0 : List Int) (r : List Int) (w : World) (am : Kd.C (Kd.int .u8) w A0 l0.length l0) (ba : l0.length ≤ c0) (h : spec_DrawLiveSay.f k l0 = some r) :
  Calls Tryd.prog 9 #[.slice A0 l0.length c0] w fun e w' => ∃ de : Value, e = .returned (de) ∧ Kd.R (Kd.int .i64) 3 w' w.heap.size (fun _ => True) de r ∧ Below w.heap.size w w' := by
 have bn := G.m am; have bz := G.m ba; clear am ba; have HB := G.m (Below.refl w.heap.size w); have H : ((spec_l6Open.f l0).bind fun aK => ((spec_l6Rd_pick.f k aK.1 aK.2 6).bind fun aw => (spec_DrawLiveSay.l0 k (([] : List Int)) aw.1 aK.1 aw.2))) = some r := h; clear h; obtain ⟨⟨ap, bu⟩, A2, H⟩ := G.bi H; replace H : ((spec_l6Rd_pick.f k ap bu 6).bind fun aw => (spec_DrawLiveSay.l0 k (([] : List Int)) aw.1 ap aw.2)) = some r := H; obtain ⟨bW, aZ⟩ : ∃ y_ : List Int, y_ = (([] : List Int)) := ⟨_, rfl⟩; replace H : ((spec_l6Rd_pick.f k ap bu 6).bind fun aw => (spec_DrawLiveSay.l0 k bW aw.1 ap aw.2)) = some r := by first | (rw [aZ]; with_reducible exact H) | (have ax := (Option.bind_some _ _).symm.trans H; rw [aZ]; with_reducible exact ax) | (have ax := (Option.bind_some _ _).symm.trans H; with_reducible exact ax) | with_reducible exact H | (rw [aZ]; exact H) | exact H
 have b9 := G.m aZ; clear aZ; obtain ⟨⟨bX, bY⟩, A3, H⟩ := G.bi H; replace H : (spec_DrawLiveSay.l0 k bW bX ap bY) = some r := H; have H' := G.m H; clear H
 go_enter Tryd.func9, Tryd.ntmps9
 go_wp2_with (first | ((with_reducible refine G.f 12 rfl ?_); refine G.gL 7 Tryd.func12 #[.slice A0 l0.length c0] ?_; (with_reducible refine (spec_l6Open.calls _ _ l0 ap bu w _ ?side1 ?side2 ?side3 A2.out).mono ?_); (case side1 => exact G.cB HB.out); (case side2 => exact bn.out); (case side3 => exact bz.out); rintro e w4 ⟨aQ, rfl, hi, hb, a_⟩; refine ⟨_, rfl, ?_⟩; have n0 := G.m (hb); have n1 := G.m (hi); clear HB; revert n0 n1; intro HB ah; (try clear hb a_ hi)) | ((with_reducible refine G.h 8 rfl ?_); refine Kd.R_lit (Kd.int .i64) _ 3 ?hg (N := 8) ?hd (xs := ([] : List Int)) (inner := []) (ok := fun _ => True) (okp := fun _ => True) ?hr ?hp (fun _ hk => hk) trivial (Below.refl _ _) (Nat.le_refl _) (by simp) ?_; (case hd => rfl); (case hg => rfl); (case hr => first | (go_simp; done) | (go_simp; rfl)); (case hp => exact (Reps.none _ _)); intro eq w5 bO hb hg_ hnew_; clear hg_ hnew_; (first | rw [← b9.out] at bO | (simp only [Int.reduceToNat] at bO; rw [← b9.out] at bO)); have n0 := G.m (Kd.R_lower bO (below_size (caad HB.out))); have n1 := G.m (IsS35.below (caaf) hb); have n2 := G.m (below_step (caad HB.out) hb); clear ah HB; revert n0 n1 n2; intro bl ah HB; clear hb bO) | ((with_reducible refine G.f 13 rfl ?_); refine G.gL 10 Tryd.func13 #[.pointer (some ⟨aQ, 0, none⟩), .int .i64 6] ?_; (with_reducible refine (spec_l6Rd_pick.calls k aQ ap bu 6 bX bY w _ ?side1 ?side2 A3.out).mono ?_); (case side1 => repeat (first | (with_reducible first | exact ah.out | apply IsS35.alloc | apply IsS35.drewN | apply IsS35.drew | apply IsS35.set_1) | exact ah.out)); (case side2 => exact caad HB.out); rintro e w7 ⟨rfl, hi, hb, hk⟩; refine ⟨_, rfl, ?_⟩; have n0 := G.m (Kd.R_mono (Kd.R_keep (IsS35.apart (show IsS35 w _ aQ ap bu from by repeat (first | (with_reducible first | exact ah.out | apply IsS35.alloc | apply IsS35.drewN | apply IsS35.drew | apply IsS35.set_1) | exact ah.out)) (G.cR bl.out) (by decide)) hk (fun _ h => h.2)) (fun _ h => h.1)); have n1 := G.m (hb); have n2 := G.m (hi); clear bl HB ah; revert n0 n1 n2; intro bl HB ah; (try clear hb hk hi)))
 go_loopg [4, 5] k (fun kq v4 v5 w' => ∃ (aI : List Int) (aJ : Int) (aq : Int), v5 = .int .i64 aJ ∧ Aside0 (spec_DrawLiveSay.l0 kq aI aJ ap aq = some r) ∧ Aside0 (kq ≤ k) ∧ Aside0 (Kd.R (Kd.int .i64) 3 w' w.heap.size (fun _ => True) v4 aI) ∧ Aside0 (IsS35 w w' aQ ap aq) ∧ Aside0 (Below w.heap.size w w'))
 case atStart => exact ⟨(bW), (bX), (bY), (caae), H', ⟨Nat.le_refl _⟩, ⟨G.cR bl.out⟩, ⟨caaf⟩, ⟨caad HB.out⟩⟩
 case round =>
  clear H'; obtain ⟨aI, aJ, aq, rfl, HA, df, aG, ah, HB⟩ := hrel; cases gk with
  | zero => exact absurd HA.out (by simp [spec_DrawLiveSay.l0])
  | succ k1 =>
   have H := HA.out; clear HA; simp only [spec_DrawLiveSay.l0] at H
   by_cases c8 : aJ > 0
   ·rw [if_pos c8] at H; have bq : decide (0 < aJ) = true := decide_eq_true c8; clear c8; obtain ⟨av, a3⟩ : ∃ y_ : List Int, y_ = (([0, 1, 7, 10, 123, (-1)] : List Int)) := ⟨_, rfl⟩; replace H : ((spec_l6Rd_pick.f k1 ap aq 6).bind fun aC => (if 0 ≤ aC.1 then (if aC.1 < (av.length : Int) then (if aI.length < 17592186044416 then (spec_DrawLiveSay.l0 k1 (aI ++ [rd av aC.1]) (wrap64 (aJ - 1)) ap aC.2) else (none)) else (none)) else (none))) = some r := by first | (rw [a3]; with_reducible exact H) | (have ax := (Option.bind_some _ _).symm.trans H; rw [a3]; with_reducible exact ax) | (have ax := (Option.bind_some _ _).symm.trans H; with_reducible exact ax) | with_reducible exact H | (rw [a3]; exact H) | exact H
    have b_ := G.m a3; clear a3; obtain ⟨⟨ay, bL⟩, A9, H⟩ := G.bi H; replace H : (if 0 ≤ ay then (if ay < (av.length : Int) then (if aI.length < 17592186044416 then (spec_DrawLiveSay.l0 k1 (aI ++ [rd av ay]) (wrap64 (aJ - 1)) ap bL) else (none)) else (none)) else (none)) = some r := H
    by_cases c10 : 0 ≤ ay
    ·rw [if_pos c10] at H; have bI : decide (0 ≤ ay) = true := decide_eq_true c10; clear c10
     by_cases aY : ay < (av.length : Int)
     ·rw [if_pos aY] at H; have cI : decide (ay < (av.length : Int)) = true := decide_eq_true aY; clear aY
      by_cases aX : aI.length < 17592186044416
      ·rw [if_pos aX] at H; have cU := G.m aX; clear aX; obtain ⟨cp, a4⟩ : ∃ y_ : List Int, y_ = (aI ++ [rd av ay]) := ⟨_, rfl⟩; replace H : (spec_DrawLiveSay.l0 k1 cp (wrap64 (aJ - 1)) ap bL) = some r := by first | (rw [a4]; with_reducible exact H) | (have ax := (Option.bind_some _ _).symm.trans H; rw [a4]; with_reducible exact ax) | (have ax := (Option.bind_some _ _).symm.trans H; with_reducible exact ax) | with_reducible exact H | (rw [a4]; exact H) | exact H
       have cW := G.m a4; clear a4; have H' := G.m H; clear H
       go_wp2_with (first | ((with_reducible refine G.h 16 rfl ?_); refine Kd.R_lit (Kd.int .i64) _ 3 ?hg (N := 16) ?hd (xs := ([0, 1, 7, 10, 123, (-1)] : List Int)) (inner := [.int .i64 0, .int .i64 1, .int .i64 7, .int .i64 10, .int .i64 123, .int .i64 (-1)]) (ok := fun _ => True) (okp := fun _ => True) ?hr ?hp (fun _ hk => hk) trivial (Below.refl _ _) (Nat.le_refl _) (by simp) ?_; (case hd => rfl); (case hg => rfl); (case hr => first | (go_simp; done) | (go_simp; rfl)); (case hp => exact (Reps.one (show Kd.M (Kd.int .i64) _ _ _ 0 [.int .i64 0] from rfl) (Reps.one (show Kd.M (Kd.int .i64) _ _ _ 1 [.int .i64 1] from rfl) (Reps.one (show Kd.M (Kd.int .i64) _ _ _ 7 [.int .i64 7] from rfl) (Reps.one (show Kd.M (Kd.int .i64) _ _ _ 10 [.int .i64 10] from rfl) (Reps.one (show Kd.M (Kd.int .i64) _ _ _ 123 [.int .i64 123] from rfl) (Reps.one (show Kd.M (Kd.int .i64) _ _ _ (-1) [.int .i64 (-1)] from rfl) (Reps.none _ _)))))))); intro er eD a7 hb hg_ hnew_; clear hg_ hnew_; (first | rw [← b_.out] at a7 | (simp only [Int.reduceToNat] at a7; rw [← b_.out] at a7)); have n0 := G.re aG a7 hb; have n1 := G.m (Kd.R_lower (Kd.R_new' a7 (Kd.R_lt (G.cR aG.out))) (below_size (caad HB.out))); have n2 := G.m (IsS35.below (caaf) hb); have n3 := G.m (below_step (caad HB.out) hb); clear aG ah HB; revert n0 n1 n2 n3; intro aG aD ah HB; clear hb a7) | ((with_reducible refine G.f 13 rfl ?_); refine G.gL 18 Tryd.func13 #[.pointer (some ⟨aQ, 0, none⟩), .int .i64 6] ?_; (with_reducible refine (spec_l6Rd_pick.calls k1 aQ ap aq 6 ay bL w _ ?side1 ?side2 A9.out).mono ?_); (case side1 => repeat (first | (with_reducible first | exact ah.out | apply IsS35.alloc | apply IsS35.drewN | apply IsS35.drew | apply IsS35.set_1) | exact ah.out)); (case side2 => exact caad HB.out); rintro e eE ⟨rfl, hi, hb, hk⟩; refine ⟨_, rfl, ?_⟩; have n0 := G.m (Kd.R_mono (Kd.R_keep (IsS35.apart (show IsS35 w _ aQ ap aq from by repeat (first | (with_reducible first | exact ah.out | apply IsS35.alloc | apply IsS35.drewN | apply IsS35.drew | apply IsS35.set_1) | exact ah.out)) (G.cR aG.out) (by decide)) hk (fun _ h => h.2)) (fun _ h => h.1)); have n1 := G.m (Kd.R_mono (Kd.R_keep (IsS35.apart (show IsS35 w _ aQ ap aq from by repeat (first | (with_reducible first | exact ah.out | apply IsS35.alloc | apply IsS35.drewN | apply IsS35.drew | apply IsS35.set_1) | exact ah.out)) (G.cR aD.out) (by decide)) hk (fun _ h => h.2)) (fun _ h => h.1)); have n2 := G.m (hb); have n3 := G.m (hi); clear aG aD HB ah; revert n0 n1 n2 n3; intro aG aD HB ah; (try clear hb hk hi); obtain ⟨es, dt, du⟩ := Kd.R_slice aD.out; subst du; have bZ : 0 ≤ (ay : Int) := of_decide_eq_true (G.asm); have b1 : ay < (av.length : Int) := of_decide_eq_true (G.asm); obtain ⟨cX, dv, dL⟩ := Kd.at_int (Kd.R_reads' aD.out).2.2 ay bZ b1; cases dv; replace bZ := eq_true bZ; replace b1 := eq_true b1) | ((with_reducible refine gate_builtin (b := .append) (xs := #[.tmp 15, .tmp 21]) rfl ?_); at_builtin; refine Kd.R_append (Kd.int .i64) (w0 := w) w.heap.size rfl (.tmp 15) (.tmp 21) 22 3 (.int .i64 0) 8 rfl Tryd.underlying22 info3 rfl (by decide) (by omega) u4 aI (rd av ay) [.int .i64 (rd av ay)] (fun k_ => some k_ ≠ (.slice (some cX) av.length dt : Value).ownBlock) (fun _ => False) rfl rfl ?aP (fun _ hk => hk.elim) ?aF ?aO ?aB ?aS ?aL ?_; (case aP => exact rfl); (case aB => exact (caad HB.out)); (case aF => exact (fun k_ hk => Kd.fresh' (Kd.R_lt (G.cR aD.out)) k_ hk)); (case aO => exact (by (with_reducible repeat (first | apply Kd.R_alloc | apply Kd.R_drewN | apply Kd.R_drew)); exact Kd.R_mono aG.out (fun _ hk => hk.2))); (case aS => exact (below_size (caad HB.out))); (case aL => have := cU.out; omega); intro et eF ho hb hg hat; rw [← cW.out] at ho; have n0 := G.m (IsS35.grown (caaf) hg (IsS35.own_ne ah.out aG.out (by decide))); have n1 := G.m (Kd.R_after (ok := (fun _ => True)) (G.cR aD.out) hg hat); have n2 := G.m (hb); have n3 := G.m (ho); clear ah aD HB aG; revert n0 n1 n2 n3; intro ah aD HB cY; clear ho hb hg hat))
       go_roundg k1
       case measure => have := df.out; omega
       case rel => exact ⟨(cp), (wrap64 (aJ - 1)), (bL), (caae), H', ⟨by have := df.out; omega⟩, ⟨by (with_reducible repeat (first | apply Kd.R_alloc | apply Kd.R_drewN | apply Kd.R_drew)); exact Kd.R_mono cY.out (fun _ hk => trivial)⟩, ⟨caaf⟩, ⟨caad HB.out⟩⟩
      ·rw [if_neg aX] at H; exact absurd H (by simp)
     ·rw [if_neg aY] at H; exact absurd H (by simp)
    ·rw [if_neg c10] at H; exact absurd H (by simp)
   ·rw [if_neg c8] at H; have bq : decide (0 < aJ) = false := decide_eq_false c8; clear c8; obtain rfl := Option.some.inj H
    go_wp2
    go_ret
    exact ⟨_, by first | rfl | (simp [errW_none, errW_some] <;> rfl) | (simp [*, errW_none, errW_some] <;> rfl), G.cR aG.out, caad HB.out⟩

/-! ### laws_FnLiveSay: function 4 -/
def laws_FnLiveSay.j0 : Nat → List Int → List Int → Bool → Option (Bool)
 | 0, _, _, _ => none
 | k + 1, x0, x1, dY => if dY = true then (some true) else ((spec_DrawLiveSay.f k x0).bind fun aa => ((impl_LiveSay.f k aa).bind fun aj => (if (wrap64 ((aa.length : Int) + 1)) = 0 then (none) else ((spec_LiveSay.f k aa).bind fun au => (if aj.toList = au.toList then (if 0 ≤ ((x1.length : Int) % (wrap64 ((aa.length : Int) + 1))) then (if ((x1.length : Int) % (wrap64 ((aa.length : Int) + 1))) ≤ (aa.length : Int) then ((impl_LiveSay.f k (aa.take (((x1.length : Int) % (wrap64 ((aa.length : Int) + 1))) : Int).toNat)).bind fun ag => ((impl_LiveSay.f k (aa.drop (((x1.length : Int) % (wrap64 ((aa.length : Int) + 1))) : Int).toNat)).bind fun af => (if ag.size + af.size ≤ 9223372036854775807 then (some ((ag ++ af).toList == aj.toList)) else (none)))) else (none)) else (none)) else (some false))))))
def laws_FnLiveSay.f (k : Nat) (l0 : List Int) (l1 : List Int) : Option (Bool) := if (l0.length : Int) > 1048576 then (laws_FnLiveSay.j0 k l0 l1 true) else (laws_FnLiveSay.j0 k l0 l1 (decide ((l1.length : Int) > 1048576)))
theorem laws_FnLiveSay.mono_l : ∀ k, (∀ y0 y1 y2, LeO (laws_FnLiveSay.j0 k y0 y1 y2) (laws_FnLiveSay.j0 (k + 1) y0 y1 y2))
 | 0 => fun _ _ _ r h => by simp [laws_FnLiveSay.j0] at h
 | k + 1 => by
  have aA := laws_FnLiveSay.mono_l k
  ·intro y0 y1 y2; unfold laws_FnLiveSay.j0
   repeat' first
   | (with_reducible exact aA _ _ _)
   | (with_reducible exact impl_LiveSay.mono _ _)
   | (with_reducible exact spec_DrawLiveSay.mono _ _)
   | (with_reducible exact spec_LiveSay.mono _ _)
   | (with_reducible exact LeO.refl _)
   | (with_reducible exact LeO.none _)
   | (with_reducible refine LeO.ite ?_ ?_)
   | (with_reducible refine LeO.bind ?_ (fun _ => ?_))
   | exact aA _ _ _
   | exact impl_LiveSay.mono _ _
   | exact spec_DrawLiveSay.mono _ _
   | exact spec_LiveSay.mono _ _
   | exact LeO.none _
   | refine LeO.ite ?_ ?_
   | refine LeO.bind ?_ (fun _ => ?_)
theorem laws_FnLiveSay.mono : ∀ a0 a1 k, LeO (laws_FnLiveSay.f k a0 a1) (laws_FnLiveSay.f (k + 1) a0 a1) := by
 intro a0 a1 k; have aA := laws_FnLiveSay.mono_l k; unfold laws_FnLiveSay.f
 repeat' first | (with_reducible first | exact aA _ _ _ | exact impl_LiveSay.mono _ _ | exact spec_DrawLiveSay.mono _ _ | exact spec_LiveSay.mono _ _ | exact LeO.refl _ | exact LeO.none _ | refine LeO.ite ?_ ?_ | refine LeO.bind ?_ (fun _ => ?_)) | exact aA _ _ _ | exact impl_LiveSay.mono _ _ | exact spec_DrawLiveSay.mono _ _ | exact spec_LiveSay.mono _ _ | exact LeO.none _ | refine LeO.ite ?_ ?_ | refine LeO.bind ?_ (fun _ => ?_)
def laws_FnLiveSay.T6 : Bool × List (List Nat × List Nat) := (true, [([], []), ([], []), ([1], [1]), ([0, 2], [0, 2]), ([3, 2], [3]), ([4], [4]), ([4], [4]), ([5, 6, 4], [4, 5, 6]), ([7, 4, 4], [4, 7]), ([4], [4]), ([4], [4]), ([9, 10, 4], [4, 9, 10]), ([11, 8, 4], [4, 11]), ([8, 12, 4], [4, 8, 12]), ([4], [4]), ([13, 14, 4], [4, 13, 14]), ([4, 15], [4, 15]), ([16, 12, 0, 1, 2, 3, 4, 5, 6, 7, 8, 9, 10, 11, 12, 13, 14, 15, 16], [16])])
def laws_FnLiveSay.B6 : List Nat := [0, 0, 2, 7, 15, 31, 31, 127, 255, 31, 31, 1567, 4095, 8191, 31, 32767, 65535, 131071]
theorem laws_FnLiveSay.tab6 : rtab .any (opsOf Tryd.f4 6) = laws_FnLiveSay.T6 := by kernel_rfl
theorem laws_FnLiveSay.bits6 : waitsOk laws_FnLiveSay.T6.2 laws_FnLiveSay.B6 = true := by kernel_rfl
set_option maxHeartbeats 8000000 in
set_option maxRecDepth 100000 in
theorem laws_FnLiveSay.calls (k : Nat) (A0 : Option Addr) (c0 : Nat) (l0 : List Int) (A1 : Option Addr) (c1 : Nat) (l1 : List Int) (r : Bool) (w : World) (am : Kd.C (Kd.int .u8) w A0 l0.length l0) (ba : l0.length ≤ c0) (hr1 : Kd.C (Kd.int .u8) w A1 l1.length l1) (dg : l1.length ≤ c1) (h : laws_FnLiveSay.f k l0 l1 = some r) (hT : TabP w) :
  Calls Tryd.prog 4 #[.slice A0 l0.length c0, .slice A1 l1.length c1] w fun e w' => e = .returned (.bool r) ∧ Below w.heap.size w w' := by
 have HTb := G.m hT; clear hT; have bn := G.m am; have bz := G.m ba; clear am ba; have eG := G.m hr1; have eH := G.m dg; clear hr1 dg; have HB := G.m (Below.refl w.heap.size w); have H : (if (l0.length : Int) > 1048576 then (laws_FnLiveSay.j0 k l0 l1 true) else (laws_FnLiveSay.j0 k l0 l1 (decide ((l1.length : Int) > 1048576)))) = some r := h; clear h; have bo := G.m H; clear H
 go_enter Tryd.func4, Tryd.ntmps4
 go_upto_region 1 with (fail)
 go_cut [15] (fun dZ wc => ∃ (kq : Nat) (bm : Bool), dZ = .bool bm ∧ Aside0 (laws_FnLiveSay.j0 kq l0 l1 bm = some r) ∧ Aside0 (kq ≤ k) ∧ Aside0 (Below w.heap.size w wc))
 case first =>
  have H := bo.out; clear bo
  by_cases c4 : (l0.length : Int) > 1048576
  ·rw [if_pos c4] at H; have bv : decide (1048576 < (l0.length : Int)) = true := decide_eq_true c4; have dw : decide (1048576 < l0.length) = true := decide_eq_true (by omega); clear c4; (first | rw [bv] | (simp only [i64_w, i32_w]; rw [bv]) | skip); have H' := G.m H; clear H
   go_wp2
   go_meet
   case rel => exact ⟨_, (true), (caae), H', ⟨by first | omega | exact Nat.le_refl _⟩, ⟨G.cB HB.out⟩⟩
  ·rw [if_neg c4] at H; have bv : decide (1048576 < (l0.length : Int)) = false := decide_eq_false c4; have dw : decide (1048576 < l0.length) = false := decide_eq_false (by omega); clear c4; (first | rw [bv] | (simp only [i64_w, i32_w]; rw [bv]) | skip); have H' := G.m H; clear H
   go_wp2
   go_meet
   case rel => exact ⟨_, (decide ((l1.length : Int) > 1048576)), (caae), H', ⟨by first | omega | exact Nat.le_refl _⟩, ⟨G.cB HB.out⟩⟩
 case rest =>
  clear bo; obtain ⟨kq, bm, rfl, HA, dX, HB⟩ := hcut; cases kq with
  | zero => exact absurd HA.out (by simp [laws_FnLiveSay.j0])
  | succ ao =>
   have H := HA.out; clear HA; simp only [laws_FnLiveSay.j0] at H
   by_cases c5 : bm = true
   ·subst c5; have H1 : (some true) = some r := by rw [if_pos rfl] at H; exact H
    clear H; have H := H1; clear H1; obtain rfl := Option.some.inj H
    go_wp2
    go_ret
    exact ⟨caak, G.cB HB.out⟩
   ·replace c5 := Bool.eq_false_iff.mpr c5; subst c5; have H1 : ((spec_DrawLiveSay.f ao l0).bind fun aa => ((impl_LiveSay.f ao aa).bind fun aj => (if (wrap64 ((aa.length : Int) + 1)) = 0 then (none) else ((spec_LiveSay.f ao aa).bind fun au => (if aj.toList = au.toList then (if 0 ≤ ((l1.length : Int) % (wrap64 ((aa.length : Int) + 1))) then (if ((l1.length : Int) % (wrap64 ((aa.length : Int) + 1))) ≤ (aa.length : Int) then ((impl_LiveSay.f ao (aa.take (((l1.length : Int) % (wrap64 ((aa.length : Int) + 1))) : Int).toNat)).bind fun ag => ((impl_LiveSay.f ao (aa.drop (((l1.length : Int) % (wrap64 ((aa.length : Int) + 1))) : Int).toNat)).bind fun af => (if ag.size + af.size ≤ 9223372036854775807 then (some ((ag ++ af).toList == aj.toList)) else (none)))) else (none)) else (none)) else (some false)))))) = some r := by rw [if_neg (show ¬ (false = true) by decide)] at H; exact H
    clear H; have H := H1; clear H1; obtain ⟨aa, A6, H⟩ := G.bi H; replace H : ((impl_LiveSay.f ao aa).bind fun aj => (if (wrap64 ((aa.length : Int) + 1)) = 0 then (none) else ((spec_LiveSay.f ao aa).bind fun au => (if aj.toList = au.toList then (if 0 ≤ ((l1.length : Int) % (wrap64 ((aa.length : Int) + 1))) then (if ((l1.length : Int) % (wrap64 ((aa.length : Int) + 1))) ≤ (aa.length : Int) then ((impl_LiveSay.f ao (aa.take (((l1.length : Int) % (wrap64 ((aa.length : Int) + 1))) : Int).toNat)).bind fun ag => ((impl_LiveSay.f ao (aa.drop (((l1.length : Int) % (wrap64 ((aa.length : Int) + 1))) : Int).toNat)).bind fun af => (if ag.size + af.size ≤ 9223372036854775807 then (some ((ag ++ af).toList == aj.toList)) else (none)))) else (none)) else (none)) else (some false))))) = some r := H; obtain ⟨aj, A7, H⟩ := G.bi H; replace H : (if (wrap64 ((aa.length : Int) + 1)) = 0 then (none) else ((spec_LiveSay.f ao aa).bind fun au => (if aj.toList = au.toList then (if 0 ≤ ((l1.length : Int) % (wrap64 ((aa.length : Int) + 1))) then (if ((l1.length : Int) % (wrap64 ((aa.length : Int) + 1))) ≤ (aa.length : Int) then ((impl_LiveSay.f ao (aa.take (((l1.length : Int) % (wrap64 ((aa.length : Int) + 1))) : Int).toNat)).bind fun ag => ((impl_LiveSay.f ao (aa.drop (((l1.length : Int) % (wrap64 ((aa.length : Int) + 1))) : Int).toNat)).bind fun af => (if ag.size + af.size ≤ 9223372036854775807 then (some ((ag ++ af).toList == aj.toList)) else (none)))) else (none)) else (none)) else (some false)))) = some r := H
    by_cases c8 : (wrap64 ((aa.length : Int) + 1)) = 0
    ·rw [if_pos c8] at H; exact absurd H (by simp)
    ·rw [if_neg c8] at H; have bq : ((wrap64 ((aa.length : Int) + 1)) == 0) = false := beq_eq_false_iff_ne.mpr c8; have eu : ((wrap64 ((aa.length : Int) + 1)) != 0) = true := bne_iff_ne.mpr c8; obtain ⟨au, A9, H⟩ := G.bi H; replace H : (if aj.toList = au.toList then (if 0 ≤ ((l1.length : Int) % (wrap64 ((aa.length : Int) + 1))) then (if ((l1.length : Int) % (wrap64 ((aa.length : Int) + 1))) ≤ (aa.length : Int) then ((impl_LiveSay.f ao (aa.take (((l1.length : Int) % (wrap64 ((aa.length : Int) + 1))) : Int).toNat)).bind fun ag => ((impl_LiveSay.f ao (aa.drop (((l1.length : Int) % (wrap64 ((aa.length : Int) + 1))) : Int).toNat)).bind fun af => (if ag.size + af.size ≤ 9223372036854775807 then (some ((ag ++ af).toList == aj.toList)) else (none)))) else (none)) else (none)) else (some false)) = some r := H
     by_cases c10 : aj.toList = au.toList
     ·rw [if_pos c10] at H; have bI : (aj.toList == au.toList) = true := beq_iff_eq.mpr c10; have cZ : (aj.toList != au.toList) = false := bne_eq_false_iff_eq.mpr c10; clear c10; obtain ⟨ai, aV⟩ : ∃ j_ : Int, ((l1.length : Int) % (wrap64 ((aa.length : Int) + 1))) = j_ := ⟨_, rfl⟩; replace H : (if 0 ≤ (ai) then (if (ai) ≤ (aa.length : Int) then ((impl_LiveSay.f ao (aa.take ((ai) : Int).toNat)).bind fun ag => ((impl_LiveSay.f ao (aa.drop ((ai) : Int).toNat)).bind fun af => (if ag.size + af.size ≤ 9223372036854775807 then (some ((ag ++ af).toList == aj.toList)) else (none)))) else (none)) else (none)) = some r := by first | (rw [aV] at H; exact H) | (simp only [aV] at H ⊢; exact H)
      (try rw [aV] at A6); (try rw [aV] at A7); (try rw [aV] at A9)
      by_cases aX : 0 ≤ (ai)
      ·rw [if_pos aX] at H; have ej := eq_true aX; have ek : decide (0 ≤ (ai)) = true := decide_eq_true aX; clear aX
       by_cases aN : (ai) ≤ (aa.length : Int)
       ·rw [if_pos aN] at H; have cL := eq_true aN; have cM : decide ((ai) ≤ (aa.length : Int)) = true := decide_eq_true aN; clear aN; obtain ⟨bw, a5⟩ : ∃ y_ : List Int, y_ = (aa.take ((ai) : Int).toNat) := ⟨_, rfl⟩; replace H : ((impl_LiveSay.f ao bw).bind fun ag => ((impl_LiveSay.f ao (aa.drop ((ai) : Int).toNat)).bind fun af => (if ag.size + af.size ≤ 9223372036854775807 then (some ((ag ++ af).toList == aj.toList)) else (none)))) = some r := by first | (rw [a5]; with_reducible exact H) | (have ax := (Option.bind_some _ _).symm.trans H; rw [a5]; with_reducible exact ax) | (have ax := (Option.bind_some _ _).symm.trans H; with_reducible exact ax) | with_reducible exact H | (rw [a5]; exact H) | exact H
        have ca := G.m a5; clear a5; obtain ⟨ag, d7, H⟩ := G.bi H; replace H : ((impl_LiveSay.f ao (aa.drop ((ai) : Int).toNat)).bind fun af => (if ag.size + af.size ≤ 9223372036854775807 then (some ((ag ++ af).toList == aj.toList)) else (none))) = some r := H; have cN := eq_true (of_decide_eq_true (G.asm) : 0 ≤ (ai)); have cO := eq_true (of_decide_eq_true (G.asm) : (ai) ≤ (aa.length : Int)); obtain ⟨aR, a6⟩ : ∃ y_ : List Int, y_ = (aa.drop ((ai) : Int).toNat) := ⟨_, rfl⟩; replace H : ((impl_LiveSay.f ao aR).bind fun af => (if ag.size + af.size ≤ 9223372036854775807 then (some ((ag ++ af).toList == aj.toList)) else (none))) = some r := by first | (rw [a6]; with_reducible exact H) | (have ax := (Option.bind_some _ _).symm.trans H; rw [a6]; with_reducible exact ax) | (have ax := (Option.bind_some _ _).symm.trans H; with_reducible exact ax) | with_reducible exact H | (rw [a6]; exact H) | exact H
        have cd := G.m a6; clear a6; obtain ⟨af, d8, H⟩ := G.bi H; replace H : (if ag.size + af.size ≤ 9223372036854775807 then (some ((ag ++ af).toList == aj.toList)) else (none)) = some r := H
        by_cases aW : ag.size + af.size ≤ 9223372036854775807
        ·rw [if_pos aW] at H; have cP := eq_true aW; have el : decide (ag.size + af.size ≤ 9223372036854775807) = true := decide_eq_true aW; try have em : (9223372036854775807 < ag.size + af.size) = False := eq_false (Nat.not_lt.2 aW)
         obtain rfl := Option.some.inj H; try go_wp2_with (first | ((with_reducible refine G.f 9 rfl ?_); refine G.gL 17 Tryd.func9 #[.slice A0 l0.length c0] ?_; (with_reducible refine (spec_DrawLiveSay.calls ao _ _ l0 aa _ ?side1 ?side2 A6.out).mono ?_); (case side1 => exact G.cC (Kd.C_below bn.out HB.out)); (case side2 => exact bz.out); rintro e eI ⟨dx, rfl, bP, hb⟩; refine ⟨_, rfl, ?_⟩; have n0 := G.m (Kd.R_lower bP (below_size (G.cB HB.out))); have n1 := G.bs HB hb; clear HB; revert n0 n1; intro ac HB; (try clear hb bP); obtain ⟨aM, aH, dy⟩ := Kd.R_slice ac.out; subst dy) | ((with_reducible refine G.f 7 rfl ?_); refine G.gL 19 Tryd.func7 #[.slice aM aa.length aH] ?_; (with_reducible refine (impl_LiveSay.calls ao _ _ aa aj _ ?side1 ?side2 A7.out ?sideT).mono ?_); (case sideT => exact lay HTb.out (G.cB HB.out)); (case side1 => exact G.cC (Kd.R_reads' ac.out).2.2); (case side2 => exact (Kd.R_reads' ac.out).2.1); rintro e d9 ⟨rfl, hb⟩; refine ⟨_, rfl, ?_⟩; have n0 := G.rb ac hb; have n1 := G.bs HB hb; clear ac HB; revert n0 n1; intro ac HB; (try clear hb)))
         have n0 := G.m (Kd.R_drew ac.out); have n1 := G.m (below_drew1 HB.out); clear ac HB; revert n0 n1; intro ac HB; refine G.st 18 (S := fun w' => True) [] trivial laws_FnLiveSay.tab6 laws_FnLiveSay.bits6 (fun hHeld HT_ HW_ => ?_); generalize d9.drew = eJ at ac HB hHeld ⊢; refine G.pu 0 26 1 ?_; refine G.pu 1 27 3 ?_; refine G.on 2 28 7 (fun K hK => ?_); refine G.gs Tryd.func5 #[.slice aM aa.length aH] ?_; with_reducible refine (spec_LiveSay.calls ao _ _ aa au _ ?side1 ?side2 A9.out).mono ?_
         (case side1 => exact G.cC (Kd.R_reads' ac.out).2.2); (case side2 => exact (Kd.R_reads' ac.out).2.1); rintro e eK ⟨rfl, hb⟩; refine ⟨_, rfl, ?_⟩; have n0 := G.rb ac hb; have n1 := G.bs HB hb; clear ac HB; revert n0 n1; intro ac HB; (try clear hb a_ hk hi); have cq : ((ai) : Int) ≤ ((aa.length : Int) : Int) := of_decide_eq_true (G.asm); obtain ⟨ev, ce, _, c_, _⟩ := info_parts info3; have bF : aa.length ≤ aH := (Kd.R_reads' ac.out).2.1; have cr : Kd.C (Kd.int .i64) _ aM aa.length aa := (Kd.R_reads' ac.out).2.2; have ct := cut_to (P := Tryd.prog) 22 3 .i64 Tryd.underlying22 ce aM aa.length aH (ai) (of_decide_eq_true (G.asm)) cq bF; have b2 := Kd.C_take (m := ((ai) : Int).toNat) cr (by omega); have b3 : bw.length = ((ai) : Int).toNat := (by rw [ca.out, List.length_take]; omega); rw [← ca.out] at b2; rw [← b3] at ct; have aT := G.m b2; have da := G.m (show bw.length ≤ aH from by omega); clear b2 cr bF ce c_; have ew := G.m b3; clear b3; have ex := G.m (show ((ai) : Int).toNat ≤ aa.length from by omega); replace cq := eq_true cq; have cu : ((ai) : Int) ≤ ((aa.length : Int) : Int) := of_decide_eq_true (G.asm); obtain ⟨ey, cf, _, cg, _⟩ := info_parts info3; have a8 : aa.length ≤ aH := (Kd.R_reads' ac.out).2.1; have cv : Kd.C (Kd.int .i64) _ aM aa.length aa := (Kd.R_reads' ac.out).2.2; have dz : (0 : Int) ≤ ((ai) : Int) := of_decide_eq_true (G.asm); have cw := cut_from (P := Tryd.prog) 22 3 .i64 Tryd.underlying22 cf 1 cg aM aa.length aH (ai) dz cu; have bx := Kd.C_drop (m := ((ai) : Int).toNat) (c := aH) cv (by omega) a8; obtain ⟨dh, bM⟩ : ∃ A1, A1 = (if aH = ((ai) : Int).toNat then aM else (aM : Option Addr).map (·.add (((ai) : Int).toNat * 1))) := ⟨_, rfl⟩; obtain ⟨di, b4⟩ : ∃ c1, c1 = aH - ((ai) : Int).toNat := ⟨_, rfl⟩; have bN : aR.length = aa.length - ((ai) : Int).toNat := (by rw [cd.out, List.length_drop] <;> omega); rw [show (aa).drop ((ai) : Int).toNat = aR from cd.out.symm] at bx; replace bx : Kd.C (Kd.int .i64) _ dh aR.length aR := (by rw [bM]; exact bx); rw [← bN, ← bM, ← b4] at cw; have aU := G.m bx; have db := G.m (show aR.length ≤ di from by rw [bN, b4]; exact Nat.sub_le_sub_right a8 _); clear bx cv a8 cf cg b4; have ez := G.m bN; have eA := G.m bM; clear bN bM; have eB := G.m (show ((ai) : Int).toNat ≤ aa.length from by omega); replace cu := eq_true cu; refine hK.out _ _ trivial (fun hHeld => ?_); clear hK K; refine G.no 28 ?_; refine G.pu 3 29 15 ?_; refine G.pu 4 30 31 ?_; refine G.pu 5 31 63 ?_; refine G.pu 6 32 127 ?_; refine G.pu 7 33 255 ?_; refine G.pu 9 35 767 ?_; refine G.pu 10 36 1791 ?_; refine G.pu 11 37 3839 ?_; refine G.pu 14 40 20223 ?_; refine G.on 8 34 20479 (fun K hK => ?_); refine G.gs Tryd.func7 #[.slice aM bw.length aH] ?_; with_reducible refine (impl_LiveSay.calls ao _ _ bw ag _ ?side1 ?side2 d7.out ?sideT).mono ?_
         (case sideT => exact lay HTb.out (G.cB HB.out)); (case side1 => repeat (first | exact (caai) | (with_reducible refine Kd.C_alloc ?_ _) | (with_reducible refine Kd.C_drewN ?_ _) | (with_reducible refine Kd.C_drew ?_))); (case side2 => exact da.out); rintro e eL ⟨rfl, hb⟩; refine ⟨_, rfl, ?_⟩; have nB_ := G.m (Kd.C_below (caaj) hb); clear aU; have aU := nB_; clear nB_; have n0 := G.rb ac hb; have n1 := G.m (Kd.C_below (caai) hb); have n2 := G.bs HB hb; clear ac aT HB; revert n0 n1 n2; intro ac aT HB; (try clear hb); refine hK.out _ _ trivial (fun hHeld => ?_); clear hK K; refine G.no 34 ?_; refine G.on 12 38 24575 (fun K hK => ?_); refine G.gs Tryd.func7 #[.slice dh aR.length di] ?_; with_reducible refine (impl_LiveSay.calls ao _ _ aR af _ ?side1 ?side2 d8.out ?sideT).mono ?_
         (case sideT => exact lay HTb.out (G.cB HB.out)); (case side1 => repeat (first | exact (caaj) | (with_reducible refine Kd.C_alloc ?_ _) | (with_reducible refine Kd.C_drewN ?_ _) | (with_reducible refine Kd.C_drew ?_))); (case side2 => exact db.out); rintro e eM ⟨rfl, hb⟩; refine ⟨_, rfl, ?_⟩; have n0 := G.rb ac hb; have n1 := G.m (Kd.C_below (caai) hb); have n2 := G.m (Kd.C_below (caaj) hb); have n3 := G.bs HB hb; clear ac aT aU HB; revert n0 n1 n2 n3; intro ac aT aU HB; (try clear hb); refine hK.out _ _ trivial (fun hHeld => ?_); clear hK K; refine G.no 38 ?_; refine G.pu 13 39 32767 ?_; refine G.pu 15 41 65535 ?_; refine G.pu 16 42 131071 ?_; refine G.pu 17 4 262143 ?_; refine done_ (done_of HT_.out (caal)) ?_; try go_wp2
         go_ret
         exact ⟨by first | rfl | (simp [errW_none, errW_some] <;> rfl) | (simp only [← aV]; first | rfl | (simp [errW_none, errW_some] <;> rfl)) | (simp [*, errW_none, errW_some] <;> rfl), G.cB HB.out⟩
        ·rw [if_neg aW] at H; exact absurd H (by simp)
       ·rw [if_neg aN] at H; exact absurd H (by simp)
      ·rw [if_neg aX] at H; exact absurd H (by simp)
     ·rw [if_neg c10] at H; have bI : (aj.toList == au.toList) = false := beq_eq_false_iff_ne.mpr c10; have cZ : (aj.toList != au.toList) = true := bne_iff_ne.mpr c10; obtain rfl := Option.some.inj H; try go_wp2_with (first | ((with_reducible refine G.f 9 rfl ?_); refine G.gL 17 Tryd.func9 #[.slice A0 l0.length c0] ?_; (with_reducible refine (spec_DrawLiveSay.calls ao _ _ l0 aa _ ?side1 ?side2 A6.out).mono ?_); (case side1 => exact G.cC (Kd.C_below bn.out HB.out)); (case side2 => exact bz.out); rintro e eN ⟨dx, rfl, bP, hb⟩; refine ⟨_, rfl, ?_⟩; have n0 := G.m (Kd.R_lower bP (below_size (G.cB HB.out))); have n1 := G.bs HB hb; clear HB; revert n0 n1; intro ac HB; (try clear hb bP); obtain ⟨cx, cy, dA⟩ := Kd.R_slice ac.out; subst dA) | ((with_reducible refine G.f 7 rfl ?_); refine G.gL 19 Tryd.func7 #[.slice cx aa.length cy] ?_; (with_reducible refine (impl_LiveSay.calls ao _ _ aa aj _ ?side1 ?side2 A7.out ?sideT).mono ?_); (case sideT => exact lay HTb.out (G.cB HB.out)); (case side1 => exact G.cC (Kd.R_reads' ac.out).2.2); (case side2 => exact (Kd.R_reads' ac.out).2.1); rintro e d_ ⟨rfl, hb⟩; refine ⟨_, rfl, ?_⟩; have n0 := G.rb ac hb; have n1 := G.bs HB hb; clear ac HB; revert n0 n1; intro ac HB; (try clear hb)))
      have n0 := G.m (Kd.R_drew ac.out); have n1 := G.m (below_drew1 HB.out); clear ac HB; revert n0 n1; intro ac HB; refine G.st 18 (S := fun w' => True) [] trivial laws_FnLiveSay.tab6 laws_FnLiveSay.bits6 (fun hHeld HT_ HW_ => ?_); generalize d_.drew = eO at ac HB hHeld ⊢; refine G.pu 0 26 1 ?_; refine G.pu 1 27 3 ?_; refine G.on 2 28 7 (fun K hK => ?_); refine G.gs Tryd.func5 #[.slice cx aa.length cy] ?_; with_reducible refine (spec_LiveSay.calls ao _ _ aa au _ ?side1 ?side2 A9.out).mono ?_
      (case side1 => exact G.cC (Kd.R_reads' ac.out).2.2); (case side2 => exact (Kd.R_reads' ac.out).2.1); rintro e eP ⟨rfl, hb⟩; refine ⟨_, rfl, ?_⟩; have n0 := G.rb ac hb; have n1 := G.bs HB hb; clear ac HB; revert n0 n1; intro ac HB; (try clear hb a_ hk hi); refine hK.out _ _ trivial (fun hHeld => ?_); clear hK K; refine G.no 28 ?_; refine G.pu 3 29 15 ?_; refine G.pu 4 30 31 ?_; refine G.pf 5 31 63 ?_; refine G.pf 6 32 127 ?_; refine G.pf 7 33 255 ?_; refine G.pf 8 34 511 ?_; refine G.pf 9 35 1023 ?_; refine G.pf 10 36 2047 ?_; refine G.pf 11 37 4095 ?_; refine G.pf 12 38 8191 ?_; refine G.pf 13 39 16383 ?_; refine G.pf 14 40 32767 ?_; refine G.pf 15 41 65535 ?_; refine G.pu 16 42 131071 ?_; refine G.pu 17 4 262143 ?_; refine done_ (done_of HT_.out (caal)) ?_; try go_wp2
      go_ret
      exact ⟨caak, G.cB HB.out⟩

end Go.Proofs.YtbpkngahnmoocaaDoor.P
