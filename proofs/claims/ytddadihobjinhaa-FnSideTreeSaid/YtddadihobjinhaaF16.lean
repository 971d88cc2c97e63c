-- Printed by a program of this session (mp.py, over the kit's print). Not trusted: Lean checks it.
import Derived.Test.YtddadihobjinhaaF0
import Derived.Test.YtddadihobjinhaaF2
import Derived.Test.YtddadihobjinhaaF4
namespace Go.Proofs.Ytddadihobjinhaa.P
open Go.RowKit Go.Proofs.YtddadihobjinhaaW.PrintWords Go.Proofs.YtddadihobjinhaaW.PrintLast Go.Proofs.YtddadihobjinhaaW.PrintMore
attribute [local go_sem] max2_int min2_int max_two min_two max_three min_three max_four min_four   -- for this text's walks alone
set_option linter.unusedVariables false
set_option linter.unusedSimpArgs false

theorem cabm {p : Prop} (h : p := by first | rfl | (simp [errW_none, errW_some] <;> rfl) | (simp [*, errW_none, errW_some] <;> rfl)) : p := h
theorem cabl {p : Prop} (h : p := by repeat (first | (with_reducible first | exact au.out | apply IsS87.alloc | apply IsS87.drewN | apply IsS87.drew | apply IsS87.set_1) | (with_reducible refine IsS87.far ?_ (Aside0.out (by assumption)) _) | exact au.out)) : p := h
theorem cabk {B : Nat} {w w1 w2 : World} (H : Below B w w1) (h : Below B w w2 := by repeat (first | (with_reducible first | exact HB.out | apply below_alloc | apply pw_below_drewN | apply below_drew1) | (with_reducible refine below_set ?_ (Aside0.out (by assumption))) | (with_reducible refine below_set ?_ (IsS87.ge au.out)) | exact HB.out)) : Below B w w2 := h
/-- A state of type 87 at block g of W; what its slices lead to came in by w0. -/
def IsS87 (w0 W : World) (g : Nat) (f0 : List Int) (f1 : Int) : Prop := ∃ A0 c0, W.heap[g]? = some (.cells #[.slice A0 f0.length c0, .int .i64 f1] 87 (0, 0)) ∧ w0.heap.size ≤ g ∧ Kd.C (Kd.int .u8) w0 A0 f0.length f0
theorem IsS87.grown {w0 W : World} {g : Nat} {f0 : List Int} {f1 : Int} {W1 : World} {row : Option Nat} (h : IsS87 w0 W g f0 f1) (hw : W.grownBy W1 row) (hne : some g ≠ row) : IsS87 w0 W1 g f0 f1 := by
 obtain ⟨A0, c0, hb, hg, ai⟩ := h; exact ⟨A0, c0, blk_grown hb hw hne, hg, ai⟩
theorem IsS87.own_neN {w0 W : World} {g : Nat} {f0 : List Int} {f1 : Int} {α : Type} {d : Kd α} {e : Nat} {base : Nat} {ok : Nat → Prop} {v : Value} {xs : List α} (h : IsS87 w0 W g f0 f1) (ho : Kd.N d e W base ok v xs) (ht : e ≠ 87) : some g ≠ v.ownBlock := by
 obtain ⟨A0, c0, hb, hg, ai⟩ := h; exact Kd.N_ne ho hb ht
theorem IsS87.fresh {w0 W : World} {g : Nat} {f0 : List Int} {f1 : Int} (h : IsS87 w0 W g f0 f1) : ∀ k, W.heap.size ≤ k → k ≠ g := by
 obtain ⟨A0, c0, hb, hg, ai⟩ := h; exact Kd.freshB hb
theorem IsS87.kept {w0 W : World} {g : Nat} {f0 : List Int} {f1 : Int} {W1 : World} {S : Nat → Prop} (h : IsS87 w0 W g f0 f1) (hk : Kept W W1 S) (hne : ¬ S g) : IsS87 w0 W1 g f0 f1 := by
 obtain ⟨A0, c0, hb, hg, ai⟩ := h; exact ⟨A0, c0, blk_kept hb hk hne, hg, ai⟩
theorem IsS87.below {w0 W : World} {g : Nat} {f0 : List Int} {f1 : Int} {W1 : World} (h : IsS87 w0 W g f0 f1) (hw : Below W.heap.size W W1) : IsS87 w0 W1 g f0 f1 := h.grown (grown_of_below hw none) (by simp)
theorem IsS87.alloc {w0 W : World} {g : Nat} {f0 : List Int} {f1 : Int} (h : IsS87 w0 W g f0 f1) (o : Obj) : IsS87 w0 (W.alloc o) g f0 f1 := h.below (below_alloc (Below.refl _ _) o)
theorem IsS87.drewN {w0 W : World} {g : Nat} {f0 : List Int} {f1 : Int} (h : IsS87 w0 W g f0 f1) (m : Nat) : IsS87 w0 (W.drewN m) g f0 f1 := h
theorem IsS87.drew {w0 W : World} {g : Nat} {f0 : List Int} {f1 : Int} (h : IsS87 w0 W g f0 f1) : IsS87 w0 W.drew g f0 f1 := h
theorem IsS87.at_ {w0 W : World} {g : Nat} {f0 : List Int} {f1 : Int} {w' : World} {m : Nat} (hq : W.drewN m = w') (h : IsS87 w0 W g f0 f1) : IsS87 w0 w' g f0 f1 := by subst hq; exact IsS87.drewN h m
theorem IsS87.apart {w0 W : World} {g : Nat} {f0 : List Int} {f1 : Int} {α : Type} {d : Kd α} {e : Nat} {base : Nat} {ok : Nat → Prop} {v : Value} {xs : List α} (h : IsS87 w0 W g f0 f1) (ho : d.R e W base ok v xs) (ht : ∀ q, q ∈ e :: d.E → q ≠ 87) : d.R e W base (fun k => ok k ∧ k ≠ g) v xs := by
 obtain ⟨A0, c0, hb, hg, ai⟩ := h; exact Kd.R_types ho hb ht
theorem IsS87.own_ne {w0 W : World} {g : Nat} {f0 : List Int} {f1 : Int} {α : Type} {d : Kd α} {e : Nat} {base : Nat} {ok : Nat → Prop} {v : Value} {xs : List α} (h : IsS87 w0 W g f0 f1) (ho : d.R e W base ok v xs) (ht : e ≠ 87) : some g ≠ v.ownBlock := by
 obtain ⟨A0, c0, hb, hg, ai⟩ := h; exact Kd.R_ne ho hb ht
theorem IsS87.apartQ {w0 W : World} {g : Nat} {f0 : List Int} {f1 : Int} {α : Type} {d : Kd α} {e : Nat} {base : Nat} {ok : Nat → Prop} {v : Value} {xs : List α} (h : IsS87 w0 W g f0 f1) (ho : d.Q e W base ok v xs) (ht : ∀ q, q ∈ e :: d.E → q ≠ 87) : d.Q e W base (fun k => ok k ∧ k ≠ g) v xs := by
 obtain ⟨A0, c0, hb, hg, ai⟩ := h; exact Kd.Q_types ho hb ht
theorem IsS87.own_neQ {w0 W : World} {g : Nat} {f0 : List Int} {f1 : Int} {α : Type} {d : Kd α} {e : Nat} {base : Nat} {ok : Nat → Prop} {v : Value} {xs : List α} (h : IsS87 w0 W g f0 f1) (ho : d.Q e W base ok v xs) (ht : e ≠ 87) : some g ≠ v.ownBlock := by
 obtain ⟨A0, c0, hb, hg, ai⟩ := h; exact Kd.Q_ne ho hb ht
theorem IsS87.apartS {w0 W : World} {g : Nat} {f0 : List Int} {f1 : Int} {α : Type} {d : Kd α} {e : Nat} {base : Nat} {ok : Nat → Prop} {v : Value} {xs : List α} (h : IsS87 w0 W g f0 f1) (ho : d.S e W base ok v xs) (ht : ∀ q, q ∈ e :: d.E → q ≠ 87) : d.S e W base (fun k => ok k ∧ k ≠ g) v xs := by
 obtain ⟨A0, c0, hb, hg, ai⟩ := h; exact Kd.S_types ho hb ht
theorem IsS87.own_neS {w0 W : World} {g : Nat} {f0 : List Int} {f1 : Int} {α : Type} {d : Kd α} {e : Nat} {base : Nat} {ok : Nat → Prop} {v : Value} {xs : List α} (h : IsS87 w0 W g f0 f1) (ho : d.S e W base ok v xs) (ht : e ≠ 87) : some g ≠ v.ownBlock := by
 obtain ⟨A0, c0, hb, hg, ai⟩ := h; exact Kd.S_ne ho hb ht
theorem IsS87.lt {w0 W : World} {g : Nat} {f0 : List Int} {f1 : Int} (h : IsS87 w0 W g f0 f1) : g < W.heap.size := by
 obtain ⟨A0, c0, hb, hg, ai⟩ := h; exact blk_lt hb
theorem IsS87.ge {w0 W : World} {g : Nat} {f0 : List Int} {f1 : Int} (h : IsS87 w0 W g f0 f1) : w0.heap.size ≤ g := by
 obtain ⟨A0, c0, hb, hg, ai⟩ := h; exact hg
theorem IsS87.ne_blk {w0 W : World} {g : Nat} {f0 : List Int} {f1 : Int} {a : Nat} {cs : Array Value} {t : TypeId} {fr : Nat × Nat} (h : IsS87 w0 W g f0 f1) (aT : W.heap[a]? = some (.cells cs t fr)) (ht : t ≠ 87) : g ≠ a := by
 obtain ⟨A0, c0, hb, hg, ai⟩ := h; rintro rfl; rw [hb] at aT; injection aT with aT; injection aT with _ ht2; exact ht ht2.symm
theorem IsS87.far {w0 W : World} {g : Nat} {f0 : List Int} {f1 : Int} {p : Addr} (h : IsS87 w0 W g f0 f1) (hne : g ≠ p.block) (u : Value) : IsS87 w0 (W.setCell p u) g f0 f1 := by
 obtain ⟨A0, c0, hb, hg, ai⟩ := h; exact ⟨A0, c0, blk_far hb hne u, hg, ai⟩
theorem cellS87_0 {W : World} {g : Nat} {A0 : Option Addr} {c0 : Nat} {f0 : List Int} {f1 : Int} (h : W.heap[g]? = some (.cells #[.slice A0 f0.length c0, .int .i64 f1] 87 (0, 0))) : W.cell? ⟨g, 0, none⟩ = some (.slice A0 f0.length c0) := (blk_cell h 0).trans rfl
theorem cellS87_1 {W : World} {g : Nat} {A0 : Option Addr} {c0 : Nat} {f0 : List Int} {f1 : Int} (h : W.heap[g]? = some (.cells #[.slice A0 f0.length c0, .int .i64 f1] 87 (0, 0))) : W.cell? ⟨g, 1, none⟩ = some (.int .i64 f1) := (blk_cell h 1).trans rfl
theorem IsS87.set_1 {w0 W : World} {g : Nat} {f0 : List Int} {f1 : Int} (h : IsS87 w0 W g f0 f1) (x : Int) : IsS87 w0 (W.setCell ⟨g, 1, none⟩ (.int .i64 x)) g f0 x := by
 obtain ⟨A0, c0, hb, hg, ai⟩ := h; exact ⟨A0, c0, by simpa using blk_set hb 1 (.int .i64 x), hg, ai⟩
theorem IsS87.new (w0 W : World) (A0 : Option Addr) (c0 : Nat) (f0 : List Int) (f1 : Int) (hB : Below w0.heap.size w0 W) (ai : Kd.C (Kd.int .u8) w0 A0 f0.length f0) : IsS87 w0 (W.alloc (.cells #[.slice A0 f0.length c0, .int .i64 f1] 87)) W.heap.size f0 f1 := ⟨A0, c0, by simpa using heap_alloc_new W _, hB.size, ai⟩

/-! ### spec_l6Rd_pick: function 59 -/
def spec_l6Rd_pick.j0 : Nat → Int → Bool → List Int → Int → Option (Int × Int)
 | 0, _, _, _, _ => none
 | k + 1, x1, bL, ac, ae => if bL = true then (some (0, ae)) else (if (wrap64 (ae - 1)) < (ac.length : Int) then (if 0 ≤ (wrap64 (ae - 1)) then (if x1 = 0 then (none) else (some (Int.tmod (wrap64 (rd ac (wrap64 (ae - 1)))) x1, ae))) else (none)) else (if (ac.length : Int) = 0 then (none) else (if 0 ≤ (Int.tmod (wrap64 (ae - 1)) (ac.length : Int)) then (if (Int.tmod (wrap64 (ae - 1)) (ac.length : Int)) < (ac.length : Int) then (if 0 ≤ (Int.tmod (wrap64 ((wrap64 ((wrap64 (ae - 1)) * 7)) + 3)) (ac.length : Int)) then (if (Int.tmod (wrap64 ((wrap64 ((wrap64 (ae - 1)) * 7)) + 3)) (ac.length : Int)) < (ac.length : Int) then (if x1 = 0 then (none) else (some (Int.tmod (Go.bits .xor .i64 (wrap64 ((wrap64 ((wrap64 ((wrap64 ((wrap64 (rd ac (Int.tmod (wrap64 (ae - 1)) (ac.length : Int)))) * 131)) + (wrap64 ((wrap64 (rd ac (Int.tmod (wrap64 ((wrap64 ((wrap64 (ae - 1)) * 7)) + 3)) (ac.length : Int)))) * 1117)))) + (wrap64 ((wrap64 (ae - 1)) * 29)))) + (wrap64 ((wrap64 (Int.tdiv (wrap64 (ae - 1)) (ac.length : Int))) * 53)))) (wrap64 (Int.tdiv (wrap64 ((wrap64 ((wrap64 ((wrap64 ((wrap64 (rd ac (Int.tmod (wrap64 (ae - 1)) (ac.length : Int)))) * 131)) + (wrap64 ((wrap64 (rd ac (Int.tmod (wrap64 ((wrap64 ((wrap64 (ae - 1)) * 7)) + 3)) (ac.length : Int)))) * 1117)))) + (wrap64 ((wrap64 (ae - 1)) * 29)))) + (wrap64 ((wrap64 (Int.tdiv (wrap64 (ae - 1)) (ac.length : Int))) * 53)))) 64))) x1, ae))) else (none)) else (none)) else (none)) else (none))))
def spec_l6Rd_pick.f (k : Nat) (aa : List Int) (ab : Int) (a1 : Int) : Option (Int × Int) := if a1 < 1 then (spec_l6Rd_pick.j0 k a1 true aa (wrap64 (ab + 1))) else (spec_l6Rd_pick.j0 k a1 ((aa.length : Int) == 0) aa (wrap64 (ab + 1)))
theorem spec_l6Rd_pick.mono_l : ∀ k, (∀ y0 y1 y2 y3, LeO (spec_l6Rd_pick.j0 k y0 y1 y2 y3) (spec_l6Rd_pick.j0 (k + 1) y0 y1 y2 y3))
 | 0 => fun _ _ _ _ r h => by simp [spec_l6Rd_pick.j0] at h
 | k + 1 => by
  have aL := spec_l6Rd_pick.mono_l k
  ·intro y0 y1 y2 y3; unfold spec_l6Rd_pick.j0
   repeat' first
   | (with_reducible exact aL _ _ _ _)
   | (with_reducible exact LeO.refl _)
   | (with_reducible exact LeO.none _)
   | (with_reducible refine LeO.ite ?_ ?_)
   | (with_reducible refine LeO.bind ?_ (fun _ => ?_))
   | exact aL _ _ _ _
   | exact LeO.none _
   | refine LeO.ite ?_ ?_
   | refine LeO.bind ?_ (fun _ => ?_)
theorem spec_l6Rd_pick.mono : ∀ a0 a1 a2 k, LeO (spec_l6Rd_pick.f k a0 a1 a2) (spec_l6Rd_pick.f (k + 1) a0 a1 a2) := by
 intro a0 a1 a2 k; have aL := spec_l6Rd_pick.mono_l k; unfold spec_l6Rd_pick.f
 repeat' first | (with_reducible first | exact aL _ _ _ _ | exact LeO.refl _ | exact LeO.none _ | refine LeO.ite ?_ ?_ | refine LeO.bind ?_ (fun _ => ?_)) | exact aL _ _ _ _ | exact LeO.none _ | refine LeO.ite ?_ ?_ | refine LeO.bind ?_ (fun _ => ?_)
set_option maxHeartbeats 8000000 in
set_option maxRecDepth 100000 in
theorem spec_l6Rd_pick.calls (k : Nat) (g : Nat) (aa : List Int) (ab : Int) (a1 : Int) (r1 : Int) (r2 : Int) (w0 w : World) (hI : IsS87 w0 w g aa ab) (hB : Below w0.heap.size w0 w) (h : spec_l6Rd_pick.f k aa ab a1 = some (r1, r2)) :
  Calls Try.prog 59 #[.pointer (some ⟨g, 0, none⟩), .int .i64 a1] w fun e w' => e = .returned (.int .i64 r1) ∧ IsS87 w0 w' g aa r2 ∧ Below w0.heap.size w0 w' ∧ KeepBut w w' g none := by
 have au := G.m hI; have HK := G.m (KeepBut.refl w g none); have HL := G.m hB.size; clear hI; have ci := G.m hB.size; have HB := G.m hB; clear hB; have H : (if a1 < 1 then (spec_l6Rd_pick.j0 k a1 true aa (wrap64 (ab + 1))) else (spec_l6Rd_pick.j0 k a1 ((aa.length : Int) == 0) aa (wrap64 (ab + 1)))) = some (r1, r2) := h; clear h; have a7 := G.m H; clear H; obtain ⟨bM, bN, aF, bl, bO⟩ := au.out; have a8 := cellS87_0 aF; have a9 := cellS87_1 aF; have a_ := blk_frozen aF 1; clear aF bl
 go_enter Try.func59, Try.ntmps59
 go_upto_region 2 with (fail)
 repeat (go_quiet (fail); go_upto_region 2 with (fail))
 go_cut [24] (fun bP wc => ∃ (kq : Nat) (aw : Bool), bP = .bool aw ∧ Aside0 (spec_l6Rd_pick.j0 kq a1 aw aa (wrap64 (ab + 1)) = some (r1, r2)) ∧ Aside0 (kq ≤ k) ∧ Aside0 (IsS87 w0 wc g aa (wrap64 (ab + 1))) ∧ Aside0 (KeepBut w wc g none) ∧ Aside0 (Below w0.heap.size w0 wc))
 case first =>
  have H := a7.out; clear a7
  by_cases c5 : a1 < 1
  ·rw [if_pos c5] at H; have az : decide (a1 < 1) = true := decide_eq_true c5; clear c5; (first | rw [az] | (simp only [i64_w, i32_w]; rw [az]) | skip); have H' := G.m H; clear H
   go_wp2
   repeat (go_quiet (fail); try go_wp2)
   go_meet
   case rel => exact ⟨_, (true), (by first | rfl | (simp; done) | (simp [*]; done)), H', ⟨by first | omega | exact Nat.le_refl _⟩, ⟨cabl⟩, ⟨G.cK HK.out⟩, ⟨cabk HB.out⟩⟩
  ·rw [if_neg c5] at H; have az : decide (a1 < 1) = false := decide_eq_false c5; clear c5; (first | rw [az] | (simp only [i64_w, i32_w]; rw [az]) | skip); have H' := G.m H; clear H; obtain ⟨bQ, bR, aG, bm, bS⟩ := au.out; have bT := cellS87_0 aG; have bU := cellS87_1 aG; have bV := blk_frozen aG 1; clear aG bm
   go_wp2
   repeat (go_quiet (fail); try go_wp2)
   go_meet
   case rel => exact ⟨_, (((aa.length : Int) == 0)), (by first | rfl | (simp; done) | (simp [*]; done)), H', ⟨by first | omega | exact Nat.le_refl _⟩, ⟨cabl⟩, ⟨G.cK HK.out⟩, ⟨cabk HB.out⟩⟩
 case rest =>
  clear a7; (try clear a8 a9 a_); obtain ⟨kq, aw, rfl, HA, cj, au, HK, HB⟩ := hcut; cases kq with
  | zero => exact absurd HA.out (by simp [spec_l6Rd_pick.j0])
  | succ ck =>
   have H := HA.out; clear HA; simp only [spec_l6Rd_pick.j0] at H
   by_cases c7 : aw = true
   ·subst c7; have H1 : (some (0, (wrap64 (ab + 1)))) = some (r1, r2) := by rw [if_pos rfl] at H; exact H
    clear H; have H := H1; clear H1; simp only [Option.some.injEq, Prod.mk.injEq] at H; obtain ⟨rfl, rfl⟩ := H
    go_wp2
    repeat (go_quiet (fail); try go_wp2)
    go_ret
    exact ⟨cabm, cabl, cabk HB.out, G.cK HK.out⟩
   ·replace c7 := Bool.eq_false_iff.mpr c7; subst c7; have H1 : (if (wrap64 ((wrap64 (ab + 1)) - 1)) < (aa.length : Int) then (if 0 ≤ (wrap64 ((wrap64 (ab + 1)) - 1)) then (if a1 = 0 then (none) else (some (Int.tmod (wrap64 (rd aa (wrap64 ((wrap64 (ab + 1)) - 1)))) a1, (wrap64 (ab + 1))))) else (none)) else (if (aa.length : Int) = 0 then (none) else (if 0 ≤ (Int.tmod (wrap64 ((wrap64 (ab + 1)) - 1)) (aa.length : Int)) then (if (Int.tmod (wrap64 ((wrap64 (ab + 1)) - 1)) (aa.length : Int)) < (aa.length : Int) then (if 0 ≤ (Int.tmod (wrap64 ((wrap64 ((wrap64 ((wrap64 (ab + 1)) - 1)) * 7)) + 3)) (aa.length : Int)) then (if (Int.tmod (wrap64 ((wrap64 ((wrap64 ((wrap64 (ab + 1)) - 1)) * 7)) + 3)) (aa.length : Int)) < (aa.length : Int) then (if a1 = 0 then (none) else (some (Int.tmod (Go.bits .xor .i64 (wrap64 ((wrap64 ((wrap64 ((wrap64 ((wrap64 (rd aa (Int.tmod (wrap64 ((wrap64 (ab + 1)) - 1)) (aa.length : Int)))) * 131)) + (wrap64 ((wrap64 (rd aa (Int.tmod (wrap64 ((wrap64 ((wrap64 ((wrap64 (ab + 1)) - 1)) * 7)) + 3)) (aa.length : Int)))) * 1117)))) + (wrap64 ((wrap64 ((wrap64 (ab + 1)) - 1)) * 29)))) + (wrap64 ((wrap64 (Int.tdiv (wrap64 ((wrap64 (ab + 1)) - 1)) (aa.length : Int))) * 53)))) (wrap64 (Int.tdiv (wrap64 ((wrap64 ((wrap64 ((wrap64 ((wrap64 (rd aa (Int.tmod (wrap64 ((wrap64 (ab + 1)) - 1)) (aa.length : Int)))) * 131)) + (wrap64 ((wrap64 (rd aa (Int.tmod (wrap64 ((wrap64 ((wrap64 ((wrap64 (ab + 1)) - 1)) * 7)) + 3)) (aa.length : Int)))) * 1117)))) + (wrap64 ((wrap64 ((wrap64 (ab + 1)) - 1)) * 29)))) + (wrap64 ((wrap64 (Int.tdiv (wrap64 ((wrap64 (ab + 1)) - 1)) (aa.length : Int))) * 53)))) 64))) a1, (wrap64 (ab + 1))))) else (none)) else (none)) else (none)) else (none)))) = some (r1, r2) := by rw [if_neg (show ¬ (false = true) by decide)] at H; exact H
    clear H; have H := H1; clear H1
    by_cases c8 : (wrap64 ((wrap64 (ab + 1)) - 1)) < (aa.length : Int)
    ·rw [if_pos c8] at H; have ba : decide ((wrap64 ((wrap64 (ab + 1)) - 1)) < (aa.length : Int)) = true := decide_eq_true c8; clear c8; obtain ⟨av, aA⟩ : ∃ j_ : Int, (wrap64 ((wrap64 (ab + 1)) - 1)) = j_ := ⟨_, rfl⟩; replace H : (if 0 ≤ (av) then (if a1 = 0 then (none) else (some (Int.tmod (wrap64 (rd aa (av))) a1, (wrap64 (ab + 1))))) else (none)) = some (r1, r2) := by first | (rw [aA] at H; exact H) | (simp only [aA] at H ⊢; exact H)
     (try rw [aA] at ba); have b2 : (IntKind.i64.wrap ((wrap64 (ab + 1)) - 1)) = av := (i64_w _).trans aA
     by_cases c10 : 0 ≤ (av)
     ·rw [if_pos c10] at H; have b3 : decide (0 ≤ (av)) = true := decide_eq_true c10; clear c10
      by_cases aU : a1 = 0
      ·rw [if_pos aU] at H; exact absurd H (by simp)
      ·rw [if_neg aU] at H; have b4 : (a1 == 0) = false := beq_eq_false_iff_ne.mpr aU; have b5 : (a1 != 0) = true := bne_iff_ne.mpr aU; simp only [Option.some.injEq, Prod.mk.injEq] at H; obtain ⟨rfl, rfl⟩ := H; obtain ⟨bq, br, ax, bc, a6⟩ := au.out; have bu := cellS87_0 ax; have bv := cellS87_1 ax; have bw := blk_frozen ax 1; clear ax bc; have aN : 0 ≤ ((av) : Int) := of_decide_eq_true (G.asm); have aO : (av) < (aa.length : Int) := of_decide_eq_true (G.asm); obtain ⟨b6, bn, aB⟩ := Kd.at_int a6 (av) aN aO; cases bn; replace aB := pw_cell_below HB.out aB; replace aN := eq_true aN; replace aO := eq_true aO
       go_wp2
       repeat (go_quiet (fail); try go_wp2)
       go_ret
       exact ⟨by first | rfl | (simp [errW_none, errW_some] <;> rfl) | (simp only [← aA]; first | rfl | (simp [errW_none, errW_some] <;> rfl)) | (simp [*, errW_none, errW_some] <;> rfl), cabl, cabk HB.out, G.cK HK.out⟩
     ·rw [if_neg c10] at H; exact absurd H (by simp)
    ·rw [if_neg c8] at H; have ba : decide ((wrap64 ((wrap64 (ab + 1)) - 1)) < (aa.length : Int)) = false := decide_eq_false c8; clear c8
     by_cases aM : (aa.length : Int) = 0
     ·rw [if_pos aM] at H; exact absurd H (by simp)
     ·rw [if_neg aM] at H; have b7 : ((aa.length : Int) == 0) = false := beq_eq_false_iff_ne.mpr aM; have b8 : ((aa.length : Int) != 0) = true := bne_iff_ne.mpr aM; have b9 : ¬ (aa = []) := fun h_ => aM (by rw [h_]; rfl); obtain ⟨aj, aH⟩ : ∃ j_ : Int, (Int.tmod (wrap64 ((wrap64 (ab + 1)) - 1)) (aa.length : Int)) = j_ := ⟨_, rfl⟩; replace H : (if 0 ≤ (aj) then (if (aj) < (aa.length : Int) then (if 0 ≤ (Int.tmod (wrap64 ((wrap64 ((wrap64 ((wrap64 (ab + 1)) - 1)) * 7)) + 3)) (aa.length : Int)) then (if (Int.tmod (wrap64 ((wrap64 ((wrap64 ((wrap64 (ab + 1)) - 1)) * 7)) + 3)) (aa.length : Int)) < (aa.length : Int) then (if a1 = 0 then (none) else (some (Int.tmod (Go.bits .xor .i64 (wrap64 ((wrap64 ((wrap64 ((wrap64 ((wrap64 (rd aa (aj))) * 131)) + (wrap64 ((wrap64 (rd aa (Int.tmod (wrap64 ((wrap64 ((wrap64 ((wrap64 (ab + 1)) - 1)) * 7)) + 3)) (aa.length : Int)))) * 1117)))) + (wrap64 ((wrap64 ((wrap64 (ab + 1)) - 1)) * 29)))) + (wrap64 ((wrap64 (Int.tdiv (wrap64 ((wrap64 (ab + 1)) - 1)) (aa.length : Int))) * 53)))) (wrap64 (Int.tdiv (wrap64 ((wrap64 ((wrap64 ((wrap64 ((wrap64 (rd aa (aj))) * 131)) + (wrap64 ((wrap64 (rd aa (Int.tmod (wrap64 ((wrap64 ((wrap64 ((wrap64 (ab + 1)) - 1)) * 7)) + 3)) (aa.length : Int)))) * 1117)))) + (wrap64 ((wrap64 ((wrap64 (ab + 1)) - 1)) * 29)))) + (wrap64 ((wrap64 (Int.tdiv (wrap64 ((wrap64 (ab + 1)) - 1)) (aa.length : Int))) * 53)))) 64))) a1, (wrap64 (ab + 1))))) else (none)) else (none)) else (none)) else (none)) = some (r1, r2) := by first | (rw [aH] at H; exact H) | (simp only [aH] at H ⊢; exact H)
      by_cases aV : 0 ≤ (aj)
      ·rw [if_pos aV] at H; have b_ : decide (0 ≤ (aj)) = true := decide_eq_true aV; clear aV
       by_cases aW : (aj) < (aa.length : Int)
       ·rw [if_pos aW] at H; have ca : decide ((aj) < (aa.length : Int)) = true := decide_eq_true aW; clear aW; obtain ⟨ak, aI⟩ : ∃ j_ : Int, (Int.tmod (wrap64 ((wrap64 ((wrap64 ((wrap64 (ab + 1)) - 1)) * 7)) + 3)) (aa.length : Int)) = j_ := ⟨_, rfl⟩; replace H : (if 0 ≤ (ak) then (if (ak) < (aa.length : Int) then (if a1 = 0 then (none) else (some (Int.tmod (Go.bits .xor .i64 (wrap64 ((wrap64 ((wrap64 ((wrap64 ((wrap64 (rd aa (aj))) * 131)) + (wrap64 ((wrap64 (rd aa (ak))) * 1117)))) + (wrap64 ((wrap64 ((wrap64 (ab + 1)) - 1)) * 29)))) + (wrap64 ((wrap64 (Int.tdiv (wrap64 ((wrap64 (ab + 1)) - 1)) (aa.length : Int))) * 53)))) (wrap64 (Int.tdiv (wrap64 ((wrap64 ((wrap64 ((wrap64 ((wrap64 (rd aa (aj))) * 131)) + (wrap64 ((wrap64 (rd aa (ak))) * 1117)))) + (wrap64 ((wrap64 ((wrap64 (ab + 1)) - 1)) * 29)))) + (wrap64 ((wrap64 (Int.tdiv (wrap64 ((wrap64 (ab + 1)) - 1)) (aa.length : Int))) * 53)))) 64))) a1, (wrap64 (ab + 1))))) else (none)) else (none)) = some (r1, r2) := by first | (rw [aI] at H; exact H) | (simp only [aI] at H ⊢; exact H)
        by_cases aX : 0 ≤ (ak)
        ·rw [if_pos aX] at H; have cd : decide (0 ≤ (ak)) = true := decide_eq_true aX; clear aX
         by_cases aY : (ak) < (aa.length : Int)
         ·rw [if_pos aY] at H; have ce : decide ((ak) < (aa.length : Int)) = true := decide_eq_true aY; clear aY
          by_cases aZ : a1 = 0
          ·rw [if_pos aZ] at H; exact absurd H (by simp)
          ·rw [if_neg aZ] at H; have cf : (a1 == 0) = false := beq_eq_false_iff_ne.mpr aZ; have cg : (a1 != 0) = true := bne_iff_ne.mpr aZ; simp only [Option.some.injEq, Prod.mk.injEq] at H; obtain ⟨rfl, rfl⟩ := H; obtain ⟨bx, bz, ay, bd, aC⟩ := au.out; have bA := cellS87_0 ay; have bB := cellS87_1 ay; have bC := blk_frozen ay 1; clear ay bd; have aP : 0 ≤ ((aj) : Int) := of_decide_eq_true (G.asm); have aQ : (aj) < (aa.length : Int) := of_decide_eq_true (G.asm); obtain ⟨bf, bo, aD⟩ := Kd.at_int aC (aj) aP aQ; cases bo; replace aD := pw_cell_below HB.out aD; replace aP := eq_true aP; replace aQ := eq_true aQ; have aR : 0 ≤ ((ak) : Int) := of_decide_eq_true (G.asm); have aS : (ak) < (aa.length : Int) := of_decide_eq_true (G.asm); obtain ⟨bh, bp, aE⟩ := Kd.at_int aC (ak) aR aS; obtain rfl : bf = bh := (by injection bp); replace aE := pw_cell_below HB.out aE; replace aR := eq_true aR; replace aS := eq_true aS
           go_wp2
           repeat (go_quiet (fail); try go_wp2)
           go_ret
           exact ⟨by first | rfl | (simp [errW_none, errW_some] <;> rfl) | (simp only [← aH, ← aI]; first | rfl | (simp [errW_none, errW_some] <;> rfl)) | (simp [*, errW_none, errW_some] <;> rfl), cabl, cabk HB.out, G.cK HK.out⟩
         ·rw [if_neg aY] at H; exact absurd H (by simp)
        ·rw [if_neg aX] at H; exact absurd H (by simp)
       ·rw [if_neg aW] at H; exact absurd H (by simp)
      ·rw [if_neg aV] at H; exact absurd H (by simp)

/-! ### spec_NetHas: function 93 -/
def spec_NetHas.f (k : Nat) (ah : Int) (af : List (S53)) (a1 : Int) (a2 : Int) : Option (Bool) := (spec_NetOk.f k ah af).bind fun ao => (if ao = true then ((spec_l1Has.f k ah af a1 a2).bind fun al => (some al)) else (some false))
theorem spec_NetHas.mono : ∀ a0 a1 a2 a3 k, LeO (spec_NetHas.f k a0 a1 a2 a3) (spec_NetHas.f (k + 1) a0 a1 a2 a3) := by
 intro a0 a1 a2 a3 k; unfold spec_NetHas.f
 repeat' first | (with_reducible first | exact spec_NetOk.mono _ _ _ | exact spec_l1Has.mono _ _ _ _ _ | exact LeO.refl _ | exact LeO.none _ | refine LeO.ite ?_ ?_ | refine LeO.bind ?_ (fun _ => ?_)) | exact spec_NetOk.mono _ _ _ | exact spec_l1Has.mono _ _ _ _ _ | exact LeO.none _ | refine LeO.ite ?_ ?_ | refine LeO.bind ?_ (fun _ => ?_)
set_option maxHeartbeats 8000000 in
set_option maxRecDepth 100000 in
theorem spec_NetHas.calls (k : Nat) (ah : Int) (ap : Option Addr) (aq : Nat) (af : List (S53)) (a1 : Int) (a2 : Int) (r : Bool) (w : World) (a4 : Kd.C k53 w ap af.length af) (a5 : af.length ≤ aq) (h : spec_NetHas.f k ah af a1 a2 = some r) :
  Calls Try.prog 93 #[.agg #[.int .i64 ah, .slice ap af.length aq], .int .i64 a1, .int .i64 a2] w fun e w' => e = .returned (.bool r) ∧ Below w.heap.size w w' := by
 have ch := Try.underlying30; have aJ := G.m a4; have aK := G.m a5; clear a4 a5; have HB := G.m (Below.refl w.heap.size w); have H : ((spec_NetOk.f k ah af).bind fun ao => (if ao = true then ((spec_l1Has.f k ah af a1 a2).bind fun al => (some al)) else (some false))) = some r := h; clear h; obtain ⟨ao, A4, H⟩ := G.bi H; replace H : (if ao = true then ((spec_l1Has.f k ah af a1 a2).bind fun al => (some al)) else (some false)) = some r := H
 by_cases c5 : ao = true
 ·subst c5; have H1 : ((spec_l1Has.f k ah af a1 a2).bind fun al => (some al)) = some r := by rw [if_pos rfl] at H; exact H
  clear H; have H := H1; clear H1; obtain ⟨al, A6, H⟩ := G.bi H; replace H : (some al) = some r := H; obtain rfl := Option.some.inj H
  go_enter Try.func93, Try.ntmps93
  go_wp2_with (first | ((with_reducible refine G.h 3 rfl ?_); refine G.be 3 #[.int .i64 ah, .slice ap af.length aq] 30 ?_; intro am hg w7 hbox hb; have n0 := G.bs HB hb; have n1 := G.m (hbox); have n2 := G.m ((by rw [hg]; exact (below_size (G.cB HB.out)) : w.heap.size ≤ am)); have n3 := G.m ((by rw [hg]; exact (below_size (G.cB HB.out)) : w.heap.size ≤ am)); clear HB; revert n0 n1 n2 n3; intro HB ag bj bk; clear hb hbox hg; have ⟨bW, bX, bY, bZ⟩ := G.d2 (w := w7) ag) | ((with_reducible refine G.f 32 rfl ?_); refine G.gL 8 Try.func32 #[.agg #[.int .i64 ah, .slice ap af.length aq]] ?_; (with_reducible refine (spec_NetOk.calls k ah _ _ af true _ ?side1 ?side2 A4.out).mono ?_); (case side1 => exact G.cC (Kd.C_below aJ.out HB.out)); (case side2 => exact aK.out); rintro e w9 ⟨rfl, hb⟩; refine ⟨_, rfl, ?_⟩; have n0 := G.bb ag hb; have n1 := G.bs HB hb; clear ag HB; revert n0 n1; intro ag HB; (try clear hb); have ⟨bD, bE, bF, bG⟩ := G.d2 (w := w9) ag) | (go_at_call 85; (with_reducible refine (spec_l1Has.calls k ah _ _ af a1 a2 al _ ?side1 ?side2 A6.out).mono ?_); (case side1 => exact G.cC (Kd.C_below aJ.out HB.out)); (case side2 => exact aK.out); rintro e cl ⟨rfl, hb⟩; have n0 := G.bb ag hb; have n1 := G.bs HB hb; clear ag HB; revert n0 n1; intro ag HB; (try clear hb)))
  go_ret
  exact ⟨cabm, G.cB HB.out⟩
 ·replace c5 := Bool.eq_false_iff.mpr c5; subst c5; have H1 : (some false) = some r := by rw [if_neg (show ¬ (false = true) by decide)] at H; exact H
  clear H; have H := H1; clear H1; obtain rfl := Option.some.inj H
  go_enter Try.func93, Try.ntmps93
  go_wp2_with (first | ((with_reducible refine G.h 3 rfl ?_); refine G.be 3 #[.int .i64 ah, .slice ap af.length aq] 30 ?_; intro am hg b1 hbox hb; have n0 := G.bs HB hb; have n1 := G.m (hbox); have n2 := G.m ((by rw [hg]; exact (below_size (G.cB HB.out)) : w.heap.size ≤ am)); have n3 := G.m ((by rw [hg]; exact (below_size (G.cB HB.out)) : w.heap.size ≤ am)); clear HB; revert n0 n1 n2 n3; intro HB ag bj bk; clear hb hbox hg; have ⟨bH, bI, bJ, bK⟩ := G.d2 (w := b1) ag) | ((with_reducible refine G.f 32 rfl ?_); refine G.gL 8 Try.func32 #[.agg #[.int .i64 ah, .slice ap af.length aq]] ?_; (with_reducible refine (spec_NetOk.calls k ah _ _ af false _ ?side1 ?side2 A4.out).mono ?_); (case side1 => exact G.cC (Kd.C_below aJ.out HB.out)); (case side2 => exact aK.out); rintro e cm ⟨rfl, hb⟩; refine ⟨_, rfl, ?_⟩; have n0 := G.bb ag hb; have n1 := G.bs HB hb; clear ag HB; revert n0 n1; intro ag HB; (try clear hb)))
  go_ret
  exact ⟨cabm, G.cB HB.out⟩

end Go.Proofs.Ytddadihobjinhaa.P
