-- Printed by a program of this session (mp.py, over the kit's print). Not trusted: Lean checks it.
import Derived.Test.YtbkdpnfjcnkoeaaF0
namespace Go.Proofs.Ytbkdpnfjcnkoeaa.P
open Go.RowKit Go.Proofs.YtbkdpnfjcnkoeaaW.PrintWords Go.Proofs.YtbkdpnfjcnkoeaaW.PrintLast Go.Proofs.YtbkdpnfjcnkoeaaW.PrintMore
attribute [local go_sem] max2_int min2_int max_two min_two max_three min_three max_four min_four   -- for this text's walks alone
set_option linter.unusedVariables false
set_option linter.unusedSimpArgs false

theorem caa1 {p : Prop} (h : p := by repeat (first | (with_reducible first | exact ai.out | apply IsS83.alloc | apply IsS83.drewN | apply IsS83.drew | apply IsS83.set_1) | (with_reducible refine IsS83.far ?_ (Aside0.out (by assumption)) _) | exact ai.out)) : p := h
theorem caa0 {B : Nat} {w w1 w2 : World} (H : Below B w w1) (h : Below B w w2 := by repeat (first | (with_reducible first | exact HB.out | apply below_alloc | apply pw_below_drewN | apply below_drew1) | (with_reducible refine below_set ?_ (Aside0.out (by assumption))) | (with_reducible refine below_set ?_ (IsS83.ge ai.out)) | exact HB.out)) : Below B w w2 := h
/-- A state of type 83 at block g of W; what its slices lead to came in by w0. -/
def IsS83 (w0 W : World) (g : Nat) (f0 : List Int) (f1 : Int) : Prop := ∃ A0 c0, W.heap[g]? = some (.cells #[.slice A0 f0.length c0, .int .i64 f1] 83 (0, 0)) ∧ w0.heap.size ≤ g ∧ Kd.C (Kd.int .u8) w0 A0 f0.length f0
theorem IsS83.grown {w0 W : World} {g : Nat} {f0 : List Int} {f1 : Int} {W1 : World} {row : Option Nat} (h : IsS83 w0 W g f0 f1) (hw : W.grownBy W1 row) (hne : some g ≠ row) : IsS83 w0 W1 g f0 f1 := by
 obtain ⟨A0, c0, hb, hg, af⟩ := h; exact ⟨A0, c0, blk_grown hb hw hne, hg, af⟩
theorem IsS83.own_neN {w0 W : World} {g : Nat} {f0 : List Int} {f1 : Int} {α : Type} {d : Kd α} {e : Nat} {base : Nat} {ok : Nat → Prop} {v : Value} {xs : List α} (h : IsS83 w0 W g f0 f1) (ho : Kd.N d e W base ok v xs) (ht : e ≠ 83) : some g ≠ v.ownBlock := by
 obtain ⟨A0, c0, hb, hg, af⟩ := h; exact Kd.N_ne ho hb ht
theorem IsS83.fresh {w0 W : World} {g : Nat} {f0 : List Int} {f1 : Int} (h : IsS83 w0 W g f0 f1) : ∀ k, W.heap.size ≤ k → k ≠ g := by
 obtain ⟨A0, c0, hb, hg, af⟩ := h; exact Kd.freshB hb
theorem IsS83.kept {w0 W : World} {g : Nat} {f0 : List Int} {f1 : Int} {W1 : World} {S : Nat → Prop} (h : IsS83 w0 W g f0 f1) (hk : Kept W W1 S) (hne : ¬ S g) : IsS83 w0 W1 g f0 f1 := by
 obtain ⟨A0, c0, hb, hg, af⟩ := h; exact ⟨A0, c0, blk_kept hb hk hne, hg, af⟩
theorem IsS83.below {w0 W : World} {g : Nat} {f0 : List Int} {f1 : Int} {W1 : World} (h : IsS83 w0 W g f0 f1) (hw : Below W.heap.size W W1) : IsS83 w0 W1 g f0 f1 := h.grown (grown_of_below hw none) (by simp)
theorem IsS83.alloc {w0 W : World} {g : Nat} {f0 : List Int} {f1 : Int} (h : IsS83 w0 W g f0 f1) (o : Obj) : IsS83 w0 (W.alloc o) g f0 f1 := h.below (below_alloc (Below.refl _ _) o)
theorem IsS83.drewN {w0 W : World} {g : Nat} {f0 : List Int} {f1 : Int} (h : IsS83 w0 W g f0 f1) (m : Nat) : IsS83 w0 (W.drewN m) g f0 f1 := h
theorem IsS83.drew {w0 W : World} {g : Nat} {f0 : List Int} {f1 : Int} (h : IsS83 w0 W g f0 f1) : IsS83 w0 W.drew g f0 f1 := h
theorem IsS83.at_ {w0 W : World} {g : Nat} {f0 : List Int} {f1 : Int} {w' : World} {m : Nat} (hq : W.drewN m = w') (h : IsS83 w0 W g f0 f1) : IsS83 w0 w' g f0 f1 := by subst hq; exact IsS83.drewN h m
theorem IsS83.apart {w0 W : World} {g : Nat} {f0 : List Int} {f1 : Int} {α : Type} {d : Kd α} {e : Nat} {base : Nat} {ok : Nat → Prop} {v : Value} {xs : List α} (h : IsS83 w0 W g f0 f1) (ho : d.R e W base ok v xs) (ht : ∀ q, q ∈ e :: d.E → q ≠ 83) : d.R e W base (fun k => ok k ∧ k ≠ g) v xs := by
 obtain ⟨A0, c0, hb, hg, af⟩ := h; exact Kd.R_types ho hb ht
theorem IsS83.own_ne {w0 W : World} {g : Nat} {f0 : List Int} {f1 : Int} {α : Type} {d : Kd α} {e : Nat} {base : Nat} {ok : Nat → Prop} {v : Value} {xs : List α} (h : IsS83 w0 W g f0 f1) (ho : d.R e W base ok v xs) (ht : e ≠ 83) : some g ≠ v.ownBlock := by
 obtain ⟨A0, c0, hb, hg, af⟩ := h; exact Kd.R_ne ho hb ht
theorem IsS83.apartQ {w0 W : World} {g : Nat} {f0 : List Int} {f1 : Int} {α : Type} {d : Kd α} {e : Nat} {base : Nat} {ok : Nat → Prop} {v : Value} {xs : List α} (h : IsS83 w0 W g f0 f1) (ho : d.Q e W base ok v xs) (ht : ∀ q, q ∈ e :: d.E → q ≠ 83) : d.Q e W base (fun k => ok k ∧ k ≠ g) v xs := by
 obtain ⟨A0, c0, hb, hg, af⟩ := h; exact Kd.Q_types ho hb ht
theorem IsS83.own_neQ {w0 W : World} {g : Nat} {f0 : List Int} {f1 : Int} {α : Type} {d : Kd α} {e : Nat} {base : Nat} {ok : Nat → Prop} {v : Value} {xs : List α} (h : IsS83 w0 W g f0 f1) (ho : d.Q e W base ok v xs) (ht : e ≠ 83) : some g ≠ v.ownBlock := by
 obtain ⟨A0, c0, hb, hg, af⟩ := h; exact Kd.Q_ne ho hb ht
theorem IsS83.apartS {w0 W : World} {g : Nat} {f0 : List Int} {f1 : Int} {α : Type} {d : Kd α} {e : Nat} {base : Nat} {ok : Nat → Prop} {v : Value} {xs : List α} (h : IsS83 w0 W g f0 f1) (ho : d.S e W base ok v xs) (ht : ∀ q, q ∈ e :: d.E → q ≠ 83) : d.S e W base (fun k => ok k ∧ k ≠ g) v xs := by
 obtain ⟨A0, c0, hb, hg, af⟩ := h; exact Kd.S_types ho hb ht
theorem IsS83.own_neS {w0 W : World} {g : Nat} {f0 : List Int} {f1 : Int} {α : Type} {d : Kd α} {e : Nat} {base : Nat} {ok : Nat → Prop} {v : Value} {xs : List α} (h : IsS83 w0 W g f0 f1) (ho : d.S e W base ok v xs) (ht : e ≠ 83) : some g ≠ v.ownBlock := by
 obtain ⟨A0, c0, hb, hg, af⟩ := h; exact Kd.S_ne ho hb ht
theorem IsS83.lt {w0 W : World} {g : Nat} {f0 : List Int} {f1 : Int} (h : IsS83 w0 W g f0 f1) : g < W.heap.size := by
 obtain ⟨A0, c0, hb, hg, af⟩ := h; exact blk_lt hb
theorem IsS83.ge {w0 W : World} {g : Nat} {f0 : List Int} {f1 : Int} (h : IsS83 w0 W g f0 f1) : w0.heap.size ≤ g := by
 obtain ⟨A0, c0, hb, hg, af⟩ := h; exact hg
theorem IsS83.ne_blk {w0 W : World} {g : Nat} {f0 : List Int} {f1 : Int} {a : Nat} {cs : Array Value} {t : TypeId} {fr : Nat × Nat} (h : IsS83 w0 W g f0 f1) (aJ : W.heap[a]? = some (.cells cs t fr)) (ht : t ≠ 83) : g ≠ a := by
 obtain ⟨A0, c0, hb, hg, af⟩ := h; rintro rfl; rw [hb] at aJ; injection aJ with aJ; injection aJ with _ ht2; exact ht ht2.symm
theorem IsS83.far {w0 W : World} {g : Nat} {f0 : List Int} {f1 : Int} {p : Addr} (h : IsS83 w0 W g f0 f1) (hne : g ≠ p.block) (u : Value) : IsS83 w0 (W.setCell p u) g f0 f1 := by
 obtain ⟨A0, c0, hb, hg, af⟩ := h; exact ⟨A0, c0, blk_far hb hne u, hg, af⟩
theorem cellS83_0 {W : World} {g : Nat} {A0 : Option Addr} {c0 : Nat} {f0 : List Int} {f1 : Int} (h : W.heap[g]? = some (.cells #[.slice A0 f0.length c0, .int .i64 f1] 83 (0, 0))) : W.cell? ⟨g, 0, none⟩ = some (.slice A0 f0.length c0) := (blk_cell h 0).trans rfl
theorem cellS83_1 {W : World} {g : Nat} {A0 : Option Addr} {c0 : Nat} {f0 : List Int} {f1 : Int} (h : W.heap[g]? = some (.cells #[.slice A0 f0.length c0, .int .i64 f1] 83 (0, 0))) : W.cell? ⟨g, 1, none⟩ = some (.int .i64 f1) := (blk_cell h 1).trans rfl
theorem IsS83.set_1 {w0 W : World} {g : Nat} {f0 : List Int} {f1 : Int} (h : IsS83 w0 W g f0 f1) (x : Int) : IsS83 w0 (W.setCell ⟨g, 1, none⟩ (.int .i64 x)) g f0 x := by
 obtain ⟨A0, c0, hb, hg, af⟩ := h; exact ⟨A0, c0, by simpa using blk_set hb 1 (.int .i64 x), hg, af⟩
theorem IsS83.new (w0 W : World) (A0 : Option Addr) (c0 : Nat) (f0 : List Int) (f1 : Int) (hB : Below w0.heap.size w0 W) (af : Kd.C (Kd.int .u8) w0 A0 f0.length f0) : IsS83 w0 (W.alloc (.cells #[.slice A0 f0.length c0, .int .i64 f1] 83)) W.heap.size f0 f1 := ⟨A0, c0, by simpa using heap_alloc_new W _, hB.size, af⟩

/-! ### spec_l6Rd_pick: function 56 -/
def spec_l6Rd_pick.j0 : Nat → Int → Bool → List Int → Int → Option (Int × Int)
 | 0, _, _, _, _ => none
 | k + 1, x1, bl, ac, ae => if bl = true then (some (0, ae)) else (if (wrap64 (ae - 1)) < (ac.length : Int) then (if 0 ≤ (wrap64 (ae - 1)) then (if x1 = 0 then (none) else (some (Int.tmod (wrap64 (rd ac (wrap64 (ae - 1)))) x1, ae))) else (none)) else (if (ac.length : Int) = 0 then (none) else (if 0 ≤ (Int.tmod (wrap64 (ae - 1)) (ac.length : Int)) then (if (Int.tmod (wrap64 (ae - 1)) (ac.length : Int)) < (ac.length : Int) then (if 0 ≤ (Int.tmod (wrap64 ((wrap64 ((wrap64 (ae - 1)) * 7)) + 3)) (ac.length : Int)) then (if (Int.tmod (wrap64 ((wrap64 ((wrap64 (ae - 1)) * 7)) + 3)) (ac.length : Int)) < (ac.length : Int) then (if x1 = 0 then (none) else (some (Int.tmod (Go.bits .xor .i64 (wrap64 ((wrap64 ((wrap64 ((wrap64 ((wrap64 (rd ac (Int.tmod (wrap64 (ae - 1)) (ac.length : Int)))) * 131)) + (wrap64 ((wrap64 (rd ac (Int.tmod (wrap64 ((wrap64 ((wrap64 (ae - 1)) * 7)) + 3)) (ac.length : Int)))) * 1117)))) + (wrap64 ((wrap64 (ae - 1)) * 29)))) + (wrap64 ((wrap64 (Int.tdiv (wrap64 (ae - 1)) (ac.length : Int))) * 53)))) (wrap64 (Int.tdiv (wrap64 ((wrap64 ((wrap64 ((wrap64 ((wrap64 (rd ac (Int.tmod (wrap64 (ae - 1)) (ac.length : Int)))) * 131)) + (wrap64 ((wrap64 (rd ac (Int.tmod (wrap64 ((wrap64 ((wrap64 (ae - 1)) * 7)) + 3)) (ac.length : Int)))) * 1117)))) + (wrap64 ((wrap64 (ae - 1)) * 29)))) + (wrap64 ((wrap64 (Int.tdiv (wrap64 (ae - 1)) (ac.length : Int))) * 53)))) 64))) x1, ae))) else (none)) else (none)) else (none)) else (none))))
def spec_l6Rd_pick.f (k : Nat) (aa : List Int) (ab : Int) (a1 : Int) : Option (Int × Int) := if a1 < 1 then (spec_l6Rd_pick.j0 k a1 true aa (wrap64 (ab + 1))) else (spec_l6Rd_pick.j0 k a1 ((aa.length : Int) == 0) aa (wrap64 (ab + 1)))
theorem spec_l6Rd_pick.mono_l : ∀ k, (∀ y0 y1 y2 y3, LeO (spec_l6Rd_pick.j0 k y0 y1 y2 y3) (spec_l6Rd_pick.j0 (k + 1) y0 y1 y2 y3))
 | 0 => fun _ _ _ _ r h => by simp [spec_l6Rd_pick.j0] at h
 | k + 1 => by
  have aB := spec_l6Rd_pick.mono_l k
  ·intro y0 y1 y2 y3; unfold spec_l6Rd_pick.j0
   repeat' first
   | (with_reducible exact aB _ _ _ _)
   | (with_reducible exact LeO.refl _)
   | (with_reducible exact LeO.none _)
   | (with_reducible refine LeO.ite ?_ ?_)
   | (with_reducible refine LeO.bind ?_ (fun _ => ?_))
   | exact aB _ _ _ _
   | exact LeO.none _
   | refine LeO.ite ?_ ?_
   | refine LeO.bind ?_ (fun _ => ?_)
theorem spec_l6Rd_pick.mono : ∀ a0 a1 a2 k, LeO (spec_l6Rd_pick.f k a0 a1 a2) (spec_l6Rd_pick.f (k + 1) a0 a1 a2) := by
 intro a0 a1 a2 k; have aB := spec_l6Rd_pick.mono_l k; unfold spec_l6Rd_pick.f
 repeat' first | (with_reducible first | exact aB _ _ _ _ | exact LeO.refl _ | exact LeO.none _ | refine LeO.ite ?_ ?_ | refine LeO.bind ?_ (fun _ => ?_)) | exact aB _ _ _ _ | exact LeO.none _ | refine LeO.ite ?_ ?_ | refine LeO.bind ?_ (fun _ => ?_)
set_option maxHeartbeats 8000000 in
set_option maxRecDepth 100000 in
theorem spec_l6Rd_pick.calls (k : Nat) (g : Nat) (aa : List Int) (ab : Int) (a1 : Int) (r1 : Int) (r2 : Int) (w0 w : World) (hI : IsS83 w0 w g aa ab) (hB : Below w0.heap.size w0 w) (h : spec_l6Rd_pick.f k aa ab a1 = some (r1, r2)) :
  Calls Try.prog 56 #[.pointer (some ⟨g, 0, none⟩), .int .i64 a1] w fun e w' => e = .returned (.int .i64 r1) ∧ IsS83 w0 w' g aa r2 ∧ Below w0.heap.size w0 w' ∧ KeepBut w w' g none := by
 have ai := G.m hI; have HK := G.m (KeepBut.refl w g none); have HL := G.m hB.size; clear hI; have bN := G.m hB.size; have HB := G.m hB; clear hB; have H : (if a1 < 1 then (spec_l6Rd_pick.j0 k a1 true aa (wrap64 (ab + 1))) else (spec_l6Rd_pick.j0 k a1 ((aa.length : Int) == 0) aa (wrap64 (ab + 1)))) = some (r1, r2) := h; clear h; have aR := G.m H; clear H; obtain ⟨bm, bn, ax, a3, bo⟩ := ai.out; have aS := cellS83_0 ax; have aT := cellS83_1 ax; have aU := blk_frozen ax 1; clear ax a3
 go_enter Try.func56, Try.ntmps56
 go_upto_region 2 with (fail)
 repeat (go_quiet (fail); go_upto_region 2 with (fail))
 go_cut [24] (fun bp wc => ∃ (kq : Nat) (ak : Bool), bp = .bool ak ∧ Aside0 (spec_l6Rd_pick.j0 kq a1 ak aa (wrap64 (ab + 1)) = some (r1, r2)) ∧ Aside0 (kq ≤ k) ∧ Aside0 (IsS83 w0 wc g aa (wrap64 (ab + 1))) ∧ Aside0 (KeepBut w wc g none) ∧ Aside0 (Below w0.heap.size w0 wc))
 case first =>
  have H := aR.out; clear aR
  by_cases c5 : a1 < 1
  ·rw [if_pos c5] at H; have ao : decide (a1 < 1) = true := decide_eq_true c5; clear c5; (first | rw [ao] | (simp only [i64_w, i32_w]; rw [ao]) | skip); have H' := G.m H; clear H
   go_wp2
   repeat (go_quiet (fail); try go_wp2)
   go_meet
   case rel => exact ⟨_, (true), (by first | rfl | (simp; done) | (simp [*]; done)), H', ⟨by first | omega | exact Nat.le_refl _⟩, ⟨caa1⟩, ⟨G.cK HK.out⟩, ⟨caa0 HB.out⟩⟩
  ·rw [if_neg c5] at H; have ao : decide (a1 < 1) = false := decide_eq_false c5; clear c5; (first | rw [ao] | (simp only [i64_w, i32_w]; rw [ao]) | skip); have H' := G.m H; clear H; obtain ⟨bq, br, ay, a4, bu⟩ := ai.out; have bv := cellS83_0 ay; have bw := cellS83_1 ay; have bx := blk_frozen ay 1; clear ay a4
   go_wp2
   repeat (go_quiet (fail); try go_wp2)
   go_meet
   case rel => exact ⟨_, (((aa.length : Int) == 0)), (by first | rfl | (simp; done) | (simp [*]; done)), H', ⟨by first | omega | exact Nat.le_refl _⟩, ⟨caa1⟩, ⟨G.cK HK.out⟩, ⟨caa0 HB.out⟩⟩
 case rest =>
  clear aR; (try clear aS aT aU); obtain ⟨kq, ak, rfl, HA, bO, ai, HK, HB⟩ := hcut; cases kq with
  | zero => exact absurd HA.out (by simp [spec_l6Rd_pick.j0])
  | succ bP =>
   have H := HA.out; clear HA; simp only [spec_l6Rd_pick.j0] at H
   by_cases c7 : ak = true
   ·subst c7; have H1 : (some (0, (wrap64 (ab + 1)))) = some (r1, r2) := by rw [if_pos rfl] at H; exact H
    clear H; have H := H1; clear H1; simp only [Option.some.injEq, Prod.mk.injEq] at H; obtain ⟨rfl, rfl⟩ := H
    go_wp2
    repeat (go_quiet (fail); try go_wp2)
    go_ret
    exact ⟨by first | rfl | (simp [errW_none, errW_some] <;> rfl) | (simp [*, errW_none, errW_some] <;> rfl), caa1, caa0 HB.out, G.cK HK.out⟩
   ·replace c7 := Bool.eq_false_iff.mpr c7; subst c7; have H1 : (if (wrap64 ((wrap64 (ab + 1)) - 1)) < (aa.length : Int) then (if 0 ≤ (wrap64 ((wrap64 (ab + 1)) - 1)) then (if a1 = 0 then (none) else (some (Int.tmod (wrap64 (rd aa (wrap64 ((wrap64 (ab + 1)) - 1)))) a1, (wrap64 (ab + 1))))) else (none)) else (if (aa.length : Int) = 0 then (none) else (if 0 ≤ (Int.tmod (wrap64 ((wrap64 (ab + 1)) - 1)) (aa.length : Int)) then (if (Int.tmod (wrap64 ((wrap64 (ab + 1)) - 1)) (aa.length : Int)) < (aa.length : Int) then (if 0 ≤ (Int.tmod (wrap64 ((wrap64 ((wrap64 ((wrap64 (ab + 1)) - 1)) * 7)) + 3)) (aa.length : Int)) then (if (Int.tmod (wrap64 ((wrap64 ((wrap64 ((wrap64 (ab + 1)) - 1)) * 7)) + 3)) (aa.length : Int)) < (aa.length : Int) then (if a1 = 0 then (none) else (some (Int.tmod (Go.bits .xor .i64 (wrap64 ((wrap64 ((wrap64 ((wrap64 ((wrap64 (rd aa (Int.tmod (wrap64 ((wrap64 (ab + 1)) - 1)) (aa.length : Int)))) * 131)) + (wrap64 ((wrap64 (rd aa (Int.tmod (wrap64 ((wrap64 ((wrap64 ((wrap64 (ab + 1)) - 1)) * 7)) + 3)) (aa.length : Int)))) * 1117)))) + (wrap64 ((wrap64 ((wrap64 (ab + 1)) - 1)) * 29)))) + (wrap64 ((wrap64 (Int.tdiv (wrap64 ((wrap64 (ab + 1)) - 1)) (aa.length : Int))) * 53)))) (wrap64 (Int.tdiv (wrap64 ((wrap64 ((wrap64 ((wrap64 ((wrap64 (rd aa (Int.tmod (wrap64 ((wrap64 (ab + 1)) - 1)) (aa.length : Int)))) * 131)) + (wrap64 ((wrap64 (rd aa (Int.tmod (wrap64 ((wrap64 ((wrap64 ((wrap64 (ab + 1)) - 1)) * 7)) + 3)) (aa.length : Int)))) * 1117)))) + (wrap64 ((wrap64 ((wrap64 (ab + 1)) - 1)) * 29)))) + (wrap64 ((wrap64 (Int.tdiv (wrap64 ((wrap64 (ab + 1)) - 1)) (aa.length : Int))) * 53)))) 64))) a1, (wrap64 (ab + 1))))) else (none)) else (none)) else (none)) else (none)))) = some (r1, r2) := by rw [if_neg (show ¬ (false = true) by decide)] at H; exact H
    clear H; have H := H1; clear H1
    by_cases c8 : (wrap64 ((wrap64 (ab + 1)) - 1)) < (aa.length : Int)
    ·rw [if_pos c8] at H; have aV : decide ((wrap64 ((wrap64 (ab + 1)) - 1)) < (aa.length : Int)) = true := decide_eq_true c8; clear c8; obtain ⟨aj, ap⟩ : ∃ j_ : Int, (wrap64 ((wrap64 (ab + 1)) - 1)) = j_ := ⟨_, rfl⟩; replace H : (if 0 ≤ (aj) then (if a1 = 0 then (none) else (some (Int.tmod (wrap64 (rd aa (aj))) a1, (wrap64 (ab + 1))))) else (none)) = some (r1, r2) := by first | (rw [ap] at H; exact H) | (simp only [ap] at H ⊢; exact H)
     (try rw [ap] at aV); have bz : (IntKind.i64.wrap ((wrap64 (ab + 1)) - 1)) = aj := (i64_w _).trans ap
     by_cases c10 : 0 ≤ (aj)
     ·rw [if_pos c10] at H; have bA : decide (0 ≤ (aj)) = true := decide_eq_true c10; clear c10
      by_cases aK : a1 = 0
      ·rw [if_pos aK] at H; exact absurd H (by simp)
      ·rw [if_neg aK] at H; have bB : (a1 == 0) = false := beq_eq_false_iff_ne.mpr aK; have bC : (a1 != 0) = true := bne_iff_ne.mpr aK; simp only [Option.some.injEq, Prod.mk.injEq] at H; obtain ⟨rfl, rfl⟩ := H; obtain ⟨a8, a9, al, aW, aQ⟩ := ai.out; have a_ := cellS83_0 al; have ba := cellS83_1 al; have bc := blk_frozen al 1; clear al aW; have aD : 0 ≤ ((aj) : Int) := of_decide_eq_true (G.asm); have aE : (aj) < (aa.length : Int) := of_decide_eq_true (G.asm); obtain ⟨bD, a5, aq⟩ := Kd.at_int aQ (aj) aD aE; cases a5; replace aq := pw_cell_below HB.out aq; replace aD := eq_true aD; replace aE := eq_true aE
       go_wp2
       repeat (go_quiet (fail); try go_wp2)
       go_ret
       exact ⟨by first | rfl | (simp [errW_none, errW_some] <;> rfl) | (simp only [← ap]; first | rfl | (simp [errW_none, errW_some] <;> rfl)) | (simp [*, errW_none, errW_some] <;> rfl), caa1, caa0 HB.out, G.cK HK.out⟩
     ·rw [if_neg c10] at H; exact absurd H (by simp)
    ·rw [if_neg c8] at H; have aV : decide ((wrap64 ((wrap64 (ab + 1)) - 1)) < (aa.length : Int)) = false := decide_eq_false c8; clear c8
     by_cases aC : (aa.length : Int) = 0
     ·rw [if_pos aC] at H; exact absurd H (by simp)
     ·rw [if_neg aC] at H; have bE : ((aa.length : Int) == 0) = false := beq_eq_false_iff_ne.mpr aC; have bF : ((aa.length : Int) != 0) = true := bne_iff_ne.mpr aC; have bG : ¬ (aa = []) := fun h_ => aC (by rw [h_]; rfl); obtain ⟨ag, az⟩ : ∃ j_ : Int, (Int.tmod (wrap64 ((wrap64 (ab + 1)) - 1)) (aa.length : Int)) = j_ := ⟨_, rfl⟩; replace H : (if 0 ≤ (ag) then (if (ag) < (aa.length : Int) then (if 0 ≤ (Int.tmod (wrap64 ((wrap64 ((wrap64 ((wrap64 (ab + 1)) - 1)) * 7)) + 3)) (aa.length : Int)) then (if (Int.tmod (wrap64 ((wrap64 ((wrap64 ((wrap64 (ab + 1)) - 1)) * 7)) + 3)) (aa.length : Int)) < (aa.length : Int) then (if a1 = 0 then (none) else (some (Int.tmod (Go.bits .xor .i64 (wrap64 ((wrap64 ((wrap64 ((wrap64 ((wrap64 (rd aa (ag))) * 131)) + (wrap64 ((wrap64 (rd aa (Int.tmod (wrap64 ((wrap64 ((wrap64 ((wrap64 (ab + 1)) - 1)) * 7)) + 3)) (aa.length : Int)))) * 1117)))) + (wrap64 ((wrap64 ((wrap64 (ab + 1)) - 1)) * 29)))) + (wrap64 ((wrap64 (Int.tdiv (wrap64 ((wrap64 (ab + 1)) - 1)) (aa.length : Int))) * 53)))) (wrap64 (Int.tdiv (wrap64 ((wrap64 ((wrap64 ((wrap64 ((wrap64 (rd aa (ag))) * 131)) + (wrap64 ((wrap64 (rd aa (Int.tmod (wrap64 ((wrap64 ((wrap64 ((wrap64 (ab + 1)) - 1)) * 7)) + 3)) (aa.length : Int)))) * 1117)))) + (wrap64 ((wrap64 ((wrap64 (ab + 1)) - 1)) * 29)))) + (wrap64 ((wrap64 (Int.tdiv (wrap64 ((wrap64 (ab + 1)) - 1)) (aa.length : Int))) * 53)))) 64))) a1, (wrap64 (ab + 1))))) else (none)) else (none)) else (none)) else (none)) = some (r1, r2) := by first | (rw [az] at H; exact H) | (simp only [az] at H ⊢; exact H)
      by_cases aL : 0 ≤ (ag)
      ·rw [if_pos aL] at H; have bH : decide (0 ≤ (ag)) = true := decide_eq_true aL; clear aL
       by_cases aM : (ag) < (aa.length : Int)
       ·rw [if_pos aM] at H; have bI : decide ((ag) < (aa.length : Int)) = true := decide_eq_true aM; clear aM; obtain ⟨ah, aA⟩ : ∃ j_ : Int, (Int.tmod (wrap64 ((wrap64 ((wrap64 ((wrap64 (ab + 1)) - 1)) * 7)) + 3)) (aa.length : Int)) = j_ := ⟨_, rfl⟩; replace H : (if 0 ≤ (ah) then (if (ah) < (aa.length : Int) then (if a1 = 0 then (none) else (some (Int.tmod (Go.bits .xor .i64 (wrap64 ((wrap64 ((wrap64 ((wrap64 ((wrap64 (rd aa (ag))) * 131)) + (wrap64 ((wrap64 (rd aa (ah))) * 1117)))) + (wrap64 ((wrap64 ((wrap64 (ab + 1)) - 1)) * 29)))) + (wrap64 ((wrap64 (Int.tdiv (wrap64 ((wrap64 (ab + 1)) - 1)) (aa.length : Int))) * 53)))) (wrap64 (Int.tdiv (wrap64 ((wrap64 ((wrap64 ((wrap64 ((wrap64 (rd aa (ag))) * 131)) + (wrap64 ((wrap64 (rd aa (ah))) * 1117)))) + (wrap64 ((wrap64 ((wrap64 (ab + 1)) - 1)) * 29)))) + (wrap64 ((wrap64 (Int.tdiv (wrap64 ((wrap64 (ab + 1)) - 1)) (aa.length : Int))) * 53)))) 64))) a1, (wrap64 (ab + 1))))) else (none)) else (none)) = some (r1, r2) := by first | (rw [aA] at H; exact H) | (simp only [aA] at H ⊢; exact H)
        by_cases aN : 0 ≤ (ah)
        ·rw [if_pos aN] at H; have bJ : decide (0 ≤ (ah)) = true := decide_eq_true aN; clear aN
         by_cases aO : (ah) < (aa.length : Int)
         ·rw [if_pos aO] at H; have bK : decide ((ah) < (aa.length : Int)) = true := decide_eq_true aO; clear aO
          by_cases aP : a1 = 0
          ·rw [if_pos aP] at H; exact absurd H (by simp)
          ·rw [if_neg aP] at H; have bL : (a1 == 0) = false := beq_eq_false_iff_ne.mpr aP; have bM : (a1 != 0) = true := bne_iff_ne.mpr aP; simp only [Option.some.injEq, Prod.mk.injEq] at H; obtain ⟨rfl, rfl⟩ := H; obtain ⟨bd, bf, am, aX, au⟩ := ai.out; have bh := cellS83_0 am; have bj := cellS83_1 am; have bk := blk_frozen am 1; clear am aX; have aF : 0 ≤ ((ag) : Int) := of_decide_eq_true (G.asm); have aG : (ag) < (aa.length : Int) := of_decide_eq_true (G.asm); obtain ⟨aY, a6, av⟩ := Kd.at_int au (ag) aF aG; cases a6; replace av := pw_cell_below HB.out av; replace aF := eq_true aF; replace aG := eq_true aG; have aH : 0 ≤ ((ah) : Int) := of_decide_eq_true (G.asm); have aI : (ah) < (aa.length : Int) := of_decide_eq_true (G.asm); obtain ⟨aZ, a7, aw⟩ := Kd.at_int au (ah) aH aI; obtain rfl : aY = aZ := (by injection a7); replace aw := pw_cell_below HB.out aw; replace aH := eq_true aH; replace aI := eq_true aI
           go_wp2
           repeat (go_quiet (fail); try go_wp2)
           go_ret
           exact ⟨by first | rfl | (simp [errW_none, errW_some] <;> rfl) | (simp only [← az, ← aA]; first | rfl | (simp [errW_none, errW_some] <;> rfl)) | (simp [*, errW_none, errW_some] <;> rfl), caa1, caa0 HB.out, G.cK HK.out⟩
         ·rw [if_neg aO] at H; exact absurd H (by simp)
        ·rw [if_neg aN] at H; exact absurd H (by simp)
       ·rw [if_neg aM] at H; exact absurd H (by simp)
      ·rw [if_neg aL] at H; exact absurd H (by simp)

end Go.Proofs.Ytbkdpnfjcnkoeaa.P
