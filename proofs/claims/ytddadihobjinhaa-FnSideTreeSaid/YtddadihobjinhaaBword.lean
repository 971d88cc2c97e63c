/- The order of ways as the program tells it. -/
import Derived.Test.YtddadihobjinhaaBok
import Derived.Test.YtddadihobjinhaaGway
import Derived.Sort.Grow
import Derived.Test.YtddadihobjinhaaF8
namespace Go.Proofs.Ytddadihobjinhaa.P
set_option linter.unusedSimpArgs false
set_option linter.unusedVariables false
open Go.RowKit Go.Lib Go.Sort Go.Proofs.YtddadihobjinhaaW.PrintWords Go.Proofs.YtddadihobjinhaaW.PrintLast Go.Proofs.YtddadihobjinhaaW.PrintMore Go.Proofs.Ytddadihobjinhaa.G
/-- which of two rows stands ahead -/
def cmpL : List Int → List Int → Int
  | [], [] => 0
  | [], _ :: _ => -1
  | _ :: _, [] => 1
  | x :: a, y :: b => if cmp3 x y = 0 then cmpL a b else cmp3 x y
def cfW (a b : List Int) : Int := if cmp3 a.length b.length = 0 then cmpL a b else cmp3 a.length b.length
theorem cmp3_zero {x y : Int} : cmp3 x y = 0 ↔ x = y := by unfold cmp3; repeat' split <;> omega
theorem cmp3_neg {x y : Int} : cmp3 x y < 0 ↔ x < y := by unfold cmp3; repeat' split <;> omega
theorem cmpL_neg : ∀ a b : List Int, cmpL a b < 0 ↔ lexlt a b
  | [], [] => by simp [cmpL, lexlt]
  | [], _ :: _ => by simp [cmpL, lexlt]
  | _ :: _, [] => by simp [cmpL, lexlt]
  | x :: a, y :: b => by
    unfold cmpL lexlt
    by_cases c : cmp3 x y = 0
    · rw [if_pos c, cmpL_neg a b]
      have := cmp3_zero.1 c
      constructor
      · intro h; exact .inr ⟨this, h⟩
      · rintro (h | h)
        · omega
        · exact h.2
    · rw [if_neg c, cmp3_neg]
      constructor
      · intro h; exact .inl h
      · rintro (h | h)
        · exact h
        · exact absurd (cmp3_zero.2 h.1) c
theorem cfW_neg (a b : List Int) : cfW a b < 0 ↔ wlt a b := by
  unfold cfW wlt
  by_cases c : cmp3 (a.length : Int) b.length = 0
  · rw [if_pos c, cmpL_neg]
    have := cmp3_zero.1 c
    constructor
    · intro h; exact .inr ⟨by omega, h⟩
    · rintro (h | h)
      · omega
      · exact h.2
  · rw [if_neg c, cmp3_neg]
    constructor
    · intro h; exact .inl (by omega)
    · rintro (h | h)
      · omega
      · exact absurd (cmp3_zero.2 (by omega)) c
theorem cmpS_l0 : ∀ (a b p q : List Int), p.length = q.length → (p ++ a).length ≤ 9223372036854775807 →
    Ev (fun k => slices_Compare_int_int.l0 k (p ++ a) (q ++ b) (p ++ a) ((p ++ a).length : Int) (p.length : Int)) (cmpL a b)
  | [], b, p, q, h, hb => by
    refine Ev.step (fun k => by simp only [slices_Compare_int_int.l0, nlt_end, if_false] <;> exact rfl) ?_
    refine Ev.val ?_
    cases b with
    | nil => rw [if_neg (by simp; omega)]; rfl
    | cons y b => rw [if_pos (by simp; omega)]; rfl
  | x :: a, [], p, q, h, hb => by
    have h2 : (p.length : Int) ≥ ((q ++ []).length : Int) := by simp; omega
    refine Ev.step (fun k => by simp only [slices_Compare_int_int.l0, lt_mid, nn, if_true, if_pos h2] <;> exact rfl) ?_
    exact Ev.val rfl
  | x :: a, y :: b, p, q, h, hb => by
    have h2 : ¬ (p.length : Int) ≥ ((q ++ y :: b).length : Int) := by simp; omega
    have h3 : (p.length : Int) < ((q ++ y :: b).length : Int) := by simp; omega
    have e1 : rd (q ++ y :: b) (p.length : Int) = y := by rw [h]; exact rd_mid q y b
    have w : wrap64 ((p.length : Int) + 1) = ((p ++ [x]).length : Int) := by
      rw [List.length_append, List.length_cons] at hb
      rw [w64 (by omega) (by omega)]; simp
    refine Ev.step (fun k => by simp only [slices_Compare_int_int.l0, lt_mid, nn, if_true, if_neg h2, if_pos h3, rd_mid, e1, cmp_eq, Option.bind_some, w] <;> exact rfl) ?_
    unfold cmpL
    by_cases c : cmp3 x y = 0
    · simp only [if_pos c]
      rw [app_one p x a, app_one q y b]
      exact cmpS_l0 a b (p ++ [x]) (q ++ [y]) (by simp [h]) (by rw [← app_one]; exact hb)
    · simp only [if_neg c]
      exact Ev.val rfl
theorem cmpS_ev (a b : List Int) (ha : a.length ≤ 9223372036854775807) : Ev (fun k => slices_Compare_int_int.f k a b) (cmpL a b) := by
  unfold slices_Compare_int_int.f
  exact cmpS_l0 a b [] [] rfl ha
theorem lit2_grow {P : Program} {ops : Array Oper} {rest : List Oper} {o : Oper} {a : Act} {Q : Exit → Act → World → Prop} {W V : World} {x y : Int} {e : Nat} (hgd : o.guard = none)
    (hrun : (execOp a.eval o).run P V = .ok (.value (.slice (some ⟨V.heap.size, 0, none⟩) 2 2)) (V.alloc (.cells #[.int .i64 x, .int .i64 y] e))) (hV : ∃ q, V = W.drewN q)
    (h : ∀ ad w1, Kd.C (Kd.int .i64) w1 (some ad) [x, y].length [x, y] → (∃ q os, w1 = grow (W.drewN q) os) → wpList P ops Q rest (a.put o.dst (.slice (some ad) 2 2)) w1) : wpList P ops Q (o :: rest) a V := by
  refine Kd.event_run hgd hrun (h ⟨V.heap.size, 0, none⟩ _ ?_ ?_)
  · have bn := blk_new V (.cells #[.int .i64 x, .int .i64 y] e (0, 0))
    refine Kd.C_of_reads (d := (0 : Int)) (h1 := fun _ => rfl) ⟨rfl, by simp, fun hn => ⟨_, rfl, fun j hj => ?_⟩⟩
    match j, hj with
    | 0, _ => exact (blk_cell bn 0).trans rfl
    | 1, _ => exact (blk_cell bn 1).trans rfl
  · obtain ⟨q, rfl⟩ := hV
    exact ⟨q, _, alloc_eq_grow _ _⟩
set_option maxHeartbeats 4000000 in
set_option maxRecDepth 100000 in
theorem wayOrder_at (A0 : Option Addr) (c0 : Nat) (l0 : List Int) (A1 : Option Addr) (c1 : Nat) (l1 : List Int) (W : World) (hr0 : Kd.C (Kd.int .i64) W A0 l0.length l0) (hc0 : l0.length ≤ c0) (hr1 : Kd.C (Kd.int .i64) W A1 l1.length l1) (hc1 : l1.length ≤ c1) :
    Calls Try.prog 77 #[.slice A0 l0.length c0, .slice A1 l1.length c1] W fun e w' => e = .returned (.int .i64 (cfW l0 l1)) ∧ ∃ q os', w' = grow (W.drewN q) os' := by
  obtain ⟨k, hk⟩ := Ev.rounds (cmpS_ev l0 l1 hr0.2.1)
  obtain ⟨k2, hk2⟩ := Ev.rounds (or_two (cmp3 l0.length l1.length) (cmpL l0 l1))
  obtain ⟨r, hr⟩ : ∃ r : Int, (if cmp3 l0.length l1.length = 0 then cmpL l0 l1 else cmp3 l0.length l1.length) = r := ⟨_, rfl⟩
  rw [hr] at hk2
  have HR0 := Aside0.mk hr0
  have HC0 := Aside0.mk hc0
  have HR1 := Aside0.mk hr1
  have HC1 := Aside0.mk hc1
  have A3 := Aside0.mk (cmp_eq l0.length l1.length)
  have A4 := Aside0.mk hk
  have A5 := Aside0.mk hk2
  have HR := Aside0.mk hr
  clear hr0 hc0 hr1 hc1 hk hk2 hr
  go_enter Try.func77, Try.ntmps77
  go_wp2_with (first
    | ((with_reducible refine gate_callee (f := 90) rfl ?_); refine goesL_ (some 9) rfl rfl Try.func90 (by kernel_rfl) rfl #[.int .i64 (l0.length : Int), .int .i64 (l1.length : Int)] rfl (G.ar) ?_; (with_reducible refine (cmp_Compare_int.calls (l0.length : Int) (l1.length : Int) _ _ A3.out).mono ?_); rintro e w' ⟨rfl, ⟨nd, rfl⟩⟩; refine ⟨_, rfl, ?_⟩)
    | ((with_reducible refine gate_callee (f := 91) rfl ?_); refine goesL_ (some 12) rfl rfl Try.func91 (by kernel_rfl) rfl #[.slice A0 l0.length c0, .slice A1 l1.length c1] rfl (G.ar) ?_; (with_reducible refine (slices_Compare_int_int.calls k _ _ l0 _ _ l1 _ _ ?side1 ?side2 ?side3 ?side4 A4.out).mono ?_); (case side1 => repeat (first | exact HR0.out | (with_reducible refine Kd.C_alloc ?_ _) | (with_reducible refine Kd.C_drewN ?_ _) | (with_reducible refine Kd.C_drew ?_))); (case side2 => exact HC0.out); (case side3 => repeat (first | exact HR1.out | (with_reducible refine Kd.C_alloc ?_ _) | (with_reducible refine Kd.C_drewN ?_ _) | (with_reducible refine Kd.C_drew ?_))); (case side4 => exact HC1.out); rintro e w' ⟨rfl, ⟨nd2, rfl⟩⟩; refine ⟨_, rfl, ?_⟩)
    | ((with_reducible refine gate_dst (N := 13) rfl ?_); refine lit2_grow (W := W) (x := cmp3 l0.length l1.length) (y := cmpL l0 l1) (e := 3) rfl (by first | (go_simp; done) | (go_simp; rfl)) ⟨nd + nd2, by simp [World.drewN, Nat.add_assoc]⟩ ?_; intro ad w6 hl_ hg_; have HL := Aside0.mk hl_; have HG := Aside0.mk hg_; clear hl_ hg_)
    | ((with_reducible refine gate_callee (f := 89) rfl ?_); refine goesL_ (some 14) rfl rfl Try.func89 (by kernel_rfl) rfl #[.slice (some ad) 2 2] rfl (G.ar) ?_; (refine (cmp_Or_int.calls k2 (some ad) 2 [cmp3 l0.length l1.length, cmpL l0 l1] r _ ?side1 ?side2 A5.out).mono ?_); (case side1 => exact HL.out); (case side2 => exact Nat.le_refl _); rintro e w' ⟨rfl, ⟨nd3, rfl⟩⟩; refine ⟨_, rfl, ?_⟩))
  go_ret
  refine ⟨?_, ?_⟩
  · rw [← HR.out]
    rfl
  · obtain ⟨q, os, e⟩ := HG.out
    rw [e]
    refine ⟨q + nd3, os, ?_⟩
    show grow ((W.drewN q).drewN nd3) _ = _
    congr 1
    simp [World.drewN, Nat.add_assoc]
end Go.Proofs.Ytddadihobjinhaa.P
