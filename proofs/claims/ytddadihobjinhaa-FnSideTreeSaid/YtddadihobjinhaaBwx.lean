/- What holds along the walk of ways: the row of ways, which may be written in place, and the way that came in. -/
import Derived.Test.YtddadihobjinhaaGm
import Derived.Test.YtddadihobjinhaaF7
namespace Go.Proofs.Ytddadihobjinhaa.P
set_option linter.unusedVariables false
open Go.RowKit Go.Proofs.YtddadihobjinhaaW.PrintWords
theorem grown_of_below {w w1 : World} (h : Below w.heap.size w w1) (row : Option Nat) : w.grownBy w1 row := ⟨h.os, h.tape, h.output, h.size, fun k hk _ => h.block k hk⟩
structure LX (w0 w : World) (A1 : Option Addr) (c1 : Nat) (l1 : List Int) (vo v : Value) (out : List (List Int)) (W : World) : Prop where
  b : Below w0.heap.size w0 W
  way : Kd.R (Kd.int .i64) 3 W w0.heap.size (fun _ => True) (.slice A1 l1.length c1) l1
  row : Kd.S (Kd.slice 3 (Kd.int .i64)) 25 W w0.heap.size (fun _ => True) v out
  g : w.grownBy W vo.ownBlock
  at_ : v.ownBlock = vo.ownBlock ∨ ∃ b, v.ownBlock = some b ∧ w.heap.size ≤ b
section
variable {w0 w W W' : World} {A1 : Option Addr} {c1 : Nat} {l1 : List Int} {vo v v1 : Value} {out out1 : List (List Int)}
theorem LX.start (hb : Below w0.heap.size w0 w) (h1 : Kd.R (Kd.int .i64) 3 w w0.heap.size (fun _ => True) (.slice A1 l1.length c1) l1) (h2 : Kd.S (Kd.slice 3 (Kd.int .i64)) 25 w w0.heap.size (fun _ => True) vo out) : LX w0 w A1 c1 l1 vo vo out w :=
  ⟨hb, h1, h2, grown_of_below (Below.refl _ _) _, .inl rfl⟩
theorem LX.below (h : LX w0 w A1 c1 l1 vo v out W) (hb : Below W.heap.size W W') : LX w0 w A1 c1 l1 vo v out W' :=
  ⟨below_step h.b hb, Kd.R_below h.way hb, Kd.S_below h.row hb, World.grownBy.trans h.g (grown_of_below hb _), h.at_⟩
theorem LX.fin (h : LX w0 w A1 c1 l1 vo v out W) : Kd.S (Kd.slice 3 (Kd.int .i64)) 25 W w0.heap.size (fun _ => True) v out ∧ Below w0.heap.size w0 W ∧ w.grownBy W vo.ownBlock ∧ (v.ownBlock = vo.ownBlock ∨ ∃ b, v.ownBlock = some b ∧ w.heap.size ≤ b) := ⟨h.row, h.b, h.g, h.at_⟩
theorem LX.step (h : LX w0 w A1 c1 l1 vo v out W) (hS : Kd.S (Kd.slice 3 (Kd.int .i64)) 25 W' w0.heap.size (fun _ => True) v1 out1) (hb : Below w0.heap.size w0 W') (hg : W.grownBy W' v.ownBlock) (hat : v1.ownBlock = v.ownBlock ∨ ∃ b, v1.ownBlock = some b ∧ W.heap.size ≤ b) : LX w0 w A1 c1 l1 vo v1 out1 W' := by
  refine ⟨hb, Kd.R_over' h.way (Kd.S_typed h.row) (by decide) hg, hS, ⟨hg.os.trans h.g.os, hg.tape.trans h.g.tape, hg.output.trans h.g.output, Nat.le_trans h.g.size hg.size, fun k hk hne => ?_⟩, ?_⟩
  · refine (hg.block k (Nat.lt_of_lt_of_le hk h.g.size) (fun e => ?_)).trans (h.g.block k hk hne)
    rcases h.at_ with q | ⟨b, q, hb⟩
    · exact hne (e.trans q)
    · rw [q] at e
      injection e with e
      omega
  · rcases hat with q | ⟨b, q, hb2⟩
    · rw [q]; exact h.at_
    · exact .inr ⟨b, q, Nat.le_trans h.g.size hb2⟩
theorem LX.app {w1 : World} (hB : Below w.heap.size w w1) (ho : Kd.S (Kd.slice 3 (Kd.int .i64)) 25 W w0.heap.size (fun _ => True) v out) (hb : Below w0.heap.size w0 W) (hg : w1.grownBy W vo.ownBlock) (hat : v.ownBlock = vo.ownBlock ∨ ∃ b, v.ownBlock = some b ∧ w1.heap.size ≤ b) : Kd.S (Kd.slice 3 (Kd.int .i64)) 25 W w0.heap.size (fun _ => True) v out ∧ Below w0.heap.size w0 W ∧ w.grownBy W vo.ownBlock ∧ (v.ownBlock = vo.ownBlock ∨ ∃ b, v.ownBlock = some b ∧ w.heap.size ≤ b) :=
  ⟨ho, hb, World.grownBy.trans (grown_of_below hB _) hg, hat.imp id (fun ⟨b, e1, e2⟩ => ⟨b, e1, Nat.le_trans hB.size e2⟩)⟩
end
end Go.Proofs.Ytddadihobjinhaa.P
