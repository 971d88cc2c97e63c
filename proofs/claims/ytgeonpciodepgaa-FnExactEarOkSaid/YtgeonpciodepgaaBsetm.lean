/- A set of ties as the program keeps it: a map from ties to bools in whose block the ties lie in the order in which they came. Its operations, as arms of a walk. -/
import Derived.Test.YtgeonpciodepgaaF0
import Derived.Maps.Own
namespace Go.Proofs.Ytgeonpciodepgaa.P
set_option linter.unusedSimpArgs false
set_option linter.unusedVariables false
open Go.RowKit Go.Proofs.YtgeonpciodepgaaW.PrintWords Go.Proofs.Ytgeonpciodepgaa.G
def mEnt (t : G.Tie) (i : Nat) : MapEntry := ⟨.agg #[.int .i64 t.f0, .int .i64 t.f1], .bool true, i⟩
def mEnts : Nat → List G.Tie → List MapEntry
  | _, [] => []
  | i, t :: r => mEnt t i :: mEnts (i + 1) r
def mObj (l : List G.Tie) : Obj := .map (mEnts 0 l).toArray l.length
def tHas : List G.Tie → Int → Int → Bool
  | [], _, _ => false
  | t :: r, a, b => (a == t.f0 && b == t.f1) || tHas r a b
theorem mEnts_length : ∀ (l : List G.Tie) (i : Nat), (mEnts i l).length = l.length
  | [], _ => rfl
  | _ :: r, i => by simp [mEnts, mEnts_length r]
theorem mEnts_push (t : G.Tie) : ∀ (l : List G.Tie) (i : Nat), mEnts i l ++ [mEnt t (i + l.length)] = mEnts i (l ++ [t])
  | [], i => by simp [mEnts]
  | x :: r, i => by
    simp only [mEnts, List.cons_append, List.length_cons]
    rw [← mEnts_push t r (i + 1)]
    simp [Nat.add_comm, Nat.add_left_comm, Nat.add_assoc]
theorem mObj_push (l : List G.Tie) (t : G.Tie) : Obj.map ((mEnts 0 l).toArray.push (mEnt t l.length)) (l.length + 1) = mObj (l ++ [t]) := by
  have h := mEnts_push t l 0
  simp only [Nat.zero_add] at h
  simp [mObj, ← h]
theorem mEq (d : Nat) (w : World) (x0 y0 : Int) (x1 y1 : Int) :
    (Op.equalIn (d + 2) 59 (.agg #[.int .i64 x0, .int .i64 x1]) (.agg #[.int .i64 y0, .int .i64 y1])).run Try.prog w = .ok (x0 == y0 && (x1 == y1)) w := by
  refine eqA_of Try.underlying59 (by kernel_rfl) ?_
  refine eqf_cons (by rfl) (by go_simp; rfl) (by go_simp; rfl) (by go_simp) ?_
  exact eqf_last (by rfl) (by go_simp; rfl) (by go_simp; rfl) (by go_simp)
theorem mEqual (w : World) (x0 y0 : Int) (x1 y1 : Int) :
    (Op.equal 59 (.agg #[.int .i64 x0, .int .i64 x1]) (.agg #[.int .i64 y0, .int .i64 y1])).run Try.prog w = .ok (x0 == y0 && (x1 == y1)) w := mEq _ w x0 y0 x1 y1
theorem mAsk (w : World) (a b : Int) : ∀ (l : List G.Tie) (i j : Nat),
    (tHas l a b = false → (Instr.findAsking 59 (.agg #[.int .i64 a, .int .i64 b]) (mEnts i l) j).run Try.prog w = .ok none w) ∧
    (tHas l a b = true → ∃ n, (Instr.findAsking 59 (.agg #[.int .i64 a, .int .i64 b]) (mEnts i l) j).run Try.prog w = .ok (some (n, .bool true)) w)
  | [], i, j => ⟨fun _ => by simp [mEnts, Instr.findAsking], fun h => by simp [tHas] at h⟩
  | t :: r, i, j => by
    have ih := mAsk w a b r (i + 1) (j + 1)
    simp only [mEnts, Instr.findAsking, tHas]
    have e : (Op.equal 59 (.agg #[.int .i64 a, .int .i64 b]) (mEnt t i).key).run Try.prog w = .ok (a == t.f0 && (b == t.f1)) w := mEqual w a t.f0 b t.f1
    cases h : (a == t.f0 && b == t.f1)
    · simp only [Bool.false_or]
      rw [h] at e
      refine ⟨fun h1 => ?_, fun h1 => ?_⟩
      · simp [Sem.run_bind, e, Result.andThen, ih.1 h1]
      · obtain ⟨n, hn⟩ := ih.2 h1
        exact ⟨n, by simp [Sem.run_bind, e, Result.andThen, hn]⟩
    · rw [h] at e
      exact ⟨fun h1 => by simp at h1, fun _ => ⟨j, by simp [Sem.run_bind, e, Result.andThen]; rfl⟩⟩
theorem mFind (w : World) (a b : Int) (l : List G.Tie) :
    (tHas l a b = false → (Instr.findKey 59 (.agg #[.int .i64 a, .int .i64 b]) (mEnts 0 l)).run Try.prog w = .ok none w) ∧
    (tHas l a b = true → ∃ n, (Instr.findKey 59 (.agg #[.int .i64 a, .int .i64 b]) (mEnts 0 l)).run Try.prog w = .ok (some (n, .bool true)) w) := by
  have h := mAsk w a b l 0 0
  unfold Instr.findKey
  cases l with
  | nil => exact ⟨fun _ => by simp [mEnts, Instr.findNow, Sem.run_bind, run_underlying Try.underlying59, Result.andThen], fun h => by simp [tHas] at h⟩
  | cons t r =>

    refine ⟨fun h1 => ?_, fun h1 => ?_⟩
    · simp [Sem.run_bind, run_underlying Try.underlying59, Result.andThen, Instr.findNow, mEnts, Instr.sameNow] 
      simpa [mEnts] using h.1 h1
    · obtain ⟨n, hn⟩ := h.2 h1
      exact ⟨n, by
        simp [Sem.run_bind, run_underlying Try.underlying59, Result.andThen, Instr.findNow, mEnts, Instr.sameNow]
        simpa [mEnts] using hn⟩
theorem mCheck (w : World) (em : Bool) (a b : Int) : (Instr.checkKey em 10000 59 (.agg #[.int .i64 a, .int .i64 b])).run Try.prog w = .ok () w := by
  have c : ∀ x : Int, (Instr.checkKey em 9999 3 (.int .i64 x)).run Try.prog w = .ok () w := fun x => MapKept.run_checkKey (k := .int .i64 x) Try.underlying3 (show MapKept.IsKey (.int .i64) (.int .i64 x) from rfl) em 9998
  unfold Instr.checkKey
  simp [Sem.run_bind, run_underlying Try.underlying59, Result.andThen]
  have p0 : (part 3 #[Value.int IntKind.i64 a, Value.int IntKind.i64 b] 0).run Try.prog w = .ok (.int .i64 a) w := by go_simp
  have p1 : (part 3 #[Value.int IntKind.i64 a, Value.int IntKind.i64 b] 1).run Try.prog w = .ok (.int .i64 b) w := by go_simp
  simp [p0, p1, c]
theorem mLook {w : World} {g : Nat} {l : List G.Tie} (hb : w.heap[g]? = some (mObj l)) (a b : Int) :
    (Instr.lookup 69 (.map (some g)) (.agg #[.int .i64 a, .int .i64 b]) false).run Try.prog w = .ok (.bool (tHas l a b)) w := by
  have hf := mFind w a b l
  cases h : tHas l a b
  · have z : (zeroValue 4).run Try.prog w = .ok (.bool false) w := by kernel_rfl
    simp [Instr.lookup, run_underlying Try.underlying69, MapKept.run_getObj_map hb, mCheck, hf.1 h, z, Result.andThen, Sem.run_bind]
  · obtain ⟨n, hn⟩ := hf.2 h
    simp [Instr.lookup, run_underlying Try.underlying69, MapKept.run_getObj_map hb, mCheck, hn, Result.andThen, Sem.run_bind]
theorem mPut {w : World} {g : Nat} {l : List G.Tie} (hb : w.heap[g]? = some (mObj l)) (t : G.Tie) (h : tHas l t.f0 t.f1 = false) :
    ∃ w1, (Instr.mapUpdate 69 (.map (some g)) (.agg #[.int .i64 t.f0, .int .i64 t.f1]) (.bool true)).run Try.prog w = .ok () w1 ∧ w1.heap[g]? = some (mObj (l ++ [t])) ∧ w.grownBy w1 (some g) := by
  have hf := (mFind w t.f0 t.f1 l).1 h
  refine ⟨ChangeMaps.setBlock w g (mObj (l ++ [t])), ?_, ChangeMaps.heap_setBlock_same hb _, ⟨rfl, rfl, rfl, by simp [ChangeMaps.setBlock], fun i _ hi => ChangeMaps.heap_setBlock_other hb _ (fun e => hi (by rw [e]))⟩⟩
  rw [← mObj_push]
  simp [Instr.mapUpdate, run_underlying Try.underlying69, MapKept.run_getObj_map hb, mCheck, hf, MapKept.run_setObj_map _ hb, Result.andThen, Sem.run_bind, ChangeMaps.setBlock, mEnt]
theorem mLen {w : World} {g : Nat} {l : List G.Tie} (hb : w.heap[g]? = some (mObj l)) (ty : TypeId) : (Builtin.len_ #[69] ty #[.map (some g)]).run Try.prog w = .ok (.int .i64 l.length) w := by
  simp [Builtin.len_, run_underlying Try.underlying69, MapKept.run_getObj_map hb, Result.andThen, Sem.run_bind, goInt, mEnts_length]
section
variable {ops : Array Oper} {rest : List Oper} {o : Oper} {a : Act} {Q : Exit → Act → World → Prop} {W : World} {g : Nat} {l : List G.Tie} {x0 x1 : Int}
/-- Made: it holds nothing. -/
theorem mMake (N : Tmp) (h : ∀ g, g = W.heap.size → ∀ w1, w1.heap[g]? = some (mObj []) → Below W.heap.size W w1 → wpList Try.prog ops Q rest (a.put o.dst (.map (some g))) w1)
    (hd : o.dst = some N := by with_reducible rfl) (hg : o.guard = none := by rfl) (hop : o.op = .makeMap 69 none := by rfl) : wpList Try.prog ops Q (o :: rest) a W := by
  refine wpList_plain hg fun K' hK' => ?_
  unfold Oper.wp
  have hr : (Instr.makeMap 69 none).run Try.prog W = .ok (.map (some W.heap.size)) (W.alloc (mObj [])) := rfl
  simp only [execOp, hop]
  simp [hr, Result.andThen]
  exact hK' _ _ (h _ rfl _ (blk_new W (mObj [])) (Below.alloc (Below.refl W.heap.size W) (Nat.le_refl _) _))
/-- Asked: nothing turns. -/
theorem mAsked (N : Tmp) {m x : Operand} {b : Bool} (hb : W.heap[g]? = some (mObj l)) (he : tHas l x0 x1 = b) (h : wpList Try.prog ops Q rest (a.put o.dst (.bool b)) W)
    (hd : o.dst = some N := by with_reducible rfl) (hg : o.guard = none := by rfl) (hop : o.op = .lookup 69 m x false := by rfl)
    (hm : a.eval m = .map (some g) := by rfl) (hx : a.eval x = .agg #[.int .i64 x0, .int .i64 x1] := by rfl) : wpList Try.prog ops Q (o :: rest) a W := by
  refine wpList_plain hg fun K' hK' => ?_
  unfold Oper.wp
  simp [execOp, hop, hm, hx, mLook hb, he, Result.andThen]
  exact hK' _ _ h
/-- How many it holds. -/
theorem mSize (N : Tmp) {m : Operand} (hb : W.heap[g]? = some (mObj l)) (h : wpList Try.prog ops Q rest (a.put o.dst (.int .i64 l.length)) W)
    (hd : o.dst = some N := by with_reducible rfl) (hg : o.guard = none := by rfl) (hop : o.op = .call { callee := .builtin .len, args := #[m], argTypes := #[69] } := by rfl)
    (hm : a.eval m = .map (some g) := by rfl) : wpList Try.prog ops Q (o :: rest) a W := by
  refine wpList_plain hg fun K' hK' => ?_
  unfold Oper.wp
  have hl := mLen hb
  simp only [execOp, hop, hm, resolve, Sem.run_bind, Sem.run_pure, Result.andThen_ok, List.map_toArray, List.map_cons, List.map_nil, invoke, builtin, hl]
  exact hK' _ _ h
/-- Put in, where it is not in. -/
theorem mTake {m x v : Operand} (hb : W.heap[g]? = some (mObj l)) (hn : tHas l x0 x1 = false)
    (h : ∀ w1, w1.heap[g]? = some (mObj (l ++ [⟨x0, x1⟩])) → W.grownBy w1 (some g) → wpList Try.prog ops Q rest (a.put o.dst undef) w1)
    (hop : o.op = .mapUpdate 69 m x v := by rfl) (hg : o.guard = none := by rfl) 
    (hm : a.eval m = .map (some g) := by rfl) (hx : a.eval x = .agg #[.int .i64 x0, .int .i64 x1] := by rfl) (hv : a.eval v = .bool true := by rfl) : wpList Try.prog ops Q (o :: rest) a W := by
  refine wpList_plain hg fun K' hK' => ?_
  obtain ⟨w1, hr, h1, h2⟩ := mPut hb ⟨x0, x1⟩ hn
  unfold Oper.wp
  simp [execOp, hop, hm, hx, hv, hr, Result.andThen]
  exact hK' _ _ (h _ h1 h2)
end
section
variable {α : Type} {d : Kd α} {e base : Nat} {ok : Nat → Prop} {w : World} {v : Value} {xs : List α} {g : Nat} {l : List G.Tie}
theorem mNe (h : d.R e w base ok v xs) (hb : w.heap[g]? = some (mObj l)) : some g ≠ v.ownBlock := fun he => by
  obtain ⟨cells, hc⟩ := Kd.R_typed h g he.symm
  rw [hb] at hc
  simp [mObj] at hc
theorem mTypes (h : d.R e w base ok v xs) (hb : w.heap[g]? = some (mObj l)) : d.R e w base (fun k => ok k ∧ k ≠ g) v xs :=
  Kd.R_mono (Kd.R_bound h) (fun k hk => ⟨hk.1, by
    obtain ⟨_, _, _, q, hq, cells', hc⟩ := hk
    rintro rfl
    rw [hc] at hb
    simp [mObj] at hb⟩)
theorem mFar {w : World} (h : w.heap[g]? = some (mObj l)) {p : Addr} (hp : g ≠ p.block) (u : Value) : (w.setCell p u).heap[g]? = some (mObj l) := (Below.heap_setCell w p u g hp).trans h
theorem mBelow {w0 w w1 : World} (h : Below w0.heap.size w0 w) (hg : w.grownBy w1 (some g)) (hge : w0.heap.size ≤ g) : Below w0.heap.size w0 w1 :=
  ⟨hg.os.trans h.os, hg.tape.trans h.tape, hg.output.trans h.output, Nat.le_trans h.size hg.size, fun k hk => (hg.block k (Nat.lt_of_lt_of_le hk h.size) (fun e => by injection e with e; omega)).trans (h.block k hk)⟩
theorem mBlk {t : TypeId} {cs : Array Value} {g' : Nat} (h : w.heap[g]? = some (mObj l)) (h' : w.heap[g']? = some (.cells cs t (0, 0))) : g ≠ g' := by
  rintro rfl
  rw [h] at h'
  simp [mObj] at h'
end
end Go.Proofs.Ytgeonpciodepgaa.P
