/- Short words for steps of a region's walk: what each step asks is shown by the tactic that stands with it. -/
import Derived.Test.YtgeonpciodepgaaGa
import Derived.Test.YtgeonpciodepgaaV
import Derived.WalkKit
namespace Go.Proofs.Ytgeonpciodepgaa.G
set_option linter.unusedVariables false
set_option linter.unusedSimpArgs false
open Go.RowKit Go.Proofs.YtgeonpciodepgaaW.PrintWords Go.Proofs.YtgeonpciodepgaaW.PrintLast
/-- n flags, those that are bits of a number -/
def fl (n b : Nat) : Array Bool := ((List.range n).map fun i => b.testBit i).toArray
section
variable {P : Program} {md : Region.Mode} {ops : Array Oper} {Q : Exit → Act → World → Prop} {S : World → Prop} {ds : List Nat}
theorem pu {fuel n b0 : Nat} {a : Act} {w : World} {oi : Oper} {v : Value} {a' : Act} (i : Nat) (N : Tmp) (b : Nat) (h : wpAnyLast P md ops Q S ds fuel (fl n b) a' w)
    (hi : ops[i]? = some oi := by rfl) (hN : oi.dst = some N := by rfl) (hc : anyB md ops (fl n b0) (fl n b) i = true := by first | exact any_of HT_.out (by kernel_rfl) | kernel_rfl)
    (hQ : ∀ c a w, Q (.panic c) (a.put oi.dst v) w → Q (.panic c) a w := by exact fun _ _ _ h => h) (hy : Yields P ops oi v a := by exact Or.inl ⟨by rfl, by (intro w'; go_simp; with_reducible rfl)⟩)
    (ha : a.put (some N) v = a' := by first | (simp only [Act.put, List.setIfInBounds_toArray, List.set_cons_zero, List.set_cons_succ, i64_w, i32_w]; rfl) | rfl) : wpAnyLast P md ops Q S ds (fuel + 1) (fl n b0) a w :=
  pure_ (fl n b) hi hN hc hQ hy ha h
theorem pf {fuel n b0 : Nat} {a : Act} {w : World} {oi : Oper} {a' : Act} (i : Nat) (N : Tmp) (b : Nat) (h : wpAnyLast P md ops Q S ds fuel (fl n b) a' w)
    (hi : ops[i]? = some oi := by rfl) (hN : oi.dst = some N := by rfl) (hc : anyB md ops (fl n b0) (fl n b) i = true := by first | exact any_of HT_.out (by kernel_rfl) | kernel_rfl)
    (hQ : ∀ c a w, Q (.panic c) (a.put oi.dst undef) w → Q (.panic c) a w := by exact fun _ _ _ h => h) (hy : Yields P ops oi undef a := by exact Or.inr ⟨by rfl, rfl⟩)
    (ha : a.put (some N) undef = a' := by first | (simp only [Act.put, List.setIfInBounds_toArray, List.set_cons_zero, List.set_cons_succ, i64_w, i32_w]; rfl) | rfl) : wpAnyLast P md ops Q S ds (fuel + 1) (fl n b0) a w :=
  pure_ (fl n b) hi hN hc hQ hy ha h
theorem ta0 {fuel n b0 : Nat} {a : Act} {w : World} {oi : Oper} {v : Value} {a' : Act} (i : Nat) (N : Tmp) (b : Nat) (h : wpAnyLast P md ops Q S ds fuel (fl n b) a' w)
    (hi : ops[i]? = some oi := by rfl) (hN : oi.dst = some N := by rfl) (hc : takeB md ops ds (fl n b0) (fl n b) i = true := by first | exact take_ofW HT_.out HW_.out (by kernel_rfl) | kernel_rfl)
    (hQ : ∀ c a w, Q (.panic c) (a.put oi.dst v) w → Q (.panic c) a w := by exact fun _ _ _ h => h) (hy : YieldsIf P ops S oi v a := by exact Or.inl ⟨by rfl, by (intro w' _; go_simp; with_reducible rfl)⟩) (hS : S w := by exact hHeld)
    (ha : a.put (some N) v = a' := by first | (simp only [Act.put, List.setIfInBounds_toArray, List.set_cons_zero, List.set_cons_succ, i64_w, i32_w]; rfl) | rfl) : wpAnyLast P md ops Q S ds (fuel + 1) (fl n b0) a w :=
  take_ (fl n b) hi hN hc hQ hy hS ha h
theorem ta1 {fuel n b0 : Nat} {a : Act} {w : World} {oi : Oper} {v : Value} {a' : Act} (i : Nat) (N : Tmp) (b : Nat) (h : wpAnyLast P md ops Q S ds fuel (fl n b) a' w)
    (hi : ops[i]? = some oi := by rfl) (hN : oi.dst = some N := by rfl) (hc : takeB md ops ds (fl n b0) (fl n b) i = true := by first | exact take_ofW HT_.out HW_.out (by kernel_rfl) | kernel_rfl)
    (hQ : ∀ c a w, Q (.panic c) (a.put oi.dst v) w → Q (.panic c) a w := by exact fun _ _ _ h => h) (hy : YieldsIf P ops S oi v a := by exact Or.inl ⟨by rfl, by (intro w' s0; go_simp; with_reducible rfl)⟩) (hS : S w := by exact hHeld)
    (ha : a.put (some N) v = a' := by first | (simp only [Act.put, List.setIfInBounds_toArray, List.set_cons_zero, List.set_cons_succ, i64_w, i32_w]; rfl) | rfl) : wpAnyLast P md ops Q S ds (fuel + 1) (fl n b0) a w :=
  take_ (fl n b) hi hN hc hQ hy hS ha h
theorem ta2 {fuel n b0 : Nat} {a : Act} {w : World} {oi : Oper} {v : Value} {a' : Act} (i : Nat) (N : Tmp) (b : Nat) (h : wpAnyLast P md ops Q S ds fuel (fl n b) a' w)
    (hi : ops[i]? = some oi := by rfl) (hN : oi.dst = some N := by rfl) (hc : takeB md ops ds (fl n b0) (fl n b) i = true := by first | exact take_ofW HT_.out HW_.out (by kernel_rfl) | kernel_rfl)
    (hQ : ∀ c a w, Q (.panic c) (a.put oi.dst v) w → Q (.panic c) a w := by exact fun _ _ _ h => h) (hy : YieldsIf P ops S oi v a := by exact Or.inl ⟨by rfl, by (rintro w' ⟨s0, s1⟩; go_simp; with_reducible rfl)⟩) (hS : S w := by exact hHeld)
    (ha : a.put (some N) v = a' := by first | (simp only [Act.put, List.setIfInBounds_toArray, List.set_cons_zero, List.set_cons_succ, i64_w, i32_w]; rfl) | rfl) : wpAnyLast P md ops Q S ds (fuel + 1) (fl n b0) a w :=
  take_ (fl n b) hi hN hc hQ hy hS ha h
theorem ta3 {fuel n b0 : Nat} {a : Act} {w : World} {oi : Oper} {v : Value} {a' : Act} (i : Nat) (N : Tmp) (b : Nat) (h : wpAnyLast P md ops Q S ds fuel (fl n b) a' w)
    (hi : ops[i]? = some oi := by rfl) (hN : oi.dst = some N := by rfl) (hc : takeB md ops ds (fl n b0) (fl n b) i = true := by first | exact take_ofW HT_.out HW_.out (by kernel_rfl) | kernel_rfl)
    (hQ : ∀ c a w, Q (.panic c) (a.put oi.dst v) w → Q (.panic c) a w := by exact fun _ _ _ h => h) (hy : YieldsIf P ops S oi v a := by exact Or.inl ⟨by rfl, by (rintro w' ⟨s0, s1, s2⟩; go_simp; with_reducible rfl)⟩) (hS : S w := by exact hHeld)
    (ha : a.put (some N) v = a' := by first | (simp only [Act.put, List.setIfInBounds_toArray, List.set_cons_zero, List.set_cons_succ, i64_w, i32_w]; rfl) | rfl) : wpAnyLast P md ops Q S ds (fuel + 1) (fl n b0) a w :=
  take_ (fl n b) hi hN hc hQ hy hS ha h
theorem ta4 {fuel n b0 : Nat} {a : Act} {w : World} {oi : Oper} {v : Value} {a' : Act} (i : Nat) (N : Tmp) (b : Nat) (h : wpAnyLast P md ops Q S ds fuel (fl n b) a' w)
    (hi : ops[i]? = some oi := by rfl) (hN : oi.dst = some N := by rfl) (hc : takeB md ops ds (fl n b0) (fl n b) i = true := by first | exact take_ofW HT_.out HW_.out (by kernel_rfl) | kernel_rfl)
    (hQ : ∀ c a w, Q (.panic c) (a.put oi.dst v) w → Q (.panic c) a w := by exact fun _ _ _ h => h) (hy : YieldsIf P ops S oi v a := by exact Or.inl ⟨by rfl, by (rintro w' ⟨s0, s1, s2, s3⟩; go_simp; with_reducible rfl)⟩) (hS : S w := by exact hHeld)
    (ha : a.put (some N) v = a' := by first | (simp only [Act.put, List.setIfInBounds_toArray, List.set_cons_zero, List.set_cons_succ, i64_w, i32_w]; rfl) | rfl) : wpAnyLast P md ops Q S ds (fuel + 1) (fl n b0) a w :=
  take_ (fl n b) hi hN hc hQ hy hS ha h
theorem ta5 {fuel n b0 : Nat} {a : Act} {w : World} {oi : Oper} {v : Value} {a' : Act} (i : Nat) (N : Tmp) (b : Nat) (h : wpAnyLast P md ops Q S ds fuel (fl n b) a' w)
    (hi : ops[i]? = some oi := by rfl) (hN : oi.dst = some N := by rfl) (hc : takeB md ops ds (fl n b0) (fl n b) i = true := by first | exact take_ofW HT_.out HW_.out (by kernel_rfl) | kernel_rfl)
    (hQ : ∀ c a w, Q (.panic c) (a.put oi.dst v) w → Q (.panic c) a w := by exact fun _ _ _ h => h) (hy : YieldsIf P ops S oi v a := by exact Or.inl ⟨by rfl, by (rintro w' ⟨s0, s1, s2, s3, s4⟩; go_simp; with_reducible rfl)⟩) (hS : S w := by exact hHeld)
    (ha : a.put (some N) v = a' := by first | (simp only [Act.put, List.setIfInBounds_toArray, List.set_cons_zero, List.set_cons_succ, i64_w, i32_w]; rfl) | rfl) : wpAnyLast P md ops Q S ds (fuel + 1) (fl n b0) a w :=
  take_ (fl n b) hi hN hc hQ hy hS ha h
theorem ta6 {fuel n b0 : Nat} {a : Act} {w : World} {oi : Oper} {v : Value} {a' : Act} (i : Nat) (N : Tmp) (b : Nat) (h : wpAnyLast P md ops Q S ds fuel (fl n b) a' w)
    (hi : ops[i]? = some oi := by rfl) (hN : oi.dst = some N := by rfl) (hc : takeB md ops ds (fl n b0) (fl n b) i = true := by first | exact take_ofW HT_.out HW_.out (by kernel_rfl) | kernel_rfl)
    (hQ : ∀ c a w, Q (.panic c) (a.put oi.dst v) w → Q (.panic c) a w := by exact fun _ _ _ h => h) (hy : YieldsIf P ops S oi v a := by exact Or.inl ⟨by rfl, by (rintro w' ⟨s0, s1, s2, s3, s4, s5⟩; go_simp; with_reducible rfl)⟩) (hS : S w := by exact hHeld)
    (ha : a.put (some N) v = a' := by first | (simp only [Act.put, List.setIfInBounds_toArray, List.set_cons_zero, List.set_cons_succ, i64_w, i32_w]; rfl) | rfl) : wpAnyLast P md ops Q S ds (fuel + 1) (fl n b0) a w :=
  take_ (fl n b) hi hN hc hQ hy hS ha h
theorem ta7 {fuel n b0 : Nat} {a : Act} {w : World} {oi : Oper} {v : Value} {a' : Act} (i : Nat) (N : Tmp) (b : Nat) (h : wpAnyLast P md ops Q S ds fuel (fl n b) a' w)
    (hi : ops[i]? = some oi := by rfl) (hN : oi.dst = some N := by rfl) (hc : takeB md ops ds (fl n b0) (fl n b) i = true := by first | exact take_ofW HT_.out HW_.out (by kernel_rfl) | kernel_rfl)
    (hQ : ∀ c a w, Q (.panic c) (a.put oi.dst v) w → Q (.panic c) a w := by exact fun _ _ _ h => h) (hy : YieldsIf P ops S oi v a := by exact Or.inl ⟨by rfl, by (rintro w' ⟨s0, s1, s2, s3, s4, s5, s6⟩; go_simp; with_reducible rfl)⟩) (hS : S w := by exact hHeld)
    (ha : a.put (some N) v = a' := by first | (simp only [Act.put, List.setIfInBounds_toArray, List.set_cons_zero, List.set_cons_succ, i64_w, i32_w]; rfl) | rfl) : wpAnyLast P md ops Q S ds (fuel + 1) (fl n b0) a w :=
  take_ (fl n b) hi hN hc hQ hy hS ha h
theorem ta8 {fuel n b0 : Nat} {a : Act} {w : World} {oi : Oper} {v : Value} {a' : Act} (i : Nat) (N : Tmp) (b : Nat) (h : wpAnyLast P md ops Q S ds fuel (fl n b) a' w)
    (hi : ops[i]? = some oi := by rfl) (hN : oi.dst = some N := by rfl) (hc : takeB md ops ds (fl n b0) (fl n b) i = true := by first | exact take_ofW HT_.out HW_.out (by kernel_rfl) | kernel_rfl)
    (hQ : ∀ c a w, Q (.panic c) (a.put oi.dst v) w → Q (.panic c) a w := by exact fun _ _ _ h => h) (hy : YieldsIf P ops S oi v a := by exact Or.inl ⟨by rfl, by (rintro w' ⟨s0, s1, s2, s3, s4, s5, s6, s7⟩; go_simp; with_reducible rfl)⟩) (hS : S w := by exact hHeld)
    (ha : a.put (some N) v = a' := by first | (simp only [Act.put, List.setIfInBounds_toArray, List.set_cons_zero, List.set_cons_succ, i64_w, i32_w]; rfl) | rfl) : wpAnyLast P md ops Q S ds (fuel + 1) (fl n b0) a w :=
  take_ (fl n b) hi hN hc hQ hy hS ha h
theorem ta9 {fuel n b0 : Nat} {a : Act} {w : World} {oi : Oper} {v : Value} {a' : Act} (i : Nat) (N : Tmp) (b : Nat) (h : wpAnyLast P md ops Q S ds fuel (fl n b) a' w)
    (hi : ops[i]? = some oi := by rfl) (hN : oi.dst = some N := by rfl) (hc : takeB md ops ds (fl n b0) (fl n b) i = true := by first | exact take_ofW HT_.out HW_.out (by kernel_rfl) | kernel_rfl)
    (hQ : ∀ c a w, Q (.panic c) (a.put oi.dst v) w → Q (.panic c) a w := by exact fun _ _ _ h => h) (hy : YieldsIf P ops S oi v a := by exact Or.inl ⟨by rfl, by (rintro w' ⟨s0, s1, s2, s3, s4, s5, s6, s7, s8⟩; go_simp; with_reducible rfl)⟩) (hS : S w := by exact hHeld)
    (ha : a.put (some N) v = a' := by first | (simp only [Act.put, List.setIfInBounds_toArray, List.set_cons_zero, List.set_cons_succ, i64_w, i32_w]; rfl) | rfl) : wpAnyLast P md ops Q S ds (fuel + 1) (fl n b0) a w :=
  take_ (fl n b) hi hN hc hQ hy hS ha h
theorem ta10 {fuel n b0 : Nat} {a : Act} {w : World} {oi : Oper} {v : Value} {a' : Act} (i : Nat) (N : Tmp) (b : Nat) (h : wpAnyLast P md ops Q S ds fuel (fl n b) a' w)
    (hi : ops[i]? = some oi := by rfl) (hN : oi.dst = some N := by rfl) (hc : takeB md ops ds (fl n b0) (fl n b) i = true := by first | exact take_ofW HT_.out HW_.out (by kernel_rfl) | kernel_rfl)
    (hQ : ∀ c a w, Q (.panic c) (a.put oi.dst v) w → Q (.panic c) a w := by exact fun _ _ _ h => h) (hy : YieldsIf P ops S oi v a := by exact Or.inl ⟨by rfl, by (rintro w' ⟨s0, s1, s2, s3, s4, s5, s6, s7, s8, s9⟩; go_simp; with_reducible rfl)⟩) (hS : S w := by exact hHeld)
    (ha : a.put (some N) v = a' := by first | (simp only [Act.put, List.setIfInBounds_toArray, List.set_cons_zero, List.set_cons_succ, i64_w, i32_w]; rfl) | rfl) : wpAnyLast P md ops Q S ds (fuel + 1) (fl n b0) a w :=
  take_ (fl n b) hi hN hc hQ hy hS ha h
theorem ta11 {fuel n b0 : Nat} {a : Act} {w : World} {oi : Oper} {v : Value} {a' : Act} (i : Nat) (N : Tmp) (b : Nat) (h : wpAnyLast P md ops Q S ds fuel (fl n b) a' w)
    (hi : ops[i]? = some oi := by rfl) (hN : oi.dst = some N := by rfl) (hc : takeB md ops ds (fl n b0) (fl n b) i = true := by first | exact take_ofW HT_.out HW_.out (by kernel_rfl) | kernel_rfl)
    (hQ : ∀ c a w, Q (.panic c) (a.put oi.dst v) w → Q (.panic c) a w := by exact fun _ _ _ h => h) (hy : YieldsIf P ops S oi v a := by exact Or.inl ⟨by rfl, by (rintro w' ⟨s0, s1, s2, s3, s4, s5, s6, s7, s8, s9, s10⟩; go_simp; with_reducible rfl)⟩) (hS : S w := by exact hHeld)
    (ha : a.put (some N) v = a' := by first | (simp only [Act.put, List.setIfInBounds_toArray, List.set_cons_zero, List.set_cons_succ, i64_w, i32_w]; rfl) | rfl) : wpAnyLast P md ops Q S ds (fuel + 1) (fl n b0) a w :=
  take_ (fl n b) hi hN hc hQ hy hS ha h
theorem ta12 {fuel n b0 : Nat} {a : Act} {w : World} {oi : Oper} {v : Value} {a' : Act} (i : Nat) (N : Tmp) (b : Nat) (h : wpAnyLast P md ops Q S ds fuel (fl n b) a' w)
    (hi : ops[i]? = some oi := by rfl) (hN : oi.dst = some N := by rfl) (hc : takeB md ops ds (fl n b0) (fl n b) i = true := by first | exact take_ofW HT_.out HW_.out (by kernel_rfl) | kernel_rfl)
    (hQ : ∀ c a w, Q (.panic c) (a.put oi.dst v) w → Q (.panic c) a w := by exact fun _ _ _ h => h) (hy : YieldsIf P ops S oi v a := by exact Or.inl ⟨by rfl, by (rintro w' ⟨s0, s1, s2, s3, s4, s5, s6, s7, s8, s9, s10, s11⟩; go_simp; with_reducible rfl)⟩) (hS : S w := by exact hHeld)
    (ha : a.put (some N) v = a' := by first | (simp only [Act.put, List.setIfInBounds_toArray, List.set_cons_zero, List.set_cons_succ, i64_w, i32_w]; rfl) | rfl) : wpAnyLast P md ops Q S ds (fuel + 1) (fl n b0) a w :=
  take_ (fl n b) hi hN hc hQ hy hS ha h
theorem ta13 {fuel n b0 : Nat} {a : Act} {w : World} {oi : Oper} {v : Value} {a' : Act} (i : Nat) (N : Tmp) (b : Nat) (h : wpAnyLast P md ops Q S ds fuel (fl n b) a' w)
    (hi : ops[i]? = some oi := by rfl) (hN : oi.dst = some N := by rfl) (hc : takeB md ops ds (fl n b0) (fl n b) i = true := by first | exact take_ofW HT_.out HW_.out (by kernel_rfl) | kernel_rfl)
    (hQ : ∀ c a w, Q (.panic c) (a.put oi.dst v) w → Q (.panic c) a w := by exact fun _ _ _ h => h) (hy : YieldsIf P ops S oi v a := by exact Or.inl ⟨by rfl, by (rintro w' ⟨s0, s1, s2, s3, s4, s5, s6, s7, s8, s9, s10, s11, s12⟩; go_simp; with_reducible rfl)⟩) (hS : S w := by exact hHeld)
    (ha : a.put (some N) v = a' := by first | (simp only [Act.put, List.setIfInBounds_toArray, List.set_cons_zero, List.set_cons_succ, i64_w, i32_w]; rfl) | rfl) : wpAnyLast P md ops Q S ds (fuel + 1) (fl n b0) a w :=
  take_ (fl n b) hi hN hc hQ hy hS ha h
theorem ta14 {fuel n b0 : Nat} {a : Act} {w : World} {oi : Oper} {v : Value} {a' : Act} (i : Nat) (N : Tmp) (b : Nat) (h : wpAnyLast P md ops Q S ds fuel (fl n b) a' w)
    (hi : ops[i]? = some oi := by rfl) (hN : oi.dst = some N := by rfl) (hc : takeB md ops ds (fl n b0) (fl n b) i = true := by first | exact take_ofW HT_.out HW_.out (by kernel_rfl) | kernel_rfl)
    (hQ : ∀ c a w, Q (.panic c) (a.put oi.dst v) w → Q (.panic c) a w := by exact fun _ _ _ h => h) (hy : YieldsIf P ops S oi v a := by exact Or.inl ⟨by rfl, by (rintro w' ⟨s0, s1, s2, s3, s4, s5, s6, s7, s8, s9, s10, s11, s12, s13⟩; go_simp; with_reducible rfl)⟩) (hS : S w := by exact hHeld)
    (ha : a.put (some N) v = a' := by first | (simp only [Act.put, List.setIfInBounds_toArray, List.set_cons_zero, List.set_cons_succ, i64_w, i32_w]; rfl) | rfl) : wpAnyLast P md ops Q S ds (fuel + 1) (fl n b0) a w :=
  take_ (fl n b) hi hN hc hQ hy hS ha h
theorem puN {fuel : Nat} {l : Array Bool} {a : Act} {w : World} {oi : Oper} {v : Value} {a' : Act} (i : Nat) (N : Option Tmp) (l' : Array Bool) (h : wpAnyLast P md ops Q S ds fuel l' a' w)
    (hi : ops[i]? = some oi := by rfl) (hN : oi.dst = N := by rfl) (hc : anyB md ops l l' i = true := by first | exact any_of HT_.out (by kernel_rfl) | kernel_rfl)
    (hQ : ∀ c a w, Q (.panic c) (a.put oi.dst v) w → Q (.panic c) a w := by exact fun _ _ _ h => h) (hy : Yields P ops oi v a := by exact Or.inl ⟨by rfl, by (intro w'; go_simp; with_reducible rfl)⟩)
    (ha : a.put N v = a' := by first | (simp only [Act.put, List.setIfInBounds_toArray, List.set_cons_zero, List.set_cons_succ, i64_w, i32_w]; rfl) | rfl) : wpAnyLast P md ops Q S ds (fuel + 1) l a w :=
  pure_ l' hi hN hc hQ hy ha h
theorem pfN {fuel : Nat} {l : Array Bool} {a : Act} {w : World} {oi : Oper} {a' : Act} (i : Nat) (N : Option Tmp) (l' : Array Bool) (h : wpAnyLast P md ops Q S ds fuel l' a' w)
    (hi : ops[i]? = some oi := by rfl) (hN : oi.dst = N := by rfl) (hc : anyB md ops l l' i = true := by first | exact any_of HT_.out (by kernel_rfl) | kernel_rfl)
    (hQ : ∀ c a w, Q (.panic c) (a.put oi.dst undef) w → Q (.panic c) a w := by exact fun _ _ _ h => h) (hy : Yields P ops oi undef a := by exact Or.inr ⟨by rfl, rfl⟩)
    (ha : a.put N undef = a' := by first | (simp only [Act.put, List.setIfInBounds_toArray, List.set_cons_zero, List.set_cons_succ, i64_w, i32_w]; rfl) | rfl) : wpAnyLast P md ops Q S ds (fuel + 1) l a w :=
  pure_ l' hi hN hc hQ hy ha h
theorem no {fuel : Nat} {l : Array Bool} {a a0 a' : Act} {v : Value} {w : World} (N : Tmp) (h : wpAnyLast P md ops Q S ds fuel l a' w) (hs : a = a0.put (some N) v := by rfl)
    (ha : a0.put (some N) v = a' := by (simp only [Act.put, List.setIfInBounds_toArray, List.set_cons_zero, List.set_cons_succ, i64_w, i32_w]; rfl)) : wpAnyLast P md ops Q S ds fuel l a w := norm_ (hs.trans ha) h
theorem noN {fuel : Nat} {l : Array Bool} {a a0 a' : Act} {v : Value} {w : World} (N : Option Tmp) (h : wpAnyLast P md ops Q S ds fuel l a' w) (hs : a = a0.put N v := by rfl)
    (ha : a0.put N v = a' := by (simp only [Act.put, List.setIfInBounds_toArray, List.set_cons_zero, List.set_cons_succ, i64_w, i32_w]; rfl)) : wpAnyLast P md ops Q S ds fuel l a w := norm_ (hs.trans ha) h
end
section
variable {P : Program} {ops : Array Oper} {rest : List Oper} {o : Oper} {a : Act} {Q : Exit → Act → World → Prop}
theorem be {W : World} (N : Tmp) (cs : Array Value) (t : TypeId)
    (h : ∀ g, g = W.heap.size → ∀ w1, w1.heap[g]? = some (.cells cs t (0, 0)) → Below W.heap.size W w1 → wpList P ops Q rest (a.put o.dst (.pointer (some ⟨g, 0, none⟩))) w1)
    (hd : o.dst = some N := by with_reducible rfl) (hgd : o.guard = none := by rfl)
    (hrun : (execOp a.eval o).run P W = .ok (.value (.pointer (some ⟨W.heap.size, 0, none⟩))) (W.alloc (.cells cs t (0, 0))) := by first | (go_simp; done) | (go_simp; rfl)) : wpList P ops Q (o :: rest) a W := box_event hgd hd hrun h
end
theorem cR {p q : Prop} (H : q) (h : q → p := by (intro h_; (with_reducible repeat (first | apply Kd.R_alloc | apply Kd.R_drewN | apply Kd.R_drew)); exact h_)) : p := h H
theorem cV {p q : Prop} (H : q) (h : q → p := by (intro h_; (with_reducible repeat (first | apply Kd.V_alloc | apply Kd.V_drewN | apply Kd.V_drew)); exact h_)) : p := h H
theorem cb {p q : Prop} (H : q) (h : q → p := by (intro h_; (with_reducible repeat (first | refine blk_drewN ?_ _ | refine blk_drew ?_ | refine blk_alloc ?_ _)); exact h_)) : p := h H
theorem cB {B : Nat} {w w1 w2 : World} (H : Below B w w1) (h : Below B w w2 := by repeat (first | (with_reducible first | exact HB.out | apply below_alloc | apply pw_below_drewN | apply below_drew1) | (with_reducible refine below_set ?_ (Aside0.out (by assumption))) | exact HB.out)) : Below B w w2 := h
theorem cK {w w1 w2 : World} {g : Nat} {row : Option Nat} (H : KeepBut w w1 g row) (h : KeepBut w w2 g row := by repeat (first | (with_reducible first | exact HK.out | apply KeepBut.set_ | apply keep_drewN | apply keep_drew | apply keep_alloc) | (with_reducible refine keep_far ?_ (Aside0.out (by assumption)) _) | exact HK.out)) : KeepBut w w2 g row := h
theorem ar {p : Prop} (h : p := by (try simp only [List.map_toArray, List.map_cons, List.map_nil]); first | done | rfl | (simp only [List.length_drop, List.length_take]; rfl)) : p := h
theorem asm {p : Prop} (h : p := by first | (with_reducible assumption) | assumption) : p := h
theorem m {p : Prop} (h : p) : Aside0 p := ⟨h⟩
section
variable {w0 w w1 W W1 : World} {g : Nat} {o : Obj} {row : Option Nat}
theorem bb (H : Aside0 (w0.heap[g]? = some o)) (hb : Below w.heap.size w w1) (h : w0.heap[g]? = some o → w.heap[g]? = some o := by (intro h_; (with_reducible repeat (first | refine blk_drewN ?_ _ | refine blk_drew ?_ | refine blk_alloc ?_ _)); exact h_)) : Aside0 (w1.heap[g]? = some o) := ⟨blk_below (h H.out) hb⟩
theorem kk (H : Aside0 (w0.heap[g]? = some o)) {g1 : Nat} (N : Aside0 (g ≠ g1)) (hk : KeepBut w w1 g1 row) (hr : some g ≠ row := by simp) (h : w0.heap[g]? = some o → w.heap[g]? = some o := by (intro h_; (with_reducible repeat (first | refine blk_drewN ?_ _ | refine blk_drew ?_ | refine blk_alloc ?_ _)); exact h_)) : Aside0 (w1.heap[g]? = some o) := ⟨KeepBut.blk hk (h H.out) N.out hr⟩
theorem bg (H : Aside0 (w0.heap[g]? = some o)) (hg : w.grownBy w1 row) (hne : some g ≠ row) (h : w0.heap[g]? = some o → w.heap[g]? = some o := by (intro h_; (with_reducible repeat (first | refine blk_drewN ?_ _ | refine blk_drew ?_ | refine blk_alloc ?_ _)); exact h_)) : Aside0 (w1.heap[g]? = some o) := ⟨blk_grown (h H.out) hg hne⟩
theorem bs (H : Aside0 (Below w.heap.size w w0)) (hb : Below W.heap.size W w1) (h : Below w.heap.size w W := by repeat (first | (with_reducible first | exact HB.out | apply below_alloc | apply pw_below_drewN | apply below_drew1) | (with_reducible refine below_set ?_ (Aside0.out (by assumption))) | exact HB.out)) : Aside0 (Below w.heap.size w w1) := ⟨below_step h hb⟩
theorem kb {g : Nat} (H : Aside0 (KeepBut w w0 g none)) (hb : Below W.heap.size W w1) (h : KeepBut w W g none := by repeat (first | (with_reducible first | exact HK.out | apply KeepBut.set_ | apply keep_drewN | apply keep_drew | apply keep_alloc) | (with_reducible refine keep_far ?_ (Aside0.out (by assumption)) _) | exact HK.out)) : Aside0 (KeepBut w w1 g none) := ⟨KeepBut.trans h (KeepBut.of_below hb g none) (.inl rfl)⟩
theorem kt {g : Nat} (H : Aside0 (KeepBut w w0 g row)) (hk : KeepBut W w1 g row) (h : KeepBut w W g row := by repeat (first | (with_reducible first | exact HK.out | apply KeepBut.set_ | apply keep_drewN | apply keep_drew | apply keep_alloc) | (with_reducible refine keep_far ?_ (Aside0.out (by assumption)) _) | exact HK.out)) : Aside0 (KeepBut w w1 g row) := ⟨KeepBut.trans h hk (.inl rfl)⟩
theorem hx (H : Aside0 (Below w.heap.size w w1)) {a : Addr} {v : Value} (h : w.cell? a = some v) : w1.cell? a = some v := (H.out.cell (World.block_lt_of_cell? w _ h)).trans h
theorem z {cs : Array Value} {t : TypeId} (H : Aside0 (w.heap[g]? = some (.cells cs t (0, 0)))) (i : Nat) {v : Value} (h : cs[i]? = some v := by rfl) : w.cell? ⟨g, i, none⟩ = some v := (blk_cell H.out i).trans h
end
section
variable {α β : Type} {d : Kd α} {d' : Kd β} {e e' base base' : Nat} {ok ok' : Nat → Prop} {w0 w W w1 : World} {u v : Value} {xs : List α} {ys : List β}
theorem rb (H : Aside0 (Kd.R d e w0 base ok v xs)) (hb : Below w.heap.size w w1) (h : Kd.R d e w0 base ok v xs → Kd.R d e w base ok v xs := by (intro h_; (with_reducible repeat (first | apply Kd.R_alloc | apply Kd.R_drewN | apply Kd.R_drew)); exact h_)) : Aside0 (Kd.R d e w1 base ok v xs) := ⟨Kd.R_below (h H.out) hb⟩
theorem vb (H : Aside0 (Kd.V d e w0 base ok v xs)) (hb : Below w.heap.size w w1) (h : Kd.V d e w0 base ok v xs → Kd.V d e w base ok v xs := by (intro h_; (with_reducible repeat (first | apply Kd.V_alloc | apply Kd.V_drewN | apply Kd.V_drew)); exact h_)) : Aside0 (Kd.V d e w1 base ok v xs) := ⟨Kd.V_below (h H.out) hb⟩
theorem re (H : Aside0 (Kd.R d e w0 base ok u xs)) (ho : Kd.R d' e' W w.heap.size ok' v ys) (hb : Below w.heap.size w w1) (h : Kd.R d e w0 base ok u xs → Kd.R d e w base ok u xs := by (intro h_; (with_reducible repeat (first | apply Kd.R_alloc | apply Kd.R_drewN | apply Kd.R_drew)); exact h_)) : Aside0 (Kd.R d e w1 base (fun k => ok k ∧ some k ≠ v.ownBlock) u xs) := ⟨Kd.R_elder' (h H.out) (Kd.R_base ho) hb⟩
theorem ve (H : Aside0 (Kd.V d e w0 base ok u xs)) (ho : Kd.R d' e' W w.heap.size ok' v ys) (hb : Below w.heap.size w w1) (h : Kd.V d e w0 base ok u xs → Kd.V d e w base ok u xs := by (intro h_; (with_reducible repeat (first | apply Kd.V_alloc | apply Kd.V_drewN | apply Kd.V_drew)); exact h_)) : Aside0 (Kd.V d e w1 base (fun k => ok k ∧ some k ≠ v.ownBlock) u xs) := ⟨Kd.V_elder' (h H.out) (Kd.R_base ho) hb⟩
end
theorem ow {p : Prop} (h : p := by first | rfl | (simp [Value.ownBlock]; rfl)) : p := h
theorem oq {p q : Prop} (H : q) (h : q → p := by (intro h_; (first | rw [add_block] | (show some (Addr.add _ _).block ≠ _; rw [add_block]) | skip); first | exact h_ | exact h_.1 | exact h_.2 | exact h_.1.1 | exact h_.1.2 | exact h_.2.1 | exact h_.2.2)) : p := h H
theorem cC {p q : Prop} (H : q) (h : q → p := by (intro h_; repeat (first | exact h_ | (with_reducible refine Kd.C_alloc ?_ _) | (with_reducible refine Kd.C_drewN ?_ _) | (with_reducible refine Kd.C_drew ?_)))) : p := h H
theorem bi {α β : Type} {o : Option α} {f : α → Option β} {r : β} (h : o.bind f = some r) : ∃ a, Aside0 (o = some a) ∧ f a = some r := by
  obtain ⟨a, h1, h2⟩ := Option.bind_eq_some_iff.mp h
  exact ⟨a, ⟨h1⟩, h2⟩
section
variable {w : World} {g : Nat} {t : TypeId} {v0 v1 v2 v3 v4 v5 : Value}
theorem d1 (H : Aside0 (w.heap[g]? = some (.cells #[v0] t (0, 0)))) : w.cell? ⟨g, 0, none⟩ = some v0 ∧ w.frozen? ⟨g, 0, none⟩ = false := ⟨(blk_cell H.out 0).trans rfl, blk_frozen H.out 0⟩
theorem d2 (H : Aside0 (w.heap[g]? = some (.cells #[v0, v1] t (0, 0)))) : w.cell? ⟨g, 0, none⟩ = some v0 ∧ w.cell? ⟨g, 1, none⟩ = some v1 ∧ w.frozen? ⟨g, 0, none⟩ = false ∧ w.frozen? ⟨g, 1, none⟩ = false := ⟨(blk_cell H.out 0).trans rfl, (blk_cell H.out 1).trans rfl, blk_frozen H.out 0, blk_frozen H.out 1⟩
theorem d3 (H : Aside0 (w.heap[g]? = some (.cells #[v0, v1, v2] t (0, 0)))) : w.cell? ⟨g, 0, none⟩ = some v0 ∧ w.cell? ⟨g, 1, none⟩ = some v1 ∧ w.cell? ⟨g, 2, none⟩ = some v2 ∧ w.frozen? ⟨g, 0, none⟩ = false ∧ w.frozen? ⟨g, 1, none⟩ = false ∧ w.frozen? ⟨g, 2, none⟩ = false := ⟨(blk_cell H.out 0).trans rfl, (blk_cell H.out 1).trans rfl, (blk_cell H.out 2).trans rfl, blk_frozen H.out 0, blk_frozen H.out 1, blk_frozen H.out 2⟩
theorem d4 (H : Aside0 (w.heap[g]? = some (.cells #[v0, v1, v2, v3] t (0, 0)))) : w.cell? ⟨g, 0, none⟩ = some v0 ∧ w.cell? ⟨g, 1, none⟩ = some v1 ∧ w.cell? ⟨g, 2, none⟩ = some v2 ∧ w.cell? ⟨g, 3, none⟩ = some v3 ∧ w.frozen? ⟨g, 0, none⟩ = false ∧ w.frozen? ⟨g, 1, none⟩ = false ∧ w.frozen? ⟨g, 2, none⟩ = false ∧ w.frozen? ⟨g, 3, none⟩ = false := ⟨(blk_cell H.out 0).trans rfl, (blk_cell H.out 1).trans rfl, (blk_cell H.out 2).trans rfl, (blk_cell H.out 3).trans rfl, blk_frozen H.out 0, blk_frozen H.out 1, blk_frozen H.out 2, blk_frozen H.out 3⟩
theorem d5 (H : Aside0 (w.heap[g]? = some (.cells #[v0, v1, v2, v3, v4] t (0, 0)))) : w.cell? ⟨g, 0, none⟩ = some v0 ∧ w.cell? ⟨g, 1, none⟩ = some v1 ∧ w.cell? ⟨g, 2, none⟩ = some v2 ∧ w.cell? ⟨g, 3, none⟩ = some v3 ∧ w.cell? ⟨g, 4, none⟩ = some v4 ∧ w.frozen? ⟨g, 0, none⟩ = false ∧ w.frozen? ⟨g, 1, none⟩ = false ∧ w.frozen? ⟨g, 2, none⟩ = false ∧ w.frozen? ⟨g, 3, none⟩ = false ∧ w.frozen? ⟨g, 4, none⟩ = false := ⟨(blk_cell H.out 0).trans rfl, (blk_cell H.out 1).trans rfl, (blk_cell H.out 2).trans rfl, (blk_cell H.out 3).trans rfl, (blk_cell H.out 4).trans rfl, blk_frozen H.out 0, blk_frozen H.out 1, blk_frozen H.out 2, blk_frozen H.out 3, blk_frozen H.out 4⟩
theorem d6 (H : Aside0 (w.heap[g]? = some (.cells #[v0, v1, v2, v3, v4, v5] t (0, 0)))) : w.cell? ⟨g, 0, none⟩ = some v0 ∧ w.cell? ⟨g, 1, none⟩ = some v1 ∧ w.cell? ⟨g, 2, none⟩ = some v2 ∧ w.cell? ⟨g, 3, none⟩ = some v3 ∧ w.cell? ⟨g, 4, none⟩ = some v4 ∧ w.cell? ⟨g, 5, none⟩ = some v5 ∧ w.frozen? ⟨g, 0, none⟩ = false ∧ w.frozen? ⟨g, 1, none⟩ = false ∧ w.frozen? ⟨g, 2, none⟩ = false ∧ w.frozen? ⟨g, 3, none⟩ = false ∧ w.frozen? ⟨g, 4, none⟩ = false ∧ w.frozen? ⟨g, 5, none⟩ = false := ⟨(blk_cell H.out 0).trans rfl, (blk_cell H.out 1).trans rfl, (blk_cell H.out 2).trans rfl, (blk_cell H.out 3).trans rfl, (blk_cell H.out 4).trans rfl, (blk_cell H.out 5).trans rfl, blk_frozen H.out 0, blk_frozen H.out 1, blk_frozen H.out 2, blk_frozen H.out 3, blk_frozen H.out 4, blk_frozen H.out 5⟩
end
section
variable {P : Program} {ops : Array Oper} {Q : Exit → Act → World → Prop}
theorem h {rest : List Oper} {o : Oper} {a : Act} {w : World} (N : Tmp) (_hN : o.dst = some N) (h : wpList P ops Q (o :: rest) a w) : wpList P ops Q (o :: rest) a w := h
theorem f {rest : List Oper} {o : Oper} {a : Act} {w : World} (f : FuncId) {as : Array Operand} {ts : Array TypeId} (_ho : o.op = .call { callee := .value (.func f), args := as, argTypes := ts }) (h : wpList P ops Q (o :: rest) a w) : wpList P ops Q (o :: rest) a w := h
theorem gL {rest : List Oper} {oi : Oper} {a : Act} {w : World} {f : FuncId} (N : Tmp) {fn : Func} {as : Array Operand} {ts : Array TypeId} (hf : P.funcs[f]? = some fn) (args : Array Value)
    (h : Calls P f args w fun e w' => ∃ v, e = .returned v ∧ wpList P ops Q rest (a.put (some N) v) w')
    (hop : oi.op = .call { callee := .value (.func f), args := as, argTypes := ts } := by with_reducible rfl) (hd : oi.dst = some N := by rfl) (hg : oi.guard = none := by rfl) (hname : (fn.name == "runtime.NumGoroutine") = false := by kernel_rfl) (hb : fn.body.isSome = true := by rfl)
    (hargs : as.map a.eval = args := by exact G.ar) : wpList P ops Q (oi :: rest) a w := goesL_ (some N) hd hg hf hname hb args hop hargs h
variable {md : Region.Mode} {S : World → Prop} {ds : List Nat}
theorem gs {oi : Oper} {N : Option Tmp} {a : Act} {w : World} {K : Act → World → Prop} {f : FuncId} {fn : Func} {as : Array Operand} {ts : Array TypeId} (hf : P.funcs[f]? = some fn) (args : Array Value)
    (h : Calls P f args w fun e w' => ∃ v, e = .returned v ∧ K (a.put N v) w') (hop : oi.op = .call { callee := .value (.func f), args := as, argTypes := ts } := by rfl) (hname : (fn.name == "runtime.NumGoroutine") = false := by kernel_rfl) (hb : fn.body.isSome = true := by rfl)
    (hw : Region.wanted oi (yielded ops a.tmps) = true := by rfl) (hN : oi.dst = N := by rfl) (hargs : as.map a.eval = args := by exact G.ar) : if Region.wanted oi (yielded ops a.tmps) = true then Oper.wp P oi a w K Q else K (a.put N undef) w := goes_ hf hname hb args hw hN hop hargs h
theorem on {oi : Oper} {fuel n b0 : Nat} {a : Act} {w : World} (i : Nat) (N : Tmp) (b : Nat)
    (h : ∀ K : Act → World → Prop, Shut (∀ a' w', S w' → (S w' → wpAnyLast P md ops Q S ds fuel (fl n b) a' w') → K a' w') → if Region.wanted oi (yielded ops a.tmps) = true then Oper.wp P oi a w K Q else K (a.put (some N) undef) w)
    (hi : ops[i]? = some oi := by rfl) (hN : oi.dst = some N := by rfl) (hc : readyB md ops (fl n b0) (fl n b) i = true := by exact one_of HT_.out (by kernel_rfl)) (hd : i ∉ ds := by decide) : wpAnyLast P md ops Q S ds (fuel + 1) (fl n b0) a w := one_ (fl n b) hi hN hc hd h
theorem onN {oi : Oper} {fuel : Nat} {l : Array Bool} {a : Act} {w : World} (i : Nat) (N : Option Tmp) (l' : Array Bool)
    (h : ∀ K : Act → World → Prop, Shut (∀ a' w', S w' → (S w' → wpAnyLast P md ops Q S ds fuel l' a' w') → K a' w') → if Region.wanted oi (yielded ops a.tmps) = true then Oper.wp P oi a w K Q else K (a.put N undef) w)
    (hi : ops[i]? = some oi := by rfl) (hN : oi.dst = N := by rfl) (hc : readyB md ops l l' i = true := by exact one_of HT_.out (by kernel_rfl)) (hd : i ∉ ds := by decide) : wpAnyLast P md ops Q S ds (fuel + 1) l a w := one_ l' hi hN hc hd h
theorem st {id : Nat} {a : Act} {w : World} {T : Bool × List (List Nat × List Nat)} {B : List Nat} (n : Nat) {S : World → Prop} (ds : List Nat) (hS : S w.drew) (hT : rtab .any ops = T) (hB : waitsOk T.2 B = true)
    (h : S w.drew → Aside0 (rtab .any ops = T) → Aside0 (waitsOk T.2 B = true) → wpAnyLast P .any ops Q S ds n (fl n 0) a w.drew) (hm : P.follows .mixedOrders = true := by kernel_rfl) (hn : ops.size = n := by rfl)
    (hl : Array.replicate n false = fl n 0 := by kernel_rfl) : (Code.region id ops true).wp P Q a w := start_ (fl n 0) hm hn hl hS fun h1 => with_tabW hT hB (h h1)
theorem la {oi : Oper} {fuel : Nat} {l : Array Bool} {a : Act} {w : World} (i : Nat) (N : Option Tmp) (l' : Array Bool)
    (h : ∀ K : Act → World → Prop, Shut (∀ a' w', wpAnyLast P md ops Q S ds fuel l' a' w' → K a' w') → if Region.wanted oi (yielded ops a.tmps) = true then Oper.wp P oi a w K Q else K (a.put N undef) w)
    (hi : ops[i]? = some oi := by rfl) (hN : oi.dst = N := by rfl) (hc : readyB md ops l l' i = true := by exact one_of HT_.out (by kernel_rfl)) (hd : i ∈ ds := by decide) : wpAnyLast P md ops Q S ds (fuel + 1) l a w := last_ l' hi hN hc hd h
end
end Go.Proofs.Ytgeonpciodepgaa.G
