/- The proof's parts ahead of the row: of no condition of their own. -/
import Derived.Test.YtjkeagcenmmknaaDoorZFnPairTie2
import Derived.Sort.OwnSortedInts
set_option linter.unusedVariables false
set_option linter.unusedSimpArgs false
namespace Go.Proofs.YtjkeagcenmmknaaDoor.P
open Go.RowKit Go.Lib Go.Sort Go.Proofs.YtjkeagcenmmknaaDoorW.PrintWords Go.Proofs.YtjkeagcenmmknaaDoor.G
def encT (x : G.Tie) : List Value := [.int .i64 x.f0, .int .i64 x.f1]
instance : Inhabited G.Tie := ⟨⟨0, 0⟩⟩
theorem flat_at : ∀ (l : List G.Tie) (t : Nat), t < l.length * 2 → (l.flatMap encT)[t]? = some ((encT (l.getD (t / 2) default))[t % 2]!)
 | [], t, h => by simp at h
 | x :: r, t, h => by
  rw [List.flatMap_cons]
  match t with
  | 0 => rfl
  | 1 => rfl
  | t + 2 =>
   have e1 : (t + 2) / 2 = t / 2 + 1 := by omega
   have e2 : (t + 2) % 2 = t % 2 := by omega
   rw [e1, e2]
   have := flat_at r t (by simp only [List.length_cons] at h; omega)
   simpa [encT] using this
theorem flat_len (l : List G.Tie) : (l.flatMap encT).length = l.length * 2 := by
 induction l with
 | nil => rfl
 | cons x r ih => rw [List.flatMap_cons, List.length_append, ih]; simp [encT]; omega
theorem flat_eq (l : List G.Tie) : flatK encT 2 l.toArray = (l.flatMap encT).toArray := by
 apply Array.ext_getElem?
 intro t
 by_cases h : t < l.length * 2
 ·have a := flat_at l t h
  have b : (l.flatMap encT).toArray[t]? = (l.flatMap encT)[t]? := by simp
  rw [b, a]
  unfold flatK
  simp [h]
 ·have b : (l.flatMap encT).toArray[t]? = none := by
   rw [Array.getElem?_eq_none]
   have := flat_len l
   simp
   simp at this
   omega
  rw [b]
  unfold flatK
  simp
  omega
def cfT (x y : G.Tie) : Int := ord x.f0 x.f1 y.f0 y.f1
theorem lt_T (x y : G.Tie) : ltOf cfT x y = decide (tlt x y) := by
 unfold ltOf cfT
 have := ord_neg x.f0 x.f1 y.f0 y.f1
 exact decide_eq_decide.2 (by
  constructor
  ·intro h
   apply Classical.byContradiction
   intro q
   have := this.2 q
   omega
  ·intro h
   apply Classical.byContradiction
   intro q
   exact this.1 (by omega) h)
theorem swoT : SWO (ltOf cfT) where
 irrefl x := by rw [lt_T]; exact decide_eq_false (tlt_irrefl x)
 trans x y z h1 h2 := by
  rw [lt_T, decide_eq_true_eq] at *
  exact tlt_trans h1 h2
 ntrans x y z h1 h2 := by
  rw [lt_T, decide_eq_false_iff_not] at *
  intro h
  rcases tlt_tri x y with a | a | a
  ·exact h1 a
  ·subst a; exact h2 h
  ·exact h2 (tlt_trans a h)
def sortT (l : List G.Tie) : List G.Tie := l.mergeSort fun a b => !decide (tlt b a)
theorem sortT_perm (l : List G.Tie) : (sortT l).Perm l := List.mergeSort_perm l _
theorem sortT_sorted (l : List G.Tie) : (sortT l).Pairwise fun a b => ¬ tlt b a := by
 have := List.pairwise_mergeSort (le := fun a b => !decide (tlt b a)) (fun a b c h1 h2 => by
  simp only [Bool.not_eq_true', decide_eq_false_iff_not] at *
  intro h
  rcases tlt_tri a b with x | x | x
  ·exact h2 (tlt_trans h x)
  ·subst x; exact h2 h
  ·exact h1 x) (fun a b => by
  rcases tlt_tri a b with x | x | x
  ·simp [tlt_asymm x]
  ·subst x; simp [tlt_irrefl]
  ·simp [tlt_asymm x]) l
 exact this.imp (fun {a b} h => by simpa using h)
theorem sorted_unique : ∀ {l m : List G.Tie}, l.Perm m → (l.Pairwise fun a b => ¬ tlt b a) → (m.Pairwise fun a b => ¬ tlt b a) → l = m
 | [], m, p, _, _ => (List.nil_perm.1 p).symm
 | a :: r, [], p, _, _ => absurd p.length_eq (by simp)
 | a :: r, b :: s, p, h, k => by
  rw [List.pairwise_cons] at h k
  have e : a = b := by
   rcases tlt_tri a b with x | x | x
   ·have : a ∈ b :: s := p.subset (by simp)
    rcases List.mem_cons.1 this with q | q
    ·exact q
    ·exact absurd x (k.1 a q)
   ·exact x
   ·have : b ∈ a :: r := p.symm.subset (by simp)
    rcases List.mem_cons.1 this with q | q
    ·exact q.symm
    ·exact absurd x (h.1 b q)
  subst e
  rw [sorted_unique (List.Perm.cons_inv p) h.2 k.2]
theorem holds_of_blockT {w : World} {g : Nat} {cur : Array Value} {e : TypeId} {l : List G.Tie} (hb : w.heap[g]? = some (.cells cur e (0, 0))) (ht : cur.toList.take (l.length * 2) = l.flatMap encT) : HoldsK encT 2 w g 0 l.toArray := by
 unfold HoldsK
 rw [flat_eq]
 intro j hj
 have hj' : j < l.length * 2 := by
  have : j < (l.flatMap encT).length := by simpa using hj
  rwa [flat_len] at this
 refine ⟨?_, by simp [World.frozen?, hb]⟩
 have h1 : (cur.toList.take (l.length * 2))[j]? = (l.flatMap encT)[j]? := by rw [ht]
 rw [List.getElem?_take_of_lt hj'] at h1
 simp only [World.cell?, hb, Nat.zero_add]
 simp only [Option.isSome_none, Bool.false_eq_true, if_false]
 rw [← Array.getElem?_toList, h1]
 have hj2 : j < (l.flatMap encT).length := by rw [flat_len]; exact hj'
 rw [getElem!_pos _ j (by simpa using hj2)]
 simp [hj2]
theorem take_putCellsT (cur : Array Value) (ts : List Value) (h : ts.length ≤ cur.size) : (putCells id 0 ts.toArray cur).toList.take ts.length = ts := by
 apply List.ext_getElem?
 intro j
 by_cases hj : j < ts.length
 ·rw [List.getElem?_take_of_lt hj, Array.getElem?_toList]
  simp [putCells, hj, show j < cur.size by omega]
 ·rw [List.getElem?_take_eq_none (by omega), List.getElem?_eq_none (by omega)]
theorem sort_ties {w : World} {g cap : Nat} {cur : Array Value} {l : List G.Tie} (hb : w.heap[g]? = some (.cells cur 51 (0, 0))) (hc : l.length ≤ cap) (hs : cur.size = cap * 2) (ht : cur.toList.take (l.length * 2) = l.flatMap encT) (hl : l.length < 4611686018427387904) :
  Calls Tryd.prog 70 #[.slice (some ⟨g, 0, none⟩) l.length cap, .func (.func 71) #[] #[]] w fun e w' =>
   e = .returned (.tuple #[]) ∧ (∃ cur', w'.heap[g]? = some (.cells cur' 51 (0, 0)) ∧ cur'.size = cap * 2 ∧ cur'.toList.take (l.length * 2) = (sortT l).flatMap encT) ∧ w.grownBy w' (some g) := by
 have eg : ∀ args w, (callFunc 71 args).run Tryd.prog w = .ok (.enter 71 args) w := enters_of Tryd.func71 (by kernel_rfl) rfl
 have hblk : g < w.heap.size := (Array.getElem?_eq_some_iff.1 hb).1
 have hcon := AnyQ.slices_SortFunc Tryd.sortTies 2 Tryd.isAgg51 Tryd.sizeOf51 encT (fun _ => rfl) (fun x v hv => by simp [encT] at hv; rcases hv with rfl | rfl <;> rfl) cfT swoT 71 #[] g 0 cap l.toArray w eg (fun _ _ _ _ x y => order_at x y _) (holds_of_blockT hb ht) hblk (by simpa using hl)
 change Calls Tryd.prog 70 _ _ _ at hcon
 rw [List.size_toArray] at hcon
 refine hcon.mono ?_
 rintro e w' ⟨rfl, d', n, os, hp, hsd, rfl⟩
 obtain ⟨ps, _, pp⟩ := hp
 have ls : d'.toList.length = l.length := by simpa using ps
 have perm : d'.toList.Perm l := by
  have a : (d'.extract 0 l.toArray.size) = d' := by rw [← ps]; simp
  rw [show (0 : Nat) = 0 from rfl] at pp
  have b : (d'.extract 0 l.length) = d' := by simpa using a
  have c : (l.toArray.extract 0 l.length).toList = l := by simp
  simpa [b, c] using pp
 have srt : d'.toList.Pairwise fun a b => ¬ tlt b a := by
  rw [List.pairwise_iff_getElem]
  intro i j hi hj hij
  have := hsd i j (Nat.zero_le _) hij (by simpa [ls] using hj)
  rw [lt_T, decide_eq_false_iff_not] at this
  have gi : d'[i]! = d'.toList[i] := by simp [getElem!_pos d' i (by simpa using hi)]
  have gj : d'[j]! = d'.toList[j] := by simp [getElem!_pos d' j (by simpa using hj)]
  rw [gi, gj] at this
  exact this
 have ed : d'.toList = sortT l := sorted_unique (perm.trans (sortT_perm l).symm) srt (sortT_sorted l)
 have fl : flatK encT 2 d' = ((sortT l).flatMap encT).toArray := by
  have := flat_eq d'.toList
  rwa [Array.toArray_toList, ed] at this
 have sl : ((sortT l).flatMap encT).length = l.length * 2 := by rw [flat_len, (sortT_perm l).length_eq]
 refine ⟨rfl, ⟨putCells id 0 ((sortT l).flatMap encT).toArray cur, ?_, by simp [putCells, hs], ?_⟩, ?_⟩
 ·unfold sortWorldK putRowK
  rw [fl]
  rw [heap_grow_old _ _ (by simpa using hblk)]
  simp [putRow, mapBlock, Sort.ahead, Array.getElem?_modify, hb, onCells]
 ·rw [← sl]
  exact take_putCellsT cur _ (by rw [sl, hs]; exact Nat.mul_le_mul_right 2 hc)
 ·unfold sortWorldK putRowK
  refine ⟨rfl, rfl, rfl, by simp, fun k hk hne => ?_⟩
  rw [heap_grow_old _ _ (by simpa using hk)]
  have : g ≠ k := fun e => hne (by rw [e])
  simp [putRow, mapBlock, Sort.ahead, Array.getElem?_modify, this]
end Go.Proofs.YtjkeagcenmmknaaDoor.P
