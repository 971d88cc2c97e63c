/- All ways between two knots, sorted: slices.SortFunc at rows of numbers, and impl's (Net).all. -/
import Derived.Test.YtddadihobjinhaaBword
import Derived.Test.YtddadihobjinhaaBway
import Derived.Test.YtddadihobjinhaaSpw
import Derived.Shelf.SlSortCmp.NoneTotal
namespace Go.Proofs.Ytddadihobjinhaa.P
set_option linter.unusedSimpArgs false
set_option linter.unusedVariables false
open Go.RowKit Go.Lib Go.Sort Go.Proofs.YtddadihobjinhaaW.PrintWords Go.Proofs.YtddadihobjinhaaW.PrintLast Go.Proofs.YtddadihobjinhaaW.PrintMore Go.Proofs.Ytddadihobjinhaa.G
def cfI (xs : List (List Int)) (i j : Nat) : Int := cfW (xs.getD i []) (xs.getD j [])
theorem lt_I (xs : List (List Int)) (i j : Nat) : ltOf (cfI xs) i j = decide (wlt (xs.getD i []) (xs.getD j [])) := by
  unfold ltOf cfI
  exact decide_eq_decide.2 (cfW_neg _ _)
theorem swoI (xs : List (List Int)) : SWO (ltOf (cfI xs)) where
  irrefl x := by rw [lt_I]; exact decide_eq_false (wlt_irrefl _)
  trans x y z h1 h2 := by
    rw [lt_I, decide_eq_true_eq] at *
    exact wlt_trans h1 h2
  ntrans x y z h1 h2 := by
    rw [lt_I, decide_eq_false_iff_not] at *
    intro h
    rcases wlt_tri (xs.getD x []) (xs.getD y []) with a | a | a
    · exact h1 a
    · rw [a] at h; exact h2 h
    · exact h2 (wlt_trans a h)
theorem perm_range {n : Nat} {d : List Nat} (h : d.Perm (List.range n)) {α : Type} (xs : List α) (z : α) (hx : xs.length = n) : (d.map fun i => xs.getD i z).Perm xs := by
  refine (h.map _).trans (List.Perm.of_eq ?_)
  apply List.ext_getElem
  · simp [hx]
  · intro i h1 h2
    simp [List.getD_eq_getElem?_getD, h2]
/-- Behind the sort the row holds the same rows, sorted. -/
theorem sort_S {w : World} {base : Nat} {A : Option Addr} {c : Nat} {xs : List (List Int)} (HS : Kd.S (Kd.slice 3 (Kd.int .i64)) 25 w base (fun _ => True) (.slice A xs.length c) xs) (hl : xs.length < 4611686018427387904) :
    Calls Try.prog 76 #[.slice A xs.length c, .func (.func 77) #[] #[]] w fun e w' =>
      e = .returned (.tuple #[]) ∧ Kd.S (Kd.slice 3 (Kd.int .i64)) 25 w' base (fun _ => True) (.slice A xs.length c) (sortW xs) ∧ w.grownBy w' (Value.slice A xs.length c).ownBlock ∧ Below base w w' := by
  rcases Nat.eq_zero_or_pos xs.length with h0 | h0
  · obtain rfl := List.eq_nil_of_length_eq_zero h0
    refine (AnyF.slices_SortFunc_none { Try.sortWays with } A c (.func (.func 77) #[] #[]) w).mono ?_
    rintro e w' ⟨rfl, rfl⟩
    have e0 : sortW ([] : List (List Int)) = [] := by unfold sortW; simp
    exact ⟨rfl, by rw [e0]; exact HS, World.grownBy.refl _ _, Below.refl _ _⟩
  obtain ⟨f, hok, inner, ⟨hlen, hown⟩, hr⟩ := HS
  rw [List.length_zipIdx] at hlen hown
  have hr0 := hr.1
  rw [List.length_zipIdx] at hr0
  rcases hown with ⟨hv, hn⟩ | ⟨g, cap, cur, hv, hg, hh, hnc, hm, hsz, ht⟩
  · exact absurd hn (by omega)
  injection hv with hA hn hc
  subst hA; subst hc
  have hsz1 : ∀ f, (Kd.tag f (Kd.slice 3 (Kd.int .i64))).sz = 1 := fun _ => rfl
  rw [hsz1] at hlen hsz ht hr hr0
  rw [Nat.mul_one] at hlen hsz ht hr0
  have hblk : g < w.heap.size := (Array.getElem?_eq_some_iff.1 hh).1
  have hfr : ∀ q, (Value.slice (some ⟨g, 0, none⟩) xs.length c).ownBlock = some q ↔ q = g := fun q => by simp [Value.ownBlock, eq_comm]
  -- each element: a row of its own
  have hel : ∀ j, j < xs.length → ∃ v, inner[j]? = some v ∧ Kd.R (Kd.int .i64) 3 w base (fun k => k ≠ g ∧ f k = j) v (xs.getD j []) := by
    intro j hj
    have h1 := hr.2 j (xs.getD j [], j) (by rw [List.getElem?_zipIdx, Nat.zero_add, List.getElem?_eq_getElem hj]; simp [List.getD_eq_getElem?_getD, hj])
    rw [Nat.mul_one] at h1
    have hj' : j < inner.length := by omega
    obtain ⟨v, e, hv⟩ := h1
    have e2 : (inner.drop j).take 1 = [inner[j]] := by rw [List.drop_eq_getElem_cons hj']; rfl
    rw [e2] at e
    injection e with e
    refine ⟨v, by rw [List.getElem?_eq_getElem hj', e], Kd.R_mono hv (fun k hk => ⟨fun e => hk.1.2 (by simp [Value.ownBlock, e]), hk.2⟩)⟩
  let enc : Nat → Value := fun i => inner.getD i (.slice none 0 0)
  have encAt : ∀ j v, inner[j]? = some v → enc j = v := fun j v h => by simp [enc, List.getD_eq_getElem?_getD, h]
  have hel2 : ∀ j, ∃ v, enc j = v ∧ Kd.R (Kd.int .i64) 3 w base (fun k => k ≠ g ∧ (j < xs.length → f k = j)) v (xs.getD j []) := by
    intro j
    by_cases hj : j < xs.length
    · obtain ⟨v, e, h⟩ := hel j hj
      exact ⟨v, encAt j v e, Kd.R_mono h (fun k hk => ⟨hk.1, fun _ => hk.2⟩)⟩
    · refine ⟨.slice none 0 0, ?_, ?_⟩
      · simp [enc, List.getD_eq_getElem?_getD, List.getElem?_eq_none (show inner.length ≤ j by omega)]
      · rw [show xs.getD j [] = [] from by simp [List.getD_eq_getElem?_getD, List.getElem?_eq_none (show xs.length ≤ j by omega)]]; exact Kd.R_nil _ _ _ _ _
  have h1c : OneCell enc := fun i => by
    obtain ⟨v, e, h⟩ := hel2 i
    rw [e]; exact (Kd.R_val h).2
  have eg : ∀ args w, (callFunc 77 args).run Try.prog w = .ok (.enter 77 args) w := enters_of Try.func77 (by kernel_rfl) rfl
  have hH : Holds enc w g 0 (List.range xs.length).toArray := by
    intro j hj
    have hj : j < xs.length := by simpa using hj
    have hj2 : j < inner.length := by omega
    have e1 : (List.range xs.length).toArray[j]! = j := by rw [getElem!_pos _ _ (by simpa using hj)]; simp
    rw [e1]
    obtain ⟨v, e, _⟩ := hel j hj
    refine ⟨?_, by simp [World.frozen?, hh]⟩
    rw [encAt j v e]
    have h1 : (cur.toList.take xs.length)[j]? = inner[j]? := by rw [ht]
    rw [List.getElem?_take_of_lt hj] at h1
    simp only [World.cell?, hh, Nat.zero_add, Option.isSome_none, Bool.false_eq_true, if_false]
    rw [← Array.getElem?_toList, h1, e]
  have grw : ∀ (m : Nat) (os : Array Obj) (dk : Array Nat), w.grownBy (sortWorld enc w g 0 m dk os) (some g) := by
    intro m os dk
    unfold sortWorld
    refine ⟨rfl, rfl, rfl, by simp, fun k hk hne => ?_⟩
    rw [heap_grow_old _ _ (by simpa using hk)]
    have : g ≠ k := fun e => hne (by rw [e])
    simp [putRow, mapBlock, Sort.ahead, Array.getElem?_modify, this]
  have hcmp : CmpLays1 Try.prog 77 #[] enc (cfI xs) g 0 (List.range xs.length).toArray.size w := by
    intro m os dk _ x y
    obtain ⟨vx, ex, hx⟩ := hel2 x
    obtain ⟨vy, ey, hy⟩ := hel2 y
    rw [ex, ey]
    have hx2 := Kd.R_grown hx (grw m os dk) (fun k hk e => by injection e with e; exact hk.1 e)
    have hy2 := Kd.R_grown hy (grw m os dk) (fun k hk e => by injection e with e; exact hk.1 e)
    obtain ⟨Ax, cx, e1, l1, r1⟩ := Kd.R_reads hx2
    obtain ⟨Ay, cy, e2, l2, r2⟩ := Kd.R_reads hy2
    subst e1; subst e2
    exact wayOrder_at Ax cx (xs.getD x []) Ay cy (xs.getD y []) _ r1 l1 r2 l2
  have hcon := Any.slices_SortFunc Try.sortWays enc h1c (cfI xs) (swoI xs) 77 #[] g 0 c (List.range xs.length).toArray w eg hcmp hH hblk (by simpa using hl)
  change Calls Try.prog 76 _ _ _ at hcon
  rw [List.size_toArray, List.length_range] at hcon
  refine hcon.mono ?_
  rintro e w' ⟨rfl, d', m, os, hp, hsd, rfl⟩
  obtain ⟨ps, _, pp⟩ := hp
  have ls : d'.toList.length = xs.length := by simpa using ps
  have perm : d'.toList.Perm (List.range xs.length) := by
    have a : (d'.extract 0 (List.range xs.length).toArray.size) = d' := by rw [← ps]; simp
    have b : (d'.extract 0 xs.length) = d' := by simpa using a
    have c : ((List.range xs.length).toArray.extract 0 xs.length).toList = List.range xs.length := by simp
    simpa [b, c] using pp
  have nd : d'.toList.Nodup := perm.nodup_iff.2 List.nodup_range
  have rng : ∀ j (h : j < d'.toList.length), d'.toList[j] < xs.length := fun j h => List.mem_range.1 (perm.mem_iff.1 (List.getElem_mem h))
  have ex : sortW xs = d'.toList.map (fun i => xs.getD i []) := by
    have pm := perm_range perm xs [] rfl
    refine sortedW_unique ((sortW_perm xs).trans pm.symm) (sortW_sorted xs) ?_
    rw [List.pairwise_map, List.pairwise_iff_getElem]
    intro i j hi hj hij
    have := hsd i j (Nat.zero_le _) hij (by simpa [ls] using hj)
    rw [lt_I, decide_eq_false_iff_not] at this
    have gi : d'[i]! = d'.toList[i] := by simp [getElem!_pos d' i (by simpa using hi)]
    have gj : d'[j]! = d'.toList[j] := by simp [getElem!_pos d' j (by simpa using hj)]
    rw [gi, gj] at this
    exact this
  have sl : (sortW xs).length = xs.length := (sortW_perm xs).length_eq
  have hblk2 : (sortWorld enc w g 0 m d' os).heap[g]? = some (.cells (putCells enc 0 d' cur) 25 (0, 0)) := by
    unfold sortWorld
    rw [heap_grow_old _ _ (by simpa using hblk)]
    simp [putRow, mapBlock, Sort.ahead, Array.getElem?_modify, hh, onCells]
  have dsz : d'.size = xs.length := by simpa using ls
  have hcs : (putCells enc 0 d' cur).toList.take xs.length = d'.toList.map enc := by
    apply List.ext_getElem?
    intro j
    by_cases hj : j < xs.length
    · rw [List.getElem?_take_of_lt hj, Array.getElem?_toList]
      have hj2 : j < cur.size := by omega
      have hj3 : j < d'.size := by omega
      simp [putCells, hj2, hj3]
    · rw [List.getElem?_take_eq_none (by omega), List.getElem?_eq_none (by simp; omega)]
  refine ⟨rfl, ⟨fun k => d'.toList.idxOf (f k), fun k hk => trivial, d'.toList.map enc, ⟨?_, .inr ⟨g, c, putCells enc 0 d' cur, ?_, hg, hblk2, ?_, ?_, ?_, ?_⟩⟩, ?_, fun j p hj => ?_⟩, ?_, ?_⟩
  · rw [List.length_zipIdx, sl, hsz1]; simp [dsz]
  · rw [List.length_zipIdx, sl]
  · rw [List.length_zipIdx, sl]; exact hnc
  · exact hm
  · rw [hsz1, Nat.mul_one]; simp [putCells]; exact hsz
  · rw [List.length_zipIdx, sl, hsz1, Nat.mul_one]; exact hcs
  · rw [List.length_zipIdx, sl, hsz1]; simp [dsz]
  · rw [hsz1, Nat.mul_one]
    rw [List.getElem?_zipIdx, Nat.zero_add] at hj
    obtain ⟨x, hx, rfl⟩ := Option.map_eq_some_iff.1 hj
    have hj2 : j < xs.length := by
      have := (List.getElem?_eq_some_iff.1 hx).1
      omega
    have hj3 : j < d'.toList.length := by omega
    rw [ex, List.getElem?_map, List.getElem?_eq_getElem hj3] at hx
    have hx : xs.getD d'.toList[j] [] = x := by simpa using hx
    obtain ⟨v, ev, hv⟩ := hel2 d'.toList[j]
    have hv2 := Kd.R_grown hv (grw m os d') (fun k hk e => by injection e with e; exact hk.1 e)
    rw [hx] at hv2
    have e2 : ((d'.toList.map enc).drop j).take 1 = [v] := by
      rw [List.drop_eq_getElem_cons (by simpa using hj3)]
      simp [ev] at ev ⊢
    rw [e2]
    refine ⟨v, rfl, Kd.R_mono hv2 (fun k hk => ⟨⟨trivial, fun e => ?_⟩, ?_⟩)⟩
    · have : k = g := by simpa [Value.ownBlock] using e
      exact hk.1 this
    · show d'.toList.idxOf (f k) = j
      rw [hk.2 (rng j hj3)]
      exact List.Nodup.idxOf_getElem nd j hj3
  · have := grw m os d'
    simpa [Value.ownBlock] using this
  · have hgr := grw m os d'
    exact ⟨hgr.os, hgr.tape, hgr.output, hgr.size, fun k hk => hgr.block k (Nat.lt_trans (Nat.lt_of_lt_of_le hk hg) hblk) (fun e => by injection e with e; omega)⟩
def allF (k : Nat) (n : Int) (E : List S53) (a b : Int) : Option (List (List Int)) := (impl_Net_ways.f k n E [a] b []).bind fun t => if t.length < 4611686018427387904 then some (sortW t) else none
theorem allF_mono : ∀ a0 a1 a2 a3 k, LeO (allF k a0 a1 a2 a3) (allF (k + 1) a0 a1 a2 a3) := by
  intro a0 a1 a2 a3 k
  unfold allF
  exact LeO.bind (impl_Net_ways.mono _ _ _ _ _ _) (fun _ => LeO.refl _)
set_option maxHeartbeats 8000000 in
set_option maxRecDepth 100000 in
theorem all_calls (k : Nat) (a0_0 : Int) (A0_1 : Option Addr) (c0_1 : Nat) (l0_1 : List (S53)) (a1 : Int) (a2 : Int) (r : List (List Int)) (w : World) (hr0_1 : Kd.C k53 w A0_1 l0_1.length l0_1) (hc0_1 : l0_1.length ≤ c0_1) (h : allF k a0_0 l0_1 a1 a2 = some r) :
    Calls Try.prog 52 #[.agg #[.int .i64 a0_0, .slice A0_1 l0_1.length c0_1], .int .i64 a1, .int .i64 a2] w fun e w' => ∃ v0_ : Value, e = .returned (v0_) ∧ Kd.S (Kd.slice 3 (Kd.int .i64)) 25 w' w.heap.size (fun _ => True) v0_ r ∧ Below w.heap.size w w' := by
  unfold allF at h
  obtain ⟨y1, hy1⟩ : ∃ y_ : List Int, y_ = [a1] := ⟨_, rfl⟩
  obtain ⟨y2, hy2⟩ : ∃ y_ : List (List Int), y_ = [] := ⟨_, rfl⟩
  rw [← hy1, ← hy2] at h
  obtain ⟨t, ht, h⟩ := Option.bind_eq_some_iff.mp h
  by_cases c : t.length < 4611686018427387904
  · rw [if_pos c] at h
    obtain rfl := Option.some.inj h
    have hu := Try.underlying30
    have HR := Aside0.mk hr0_1
    have HC := Aside0.mk hc0_1
    have HT := Aside0.mk ht
    have HL := Aside0.mk c
    have N1 := Aside0.mk hy1
    have N2 := Aside0.mk hy2
    clear hr0_1 hc0_1 ht c hy1 hy2 h
    have HB := Aside0.mk (Below.refl w.heap.size w)
    go_enter Try.func52, Try.ntmps52
    go_wp2_with (first
      | ((with_reducible refine gate_dst (N := 3) rfl ?_); refine G.be 3 #[.int .i64 a0_0, .slice A0_1 l0_1.length c0_1] 30 ?_; intro gb hg w1 hbox hb; have n0_ := Aside0.mk (below_step (G.cB HB.out) hb); have n1_ := Aside0.mk hbox; clear HB; revert n0_ n1_; intro HB BK; clear hb hbox hg; have hcza_0 : w1.cell? ⟨gb, 0, none⟩ = some (.int .i64 a0_0) := (blk_cell BK.out 0).trans rfl; have hcza_1 : w1.cell? ⟨gb, 1, none⟩ = some (.slice A0_1 l0_1.length c0_1) := (blk_cell BK.out 1).trans rfl; have hfza_0 := blk_frozen BK.out 0; have hfza_1 := blk_frozen BK.out 1)
      | ((with_reducible refine gate_dst (N := 10) rfl ?_); refine Kd.R_lit (Kd.int .i64) _ 3 ?hg (N := 10) ?hd (xs := ([a1] : List Int)) (inner := [.int .i64 a1]) (ok := fun _ => True) (okp := fun _ => True) ?hr ?hp (fun _ hk => hk) trivial (Below.refl _ _) (Nat.le_refl _) (by simp) ?_; (case hd => rfl); (case hg => rfl); (case hr => first | (go_simp; done) | (go_simp; rfl)); (case hp => exact (Reps.one (show Kd.M (Kd.int .i64) _ _ _ a1 [.int .i64 a1] from rfl) (Reps.none _ _))); intro v10 w2 ho hb hg_ hnew_; clear hg_ hnew_; rw [← N1.out] at ho; have n0_ := Aside0.mk (Kd.R_lower ho (below_size (G.cB HB.out))); have n1_ := Aside0.mk (below_step (G.cB HB.out) hb); clear HB; revert n0_ n1_; intro HO10 HB; clear hb ho; obtain ⟨Ao, co, eo⟩ := Kd.R_slice HO10.out; subst eo)
      | ((with_reducible refine gate_dst (N := 12) rfl ?_); refine Kd.S_lit (Kd.slice 3 (Kd.int .i64)) _ 25 ?hg (N := 12) ?hd (xs := ([] : List (List Int))) (inner := []) (ok := fun _ => True) (okp := fun _ => True) ?hr ?hp (fun _ hk => hk) trivial (Below.refl _ _) (Nat.le_refl _) (by simp) ?_; (case hd => rfl); (case hg => rfl); (case hr => first | (go_simp; done) | (go_simp; rfl)); (case hp => exact (Reps.none _ _)); intro v12 w3 ho hb hg_ hnew_; clear hg_ hnew_; rw [← N2.out] at ho; have n0_ := Aside0.mk (Kd.S_lower ho (below_size (G.cB HB.out))); have n1_ := Aside0.mk (below_step (G.cB HB.out) hb); have n2_ := Aside0.mk (Kd.R_below HO10.out hb); clear HB HO10; revert n0_ n1_ n2_; intro HO12 HB HO10; clear hb ho)
      | ((with_reducible refine gate_callee (f := 75) rfl ?_); refine goesL_ (some 13) rfl rfl Try.func75 (by kernel_rfl) rfl #[.agg #[.int .i64 a0_0, .slice A0_1 l0_1.length c0_1], .slice Ao y1.length co, .int .i64 a2, v12] rfl (G.ar) ?_; (with_reducible refine (impl_Net_ways.calls k a0_0 A0_1 c0_1 l0_1 Ao co y1 a2 v12 y2 t w _ ?side1 ?side2 ?side3 ?side4 HT.out).mono ?_); (case side1 => exact HR.out); (case side2 => exact HC.out); (case side3 => exact (G.cB HB.out)); (case side4 => exact ⟨HO10.out, HO12.out⟩); rintro e w5 ⟨v13, rfl, ho, hb, hg_, hat_⟩; refine ⟨_, rfl, ?_⟩; have n0_ := Aside0.mk ho; have n1_ := Aside0.mk hb; clear HB HO10 HO12; revert n0_ n1_; intro HO13 HB; clear hb ho hg_ hat_; obtain ⟨As, cs, es⟩ := Kd.S_slice HO13.out; subst es)
      | (go_at_call 76; (with_reducible refine (sort_S HO13.out HL.out).mono ?_); rintro e w6 ⟨rfl, ho, hg, hb⟩; have n0_ := Aside0.mk ho; have n1_ := Aside0.mk (Below.trans HB.out hb); clear HB HO13; revert n0_ n1_; intro HO13 HB; clear ho hg hb))
    go_ret
    exact ⟨_, by first | rfl | (simp [errW_none, errW_some] <;> rfl), HO13.out, HB.out⟩
  · rw [if_neg c] at h
    exact absurd h (by simp)
end Go.Proofs.Ytddadihobjinhaa.P
