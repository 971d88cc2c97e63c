/- The proof's parts ahead of the row: of no condition of their own. -/
import Derived.Test.YtjkeagcenmmknaaDoorZFnPairTie0
import Derived.Test.YtjkeagcenmmknaaDoorProg
import Derived.Deep.WholeRow
import Derived.Shelf.Spec.TrailingZeros
set_option linter.unusedVariables false
set_option linter.unusedSimpArgs false
namespace Go.Proofs.YtjkeagcenmmknaaDoor.P
open Go.RowKit Go.Proofs.YtjkeagcenmmknaaDoorW.PrintWords Go.Proofs.YtjkeagcenmmknaaDoorW.PrintLast Go.Proofs.YtjkeagcenmmknaaDoorW.PrintMore Go.Proofs.YtjkeagcenmmknaaDoor.G
set_option maxHeartbeats 1000000 in
theorem tz64_core (x k idx : Nat) (w : World) (hx0 : ((x : Int) == 0) = false)
  (key : IntKind.u64.wrap (bits BinOp.and IntKind.u64 (x : Int) (IntKind.u64.wrap (-(x : Int))) * 285870213051353865) / 288230376151711744 = (idx : Int))
  (hi : idx < 64) (hk : k < 64) (hcell : w.cell? ⟨1, idx, none⟩ = some (.int .u8 k)) :
  Calls Tryd.prog 91 #[.int .u64 x] w fun e w' => e = .returned (.int .i64 k) ∧ w' = w := by
 go_enter Tryd.func91, Tryd.ntmps91
 go_wp2_with (simp only [key])
 go_ret
 exact ⟨rfl, rfl⟩
theorem tz64_at (x : Nat) (hx : x < 18446744073709551616) (hx0 : x ≠ 0) (w : World) (hT : TabAt 1 Lib.deBruijn64tab w) :
  Calls Tryd.prog 91 #[.int .u64 x] w fun e w' => e = .returned (.int .i64 (Lib.ctz 64 x)) ∧ w' = w := by
 obtain ⟨hlow, hk⟩ := Lib.lowest_bit 64 x hx0 hx
 obtain ⟨hi, htab⟩ := Lib.deBruijn64_at _ hk
 have hcell := hT _ hi
 rw [htab] at hcell
 exact tz64_core x _ _ w (by simp; omega) (tz64_key x _ hx hx0 hlow) hi hk hcell
theorem tz_at (x : Nat) (hx : x < 18446744073709551616) (hx0 : x ≠ 0) (w : World) (hT : TabAt 1 Lib.deBruijn64tab w) :
  Calls Tryd.prog 74 #[.int .u64 x] w fun e w' => e = .returned (.int .i64 (Lib.ctz 64 x)) ∧ w' = w := by
 have c64 := tz64_at x hx hx0 w hT
 have hw : IntKind.u64.wrap (x : Int) = (x : Int) := by rw [IntKind.wrap_u64]; omega
 go_enter Tryd.func74, Tryd.ntmps74
 go_wp2_with (fail)
 refine c64.mono ?_
 rintro e w1 ⟨rfl, hw1⟩
 rw [hw1]
 go_wp2
 go_ret
 exact ⟨rfl, rfl⟩
def zTie : G.Tie := ⟨0, 0⟩
def kTie : Kd G.Tie := Kd.iso (Kd.pair (Kd.int .i64) (Kd.int .i64)) (fun x : G.Tie => (x.f0, x.f1))
def rdTie (xs : List G.Tie) (i : Int) : G.Tie := xs.getD i.toNat zTie
theorem kTie_open {w : World} {x : G.Tie} {cs : List Value} (h : kTie.K w x cs) : cs = [.int .i64 x.f0, .int .i64 x.f1] := by
 obtain ⟨_, _, rfl, rfl, rfl⟩ := h
 exact rfl
theorem atTie {w : World} {A : Option Addr} {n : Nat} {xs : List G.Tie} (h : Kd.C kTie w A n xs) (i : Int) (h0 : 0 ≤ i) (h1 : i < n) : ∃ ad , A = some ad ∧ w.cell? (ad.add (i.toNat * 2)) = some (.int .i64 (rdTie xs i).f0) ∧ w.cell? ⟨(ad.add (i.toNat * 2)).block, (ad.add (i.toNat * 2)).off + 1, none⟩ = some (.int .i64 (rdTie xs i).f1) := by
 obtain ⟨ad, c, e, _, hK, hc0⟩ := Kd.C_get h zTie i h0 h1
 have hc : ∀ j u, c[j]? = some u → w.cell? (ad.add (i.toNat * 2 + j)) = some u := hc0
 obtain rfl := kTie_open hK
 exact ⟨ad, e, hc 0 _ rfl, by rw [← add_field _ _ 1 (by omega)]; exact hc 1 _ rfl⟩
def szCells (T : List Int) : Array Value := (T.map (Value.int .i64)).toArray
set_option maxRecDepth 100000 in
theorem sz_zero : Tryd.zeroCells83 = szCells (List.replicate 256 0) := by kernel_rfl
def szTwo (t : G.Tie) : Nat := 2 ^ t.f0.toNat ||| 2 ^ t.f1.toNat
def szMax (a b : Int) : Int := if a < b then b else a
def szStep (s : Nat) (T : List Int) (t : G.Tie) : List Int :=
 if t.f0 = (Lib.ctz 64 s : Int) ∧ s &&& szTwo t = szTwo t then T.set s (szMax (rd T s) (wrap64 (rd T ((s ^^^ szTwo t : Nat) : Int) + 1))) else T
def szRound (l : List G.Tie) (s : Nat) (T : List Int) : List Int := l.foldl (szStep s) (T.set s (rd T ((s &&& (s - 1) : Nat) : Int)))
def szT (l : List G.Tie) : Nat → List Int
 | 0 => List.replicate 256 0
 | n + 1 => szRound l (n + 1) (szT l n)
theorem szStep_len (s : Nat) (T : List Int) (t : G.Tie) : (szStep s T t).length = T.length := by unfold szStep; split <;> simp
theorem szFold_len (s : Nat) (l : List G.Tie) : ∀ T : List Int, (l.foldl (szStep s) T).length = T.length := by
 induction l with
 | nil => intro T; rfl
 | cons t r ih => intro T; rw [List.foldl_cons, ih, szStep_len]
theorem szT_len (l : List G.Tie) : ∀ n, (szT l n).length = 256
 | 0 => List.length_replicate
 | n + 1 => by show (szRound l (n + 1) (szT l n)).length = 256; unfold szRound; rw [szFold_len, List.length_set, szT_len l n]
theorem sz_at {T : List Int} {i : Nat} (h : i < T.length) : (szCells T)[i]? = some (.int .i64 (rd T (i : Int))) := by
 unfold szCells rd
 simp [h, List.getD_eq_getElem?_getD]
theorem sz_set (T : List Int) (i : Nat) (x : Int) : (szCells T).setIfInBounds i (.int .i64 x) = szCells (T.set i x) := by
 unfold szCells
 simp [List.map_set]
theorem wraps_i64 (n : Int) (h₀ : 0 ≤ n) (h₁ : n < 2 ^ 62) : IntKind.i64.wrap n = n := by rw [IntKind.wrap_i64]; omega
theorem sz_and (a b : Nat) (ha : a < 256) (hb : b < 256) : bits .and .i64 (a : Int) (b : Int) = ((a &&& b : Nat) : Int) :=
 (bits_nat .i64 62 (by decide) wraps_i64 a b (by omega) (by omega)).1
theorem sz_or (a b : Nat) (ha : a < 256) (hb : b < 256) : bits .or .i64 (a : Int) (b : Int) = ((a ||| b : Nat) : Int) :=
 (bits_nat .i64 62 (by decide) wraps_i64 a b (by omega) (by omega)).2
theorem sz_pow (a : Int) (h0 : 0 ≤ a) (h : a < 8) : wrap64 (2 ^ a.toNat) = ((2 ^ a.toNat : Nat) : Int) ∧ 2 ^ a.toNat < 256 := by
 have e : a.toNat < 8 := by omega
 generalize a.toNat = n at e ⊢
 have h : ∀ n : Nat, n < 8 → 2 ^ n < 256 := by decide
 have hn := h n e
 refine ⟨?_, hn⟩
 rw [show ((2 : Int) ^ n) = ((2 ^ n : Nat) : Int) from by simp]
 generalize 2 ^ n = m at hn ⊢
 unfold wrap64
 omega
theorem szTwo_lt (t : G.Tie) (h : 0 ≤ t.f0 ∧ t.f0 < t.f1 ∧ t.f1 < 8) : szTwo t < 256 :=
 Nat.or_lt_two_pow (n := 8) (sz_pow t.f0 h.1 (by omega)).2 (sz_pow t.f1 (by omega) h.2.2).2
theorem sz_two (t : G.Tie) (h : 0 ≤ t.f0 ∧ t.f0 < t.f1 ∧ t.f1 < 8) : bits .or .i64 (wrap64 (2 ^ t.f0.toNat)) (wrap64 (2 ^ t.f1.toNat)) = (szTwo t : Int) := by
 obtain ⟨a1, a2⟩ := sz_pow t.f0 h.1 (by omega)
 obtain ⟨b1, b2⟩ := sz_pow t.f1 (by omega) h.2.2
 rw [a1, b1, sz_or _ _ a2 b2]
 rfl
theorem sz_andNot (a b : Nat) (ha : a < 256) (hb : b < 256) (h : a &&& b = b) : bits .andNot .i64 (a : Int) (b : Int) = ((a ^^^ b : Nat) : Int) := by
 have ea : (BitVec.ofInt 64 (a : Int)).toNat = a := by
  rw [BitVec.ofInt_natCast, BitVec.toNat_ofNat]; exact Nat.mod_eq_of_lt (by omega)
 have eb : (BitVec.ofInt 64 (b : Int)).toNat = b := by
  rw [BitVec.ofInt_natCast, BitVec.toNat_ofNat]; exact Nat.mod_eq_of_lt (by omega)
 show IntKind.i64.wrap ((BitVec.ofInt 64 (a : Int) &&& ~~~BitVec.ofInt 64 (b : Int)).toNat : Int) = _
 have e : (BitVec.ofInt 64 (a : Int) &&& ~~~BitVec.ofInt 64 (b : Int)).toNat = a ^^^ b := by
  rw [BitVec.toNat_and, BitVec.toNat_not, ea, eb]
  apply Nat.eq_of_testBit_eq
  intro j
  rw [Nat.testBit_and, show 2 ^ 64 - 1 - b = 2 ^ 64 - (b + 1) from by omega, Nat.testBit_two_pow_sub_succ (by omega), Nat.testBit_xor]
  have hj := congrArg (fun n => n.testBit j) h
  simp only [Nat.testBit_and] at hj
  by_cases q : j < 64
  ·cases ha' : a.testBit j <;> cases hb' : b.testBit j <;> simp_all
  ·have a0 : a.testBit j = false := Nat.testBit_lt_two_pow (Nat.lt_of_lt_of_le ha (Nat.le_trans (by decide : 256 ≤ 2 ^ 8) (Nat.pow_le_pow_right (by decide) (by omega))))
   have b0 : b.testBit j = false := Nat.testBit_lt_two_pow (Nat.lt_of_lt_of_le hb (Nat.le_trans (by decide : 256 ≤ 2 ^ 8) (Nat.pow_le_pow_right (by decide) (by omega))))
   simp [a0, b0]
 rw [e]
 have : a ^^^ b < 2 ^ 8 := Nat.xor_lt_two_pow ha hb
 exact wraps_i64 _ (by omega) (by omega)
theorem sz_xor_lt (a b : Nat) (ha : a < 256) (hb : b < 256) : a ^^^ b < 256 := Nat.xor_lt_two_pow (n := 8) ha hb
theorem sz_next (l0 : List G.Tie) (i : Nat) (hi : i < l0.length) (s : Nat) (T1 : List Int) : (l0.take (i + 1)).foldl (szStep s) T1 = szStep s ((l0.take i).foldl (szStep s) T1) l0[i] := by
 rw [List.take_add_one, List.getElem?_eq_getElem hi, List.foldl_append]
 rfl
set_option maxHeartbeats 4000000 in
set_option maxRecDepth 100000 in
theorem sz_walk (A0 : Option Addr) (c0 : Nat) (l0 : List G.Tie) (w : World) (hr0 : Kd.C kTie w A0 l0.length l0) (hc0 : l0.length ≤ c0) (hne : ((l0.length : Int) == 0) = false)
  (good : ∀ t ∈ l0, 0 ≤ t.f0 ∧ t.f0 < t.f1 ∧ t.f1 < 8) (hT0 : TabAt 1 Lib.deBruijn64tab w) :
  Calls Tryd.prog 49 #[.slice A0 l0.length c0] w fun e w' => e = .returned (.int .i64 (rd (szT l0 255) 255)) ∧ Below w.heap.size w w' := by
 have hu51 := Tryd.underlying51
 have wz : ∀ (i : Nat) (z : Int), z = (i : Int) → i < l0.length → wrap64 (z + 1) = ((i + 1 : Nat) : Int) := by
  intro i z hz hi
  have := hr0.2.1
  rw [hz]
  unfold wrap64
  omega
 have HR0 := Aside0.mk hr0
 have HC0 := Aside0.mk hc0
 clear hr0 hc0
 have HT := Aside0.mk hT0
 clear hT0
 have HB := Aside0.mk (Below.refl w.heap.size w)
 have GD := Aside0.mk good
 clear good
 go_enter Tryd.func49, Tryd.ntmps49
 have hst : (storeCells ⟨w.heap.size, 0, none⟩ Tryd.zeroCells83.toList).run Tryd.prog (w.alloc (Obj.cells Tryd.zeroCells83 83)) = .ok () (w.alloc (Obj.cells Tryd.zeroCells83 83)) :=
  run_storeCells_new w 83 Tryd.zeroCells83 Tryd.zeroCells83 (by kernel_rfl) rfl (by kernel_rfl)
 go_wp2
 clear hst
 have n0_ : Aside0 ((w.alloc (Obj.cells Tryd.zeroCells83 83)).heap[w.heap.size]? = some (.cells (szCells (szT l0 0)) 83 (0, 0))) := ⟨by rw [← show Tryd.zeroCells83 = szCells (szT l0 0) from sz_zero]; exact heap_alloc_last w _⟩
 have n1_ : Aside0 (Below w.heap.size w (w.alloc (Obj.cells Tryd.zeroCells83 83))) := ⟨G.cB HB.out⟩
 clear HB
 generalize (w.alloc (Obj.cells Tryd.zeroCells83 83)) = w1 at n0_ n1_ ⊢
 revert n0_ n1_
 intro BM HB
 go_loopg [4] 255 (fun kq v4 w' => ∃ (s : Nat) (x : Int), v4 = .int .i64 x ∧ Aside0 (x = ((s + 1 : Nat) : Int) ∧ s + kq = 255) ∧ Aside0 (w'.heap[w.heap.size]? = some (.cells (szCells (szT l0 s)) 83 (0, 0))) ∧ Aside0 (Below w.heap.size w w'))
 case atStart => exact ⟨0, 1, rfl, ⟨rfl, rfl⟩, BM, HB⟩
 case round =>
  clear BM HB
  obtain ⟨s, x, rfl, HS, BM, HB⟩ := hrel
  cases gk with
  | zero =>
   have hs : s = 255 := by have := HS.out.2; omega
   subst hs
   have hx : x = 256 := HS.out.1
   subst hx
   have hld : wr.cell? ⟨w.heap.size, 255, none⟩ = some (.int .i64 (rd (szT l0 255) 255)) := (blk_cell BM.out 255).trans (sz_at (by rw [szT_len]; decide))
   go_wp2
   go_ret
   exact ⟨rfl, HB.out⟩
  | succ k1 =>
   have hx0 : 1 ≤ x ∧ x < 256 := by have := HS.out; omega
   have lt : decide (x < 256) = true := decide_eq_true hx0.2
   have hw : IntKind.u64.wrap x = x := by rw [IntKind.wrap_u64]; omega
   go_wp2_with (fail)
   have c74 := tz_at (s + 1) (by have := HS.out; omega) (by omega) wr (fun j hj => (HB.out.cell (World.block_lt_of_cell? _ _ (HT.out j hj))).trans (HT.out j hj))
   rw [show (((s + 1 : Nat) : Int)) = x from HS.out.1.symm] at c74
   refine c74.mono ?_
   rintro e w2 ⟨rfl, hw2⟩
   rw [hw2]
   clear hw2
   obtain ⟨y, hy⟩ : ∃ y : Nat, y = (s + 1) &&& s := ⟨_, rfl⟩
   have hy1 : y < 256 := by rw [hy]; exact Nat.lt_of_le_of_lt Nat.and_le_right (by have := HS.out; omega)
   have hand : bits .and .i64 x (x - 1) = (y : Int) := by
    rw [HS.out.1, show (((s + 1 : Nat) : Int) - 1) = (s : Int) from by omega, hy]
    exact sz_and _ _ (by have := HS.out; omega) (by have := HS.out; omega)
   have hld : wr.cell? ⟨w.heap.size, y, none⟩ = some (.int .i64 (rd (szT l0 s) (y : Int))) := (blk_cell BM.out y).trans (sz_at (by rw [szT_len]; exact hy1))
   have hy1b : decide ((y : Int) < 256) = true := decide_eq_true (by omega)
   have hcl : wr.cell? ⟨w.heap.size, x.toNat, none⟩ = some (.int .i64 (rd (szT l0 s) x)) := by
    have e : x = ((x.toNat : Nat) : Int) := by omega
    have := (blk_cell BM.out x.toNat).trans (sz_at (T := szT l0 s) (i := x.toNat) (by rw [szT_len]; omega))
    rw [← e] at this
    exact this
   have hfz := blk_frozen BM.out x.toNat
   have hx0b : decide (0 ≤ x) = true := decide_eq_true (by omega)
   have HY := Aside0.mk hy
   clear hy
   go_wp2
   obtain ⟨T1, hT1⟩ : ∃ T1 : List Int, T1 = (szT l0 s).set (s + 1) (rd (szT l0 s) ((((s + 1) &&& s : Nat)) : Int)) := ⟨_, rfl⟩
   have HT1 := Aside0.mk hT1
   clear hT1
   have n0_ : Aside0 ((wr.setCell ⟨w.heap.size, x.toNat, none⟩ (.int .i64 (rd (szT l0 s) (y : Int)))).heap[w.heap.size]? = some (.cells (szCells T1) 83 (0, 0))) :=
    ⟨blk_put BM.out x.toNat _ (by rw [sz_set, HT1.out, HY.out, show x.toNat = s + 1 from by have := HS.out; omega])⟩
   have n1_ : Aside0 (Below w.heap.size w (wr.setCell ⟨w.heap.size, x.toNat, none⟩ (.int .i64 (rd (szT l0 s) (y : Int))))) := ⟨below_set HB.out (Nat.le_refl _)⟩
   clear BM HB hcl hfz hld hand hy1b HY hy1
   generalize (wr.setCell ⟨w.heap.size, x.toNat, none⟩ (.int .i64 (rd (szT l0 s) (y : Int)))) = w3 at n0_ n1_ ⊢
   revert n0_ n1_
   intro BM HB
   generalize hlw : ((Lib.ctz 64 (s + 1) : Nat) : Int) = lw
   have HL := Aside0.mk hlw
   clear hlw c74
   have TL := Aside0.mk (show T1.length = 256 from by rw [HT1.out, List.length_set, szT_len])
   go_loopg [30] l0.length (fun kq v30 w' => ∃ (i : Nat) (z : Int), v30 = .int .i64 z ∧ Aside0 (z = (i : Int) ∧ i + kq = l0.length) ∧ Aside0 (w'.heap[w.heap.size]? = some (.cells (szCells ((l0.take i).foldl (szStep (s + 1)) T1)) 83 (0, 0))) ∧ Aside0 (Below w.heap.size w w'))
   case atStart => exact ⟨0, 0, rfl, ⟨rfl, by simp⟩, BM, HB⟩
   case round =>
    clear BM HB
    obtain ⟨i, z, rfl, HI, BM, HB⟩ := hrel
    cases gk with
    | zero =>
     have hz : decide (z < (l0.length : Int)) = false := decide_eq_false (by have := HI.out; omega)
     go_wp2
     go_roundg k1
     case measure => omega
     case rel =>
      refine ⟨s + 1, _, rfl, ⟨?_, ?_⟩, ?_, HB⟩
      ·rw [HS.out.1]; omega
      ·have := HS.out.2; omega
      ·have e : (l0.take i) = l0 := List.take_of_length_le (by have := HI.out; omega)
       have b := BM.out
       rw [e, HT1.out] at b
       exact ⟨b⟩
    | succ k2 =>
     have hlen : z < (l0.length : Int) := by have := HI.out; omega
     have hz : decide (z < (l0.length : Int)) = true := decide_eq_true hlen
     have hz0 : 0 ≤ z := by have := HI.out; omega
     have hz1 : decide (0 ≤ z) = true := decide_eq_true hz0
     obtain ⟨ad, ead, hx_0, hx_1⟩ := atTie HR0.out z hz0 hlen
     cases ead
     replace hx_0 := (HB.out.cell (World.block_lt_of_cell? w _ hx_0)).trans hx_0
     replace hx_1 := (HB.out.cell (World.block_lt_of_cell? w _ hx_1)).trans hx_1
     obtain ⟨t, ht⟩ : ∃ t, rdTie l0 z = t := ⟨_, rfl⟩
     rw [ht] at hx_0 hx_1
     have HE := Aside0.mk ht
     clear ht
     replace hz0 := eq_true hz0
     replace hlen := eq_true hlen
     go_wp2_with (first | ((with_reducible refine gate_dst (N := 7) rfl ?_); refine G.be 7 #[.int .i64 0, .int .i64 0] 51 ?_; intro gb hg w4 hbox hb; have n0_ := Aside0.mk (blk_below (G.cb BM.out) hb); have n1_ := Aside0.mk (below_step (G.cB HB.out) hb); have n2_ := Aside0.mk hbox; have n3_ : Aside0 (w.heap.size < gb) := ⟨by rw [hg]; exact blk_lt (G.cb BM.out)⟩; clear BM HB; revert n0_ n1_ n2_ n3_; intro BM HB BT GB; clear hb hbox hg; have hcz0 : w4.cell? ⟨gb, 0, none⟩ = some (.int .i64 0) := (blk_cell BT.out 0).trans rfl; have hcz1 : w4.cell? ⟨gb, 1, none⟩ = some (.int .i64 0) := (blk_cell BT.out 1).trans rfl; have hfz0 := blk_frozen BT.out 0; have hfz1 := blk_frozen BT.out 1))
     clear hcz0 hcz1 hfz0 hfz1 hx_0 hx_1
     have n0_ : Aside0 (((w4.setCell ⟨gb, 0, none⟩ (.int .i64 t.f0)).setCell ⟨gb, 1, none⟩ (.int .i64 t.f1)).heap[w.heap.size]? = some (.cells (szCells ((l0.take i).foldl (szStep (s + 1)) T1)) 83 (0, 0))) := ⟨blk_far (blk_far BM.out (by have := GB.out; simp; omega) _) (by have := GB.out; simp; omega) _⟩
     have n1_ : Aside0 (((w4.setCell ⟨gb, 0, none⟩ (.int .i64 t.f0)).setCell ⟨gb, 1, none⟩ (.int .i64 t.f1)).heap[gb]? = some (.cells #[.int .i64 t.f0, .int .i64 t.f1] 51 (0, 0))) := ⟨blk_put (cs := #[.int .i64 t.f0, .int .i64 0]) (blk_put BT.out 0 _ rfl) 1 _ rfl⟩
     have n2_ : Aside0 (Below w.heap.size w ((w4.setCell ⟨gb, 0, none⟩ (.int .i64 t.f0)).setCell ⟨gb, 1, none⟩ (.int .i64 t.f1))) := ⟨below_set (below_set HB.out (by have := GB.out; omega)) (by have := GB.out; omega)⟩
     clear BM BT HB
     generalize ((w4.setCell ⟨gb, 0, none⟩ (.int .i64 t.f0)).setCell ⟨gb, 1, none⟩ (.int .i64 t.f1)) = w5 at n0_ n1_ n2_ ⊢
     revert n0_ n1_ n2_
     intro BM BT HB
     have ft := GD.out t (by rw [← HE.out]; unfold rdTie; rw [List.getD_eq_getElem?_getD, List.getElem?_eq_getElem (by have := HI.out; omega)]; exact List.getElem_mem _)
     have ti : l0[i]'(by have := HI.out; omega) = t := by
      rw [← HE.out]
      unfold rdTie
      rw [show z.toNat = i from by have := HI.out; omega, List.getD_eq_getElem?_getD, List.getElem?_eq_getElem (by have := HI.out; omega)]
      rfl
     have h0a : decide (0 ≤ t.f0) = true := decide_eq_true ft.1
     have h0b : decide (0 ≤ t.f1) = true := decide_eq_true (by omega)
     have hcz0 : w5.cell? ⟨gb, 0, none⟩ = some (.int .i64 t.f0) := (blk_cell BT.out 0).trans rfl
     have hcz1 : w5.cell? ⟨gb, 1, none⟩ = some (.int .i64 t.f1) := (blk_cell BT.out 1).trans rfl
     go_quiet (fail)
     have hvt := sz_two t ft
     have hvl := szTwo_lt t ft
     obtain ⟨v, hv⟩ : ∃ v : Nat, v = szTwo t := ⟨_, rfl⟩
     rw [← hv] at hvt hvl
     have HV := Aside0.mk hv
     clear hv
     rw [hvt]
     clear hvt
     have n0_ := Aside0.mk (blk_drewN BM.out nq)
     have n1_ := Aside0.mk (blk_drewN BT.out nq)
     have n2_ := Aside0.mk (pw_below_drewN HB.out nq)
     clear BM BT HB hcz0 hcz1
     generalize w5.drewN nq = w6 at n0_ n1_ n2_ ⊢
     revert n0_ n1_ n2_
     intro BM BT HB
     have hcz0 : w6.cell? ⟨gb, 0, none⟩ = some (.int .i64 t.f0) := (blk_cell BT.out 0).trans rfl
     have hcz1 : w6.cell? ⟨gb, 1, none⟩ = some (.int .i64 t.f1) := (blk_cell BT.out 1).trans rfl
     have hxv : bits .and .i64 x (v : Int) = (((s + 1) &&& v : Nat) : Int) := by rw [HS.out.1]; exact sz_and _ _ (by have := HS.out; omega) hvl
     by_cases cA : t.f0 = lw
     ·have cAb : (t.f0 == lw) = true := beq_iff_eq.2 cA
      by_cases cB : (s + 1) &&& v = v
      ·have cBb : (bits .and .i64 x (v : Int) == (v : Int)) = true := by rw [hxv, cB]; simp
       have hxv2 := Aside0.mk hxv
       clear hxv
       have cA2 := Aside0.mk cA
       have cB2 := Aside0.mk cB
       clear cA cB
       go_wp2
       obtain ⟨T, hT⟩ : ∃ T, T = (l0.take i).foldl (szStep (s + 1)) T1 := ⟨_, rfl⟩
       rw [← hT] at BM
       have HTT := Aside0.mk hT
       clear hT
       have tl : T.length = 256 := by rw [HTT.out, szFold_len, TL.out]
       obtain ⟨u, hu⟩ : ∃ u : Nat, u = (s + 1) ^^^ v := ⟨_, rfl⟩
       have hul : u < 256 := by rw [hu]; exact sz_xor_lt _ _ (by have := HS.out; omega) hvl
       have hnot : bits .andNot .i64 x (v : Int) = (u : Int) := by rw [HS.out.1, hu]; exact sz_andNot _ _ (by have := HS.out; omega) hvl cB2.out
       have HU := Aside0.mk hu
       clear hu
       have hd0 : w6.cell? ⟨w.heap.size, u, none⟩ = some (.int .i64 (rd T (u : Int))) := (blk_cell BM.out u).trans (sz_at (by rw [tl]; exact hul))
       have hulp : ((u : Int) < 256) = True := eq_true (by omega)
       have hd1 : w6.cell? ⟨w.heap.size, x.toNat, none⟩ = some (.int .i64 (rd T x)) := by
        have e : x = ((x.toNat : Nat) : Int) := by omega
        have := (blk_cell BM.out x.toNat).trans (sz_at (T := T) (i := x.toNat) (by rw [tl]; omega))
        rw [← e] at this
        exact this
       have hfz := blk_frozen BM.out x.toNat
       have HTL := Aside0.mk tl
       clear tl
       have hx0p : (0 ≤ x) = True := eq_true (by omega)
       have hx1p : (x < 256) = True := eq_true hx0.2
       obtain ⟨q, hq⟩ : ∃ q : Int, (if rd T x < wrap64 (rd T (u : Int) + 1) then wrap64 (rd T (u : Int) + 1) else rd T x) = q := ⟨_, rfl⟩
       refine start_ (n := 13) (S := fun w' => w'.cell? ⟨w.heap.size, x.toNat, none⟩ = some (.int .i64 (rd T x)) ∧ w'.cell? ⟨w.heap.size, u, none⟩ = some (.int .i64 (rd T (u : Int)))) (ds := [12]) (G.fl 13 0) (by kernel_rfl) rfl (by kernel_rfl) ⟨hd1, hd0⟩ (fun hHeld => ?_)
       have n0_ := Aside0.mk (blk_drew BM.out)
       have n1_ := Aside0.mk (blk_drew BT.out)
       have n2_ := Aside0.mk (below_drew1 HB.out)
       have hfz7 : w6.drew.frozen? ⟨w.heap.size, x.toNat, none⟩ = false := hfz
       clear BM BT HB hcz0 hcz1 hd0 hd1 hfz
       generalize w6.drew = w7 at n0_ n1_ n2_ hfz7 hHeld ⊢
       revert n0_ n1_ n2_
       intro BM BT HB
       refine G.pu 0 52 1 ?_
       refine G.pu 1 53 3 ?_
       refine G.pu 2 54 7 ?_
       refine G.pu 4 56 23 ?_
       refine G.pu 5 57 55 ?_
       refine G.pu 6 58 119 ?_
       refine G.pu 7 59 247 ?_
       refine G.ta2 3 55 255 ?_
       refine G.ta2 8 60 511 ?_
       refine G.pu 9 61 1023 ?_
       refine G.pu 10 62 2047 ?_
       refine G.pu 11 63 4095 ?_
       refine last_ (i := 12) (N := none) (G.fl 13 8191) rfl rfl (by kernel_rfl) (by decide) (fun K hK => ?_)
       refine skip_ (w1 := ?_) (by rfl) rfl ?_ ?_
       rotate_left
       ·go_simp
        rfl
       refine hK.out _ _ ?_
       clear hK K
       refine done_ (by kernel_rfl) ?_
       try go_wp2
       go_roundg k2
       case measure => omega
       case rel =>
        refine ⟨i + 1, _, rfl, ⟨?_, ?_⟩, ⟨?_⟩, ⟨below_set HB.out (Nat.le_refl _)⟩⟩
        ·exact (wz i z HI.out.1 (by have := HI.out.2; omega)).trans rfl
        ·have := HI.out.2; omega
        ·refine blk_put BM.out x.toNat _ ?_
         rw [sz_set, sz_next l0 i (by have := HI.out; omega), ← HTT.out, ti, show x.toNat = s + 1 from by have := HS.out; omega]
         unfold szStep
         rw [if_pos ⟨by rw [cA2.out]; exact HL.out.symm, by rw [← HV.out]; exact cB2.out⟩, ← HV.out, ← HU.out, ← hq]
         unfold szMax
         rw [HS.out.1]
      ·have cBb : (bits .and .i64 x (v : Int) == (v : Int)) = false := by rw [hxv]; exact beq_eq_false_iff_ne.2 (fun e => cB (Int.ofNat_inj.1 e))
       clear hxv
       have cA2 := Aside0.mk cA
       have cB2 := Aside0.mk cB
       clear cA cB
       go_wp2
       go_roundg k2
       case measure => omega
       case rel =>
        refine ⟨i + 1, _, rfl, ⟨?_, ?_⟩, ⟨?_⟩, HB⟩
        ·exact (wz i z HI.out.1 (by have := HI.out.2; omega)).trans rfl
        ·have := HI.out.2; omega
        ·rw [sz_next l0 i (by have := HI.out; omega), ti]
         unfold szStep
         rw [if_neg (by rw [← HV.out]; exact fun h => cB2.out h.2)]
         exact BM.out
     ·have cAb : (t.f0 == lw) = false := beq_eq_false_iff_ne.2 cA
      clear hxv
      have cA2 := Aside0.mk cA
      clear cA
      go_wp2
      go_roundg k2
      case measure => omega
      case rel =>
       refine ⟨i + 1, _, rfl, ⟨?_, ?_⟩, ⟨?_⟩, HB⟩
       ·exact (wz i z HI.out.1 (by have := HI.out.2; omega)).trans rfl
       ·have := HI.out.2; omega
       ·rw [sz_next l0 i (by have := HI.out; omega), ti]
        unfold szStep
        rw [if_neg (by rw [HL.out]; exact fun h => cA2.out h.1)]
        exact BM.out
def szGood (l : List G.Tie) : Prop := ∀ t ∈ l, 0 ≤ t.f0 ∧ t.f0 < t.f1 ∧ t.f1 < 8
instance (l : List G.Tie) : Decidable (szGood l) := by unfold szGood; infer_instance
def szOf (l : List G.Tie) : Option Int := if szGood l then some (rd (szT l 255) 255) else none
set_option maxRecDepth 100000 in
theorem szT_nil : rd (szT [] 255) 255 = 0 := by
 have z : ∀ n, szT [] n = List.replicate 256 0 := by
  intro n
  induction n with
  | zero => rfl
  | succ n ih =>
   show szRound [] (n + 1) (szT [] n) = _
   rw [ih]
   unfold szRound
   rw [List.foldl_nil]
   apply List.ext_getElem?
   intro i
   rw [List.getElem?_set]
   by_cases h : n + 1 = i
   ·subst h
    by_cases h2 : n + 1 < 256
    ·rw [if_pos rfl, if_pos (by simpa using h2), List.getElem?_replicate, if_pos h2]
     unfold rd
     rw [List.getD_eq_getElem?_getD, List.getElem?_replicate]
     split <;> rfl
    ·rw [if_pos rfl, if_neg (by simpa using h2), List.getElem?_eq_none (by simp; omega)]
   ·rw [if_neg h]
 rw [z]
 unfold rd
 rw [List.getD_eq_getElem?_getD, List.getElem?_replicate]
 split <;> rfl
set_option maxHeartbeats 1000000 in
theorem sz_none (A0 : Option Addr) (c0 : Nat) (w : World) : Calls Tryd.prog 49 #[.slice A0 0 c0] w fun e w' => e = .returned (.int .i64 0) ∧ Below w.heap.size w w' := by
 go_enter Tryd.func49, Tryd.ntmps49
 go_wp2
 go_ret
 exact ⟨rfl, Below.refl _ _⟩
theorem sz_calls (A0 : Option Addr) (c0 : Nat) (l0 : List G.Tie) (r : Int) (w : World) (hr0 : Kd.C kTie w A0 l0.length l0) (hc0 : l0.length ≤ c0) (h : szOf l0 = some r) (hT : TabAt 1 Lib.deBruijn64tab w) :
  Calls Tryd.prog 49 #[.slice A0 l0.length c0] w fun e w' => e = .returned (.int .i64 r) ∧ Below w.heap.size w w' := by
 unfold szOf at h
 split at h
 ·rename_i hg
  injection h with h
  subst h
  by_cases e : l0 = []
  ·subst e
   rw [szT_nil]
   exact sz_none A0 c0 w
  ·exact sz_walk A0 c0 l0 w hr0 hc0 (by rw [beq_eq_false_iff_ne]; intro h; exact e (List.length_eq_zero_iff.1 (by omega))) hg hT
 ·cases h
theorem lay {w w1 : World} (hT : TabAt 1 Lib.deBruijn64tab w) (hb : Below w.heap.size w w1) : TabAt 1 Lib.deBruijn64tab w1 :=
 fun j hj => (hb.cell (World.block_lt_of_cell? _ _ (hT j hj))).trans (hT j hj)
end Go.Proofs.YtjkeagcenmmknaaDoor.P
namespace Go.Proofs.YtjkeagcenmmknaaDoor.P
open Go.RowKit Go.Proofs.YtjkeagcenmmknaaDoorW.PrintWords Go.Proofs.YtjkeagcenmmknaaDoorW.PrintLast Go.Proofs.YtjkeagcenmmknaaDoorW.PrintMore
attribute [local go_sem] max2_int min2_int max_two min_two max_three min_three max_four min_four   -- for this text's walks alone
def errW : Option Int → Value
  | none => .nilIface
  | some c => .iface 0 (.int .i64 c)
theorem errW_none : errW none = .nilIface := rfl
theorem errW_some (c : Int) : errW (some c) = .iface 0 (.int .i64 c) := rfl
theorem info4 : (Tryd.prog.info? 4).map (fun i => (i.zero, i.size, i.bytes)) = some (some (.bool false), 1, 1) := by kernel_rfl
theorem info5 : (Tryd.prog.info? 5).map (fun i => (i.zero, i.size, i.bytes)) = some (some (.int .u8 0), 1, 1) := by kernel_rfl
theorem info51 : (Tryd.prog.info? 51).map (fun i => (i.zero, i.size, i.bytes)) = some (some (.agg #[(.int .i64 0), (.int .i64 0)]), 2, 16) := by kernel_rfl
abbrev S51 := G.Tie
def z51 : S51 := ⟨(0 : Int), (0 : Int)⟩
def k51 : Kd S51 := Kd.iso (Kd.pair (Kd.int .i64) (Kd.int .i64)) (fun x : S51 => (x.f0, x.f1))
theorem k51_open {w : World} {x : S51} {cs : List Value} (h : k51.K w x cs) : cs = [.int .i64 x.f0, .int .i64 x.f1] := by
  obtain ⟨_, _, rfl, rfl, rfl⟩ := h; exact rfl
theorem k51_openM {w : World} {base : Nat} {ok : Nat → Prop} {x : S51} {cs : List Value} (h : k51.M w base ok x cs) : cs = [.int .i64 x.f0, .int .i64 x.f1] := by
  obtain ⟨_, _, rfl, rfl, rfl⟩ := h; exact rfl
theorem k51_mkM (w : World) (base : Nat) (ok : Nat → Prop) (x : S51)  : k51.M w base ok x [.int .i64 x.f0, .int .i64 x.f1] := ⟨[.int .i64 x.f0], [.int .i64 x.f1], rfl, rfl, rfl⟩
def rd_T51 (xs : List S51) (i : Int) : S51 := xs.getD i.toNat z51
theorem at_T51 {w : World} {A : Option Addr} {n : Nat} {xs : List S51} (h : Kd.C k51 w A n xs) (i : Int) (h0 : 0 ≤ i) (h1 : i < n) : ∃ ad , A = some ad ∧ w.cell? (ad.add (i.toNat * 2)) = some (.int .i64 (rd_T51 xs i).f0) ∧ w.cell? ⟨(ad.add (i.toNat * 2)).block, (ad.add (i.toNat * 2)).off + 1, none⟩ = some (.int .i64 (rd_T51 xs i).f1) := by
  obtain ⟨ad, c, e, _, hK, aa⟩ := Kd.C_get h z51 i h0 h1; have hc : ∀ j u, c[j]? = some u → w.cell? (ad.add (i.toNat * 2 + j)) = some u := aa; obtain rfl := k51_open hK; exact ⟨ad, e, hc 0 _ rfl, by rw [← add_field _ _ 1 (by omega)]; exact hc 1 _ rfl⟩
theorem caae {p : Prop} (h : p := by (with_reducible repeat (first | refine blk_drewN ?_ _ | refine blk_drew ?_ | refine blk_alloc ?_ _)); refine blk_put (cs := #[.int .i64 ((rd_T51 aa ab).f0), .int .i64 0]) ?_ 1 _ rfl; (with_reducible repeat (first | refine blk_drewN ?_ _ | refine blk_drew ?_ | refine blk_alloc ?_ _)); refine blk_put (cs := #[.int .i64 0, .int .i64 0]) ?_ 0 _ rfl; (with_reducible repeat (first | refine blk_drewN ?_ _ | refine blk_drew ?_ | refine blk_alloc ?_ _)); exact af.out) : p := h
theorem caaf {p : Prop} (h : p := by (with_reducible repeat (first | refine blk_drewN ?_ _ | refine blk_drew ?_ | refine blk_alloc ?_ _)); refine blk_far ?_ ak.out _; (with_reducible repeat (first | refine blk_drewN ?_ _ | refine blk_drew ?_ | refine blk_alloc ?_ _)); refine blk_far ?_ ak.out _; (with_reducible repeat (first | refine blk_drewN ?_ _ | refine blk_drew ?_ | refine blk_alloc ?_ _)); exact ac.out) : p := h
theorem caak {p : Prop} (h : p := by (try simp only [List.map_toArray, List.map_cons, List.map_nil]); first | done | (simp only [aJ]; rfl) | rfl | (simp only [List.length_drop, List.length_take]; rfl)) : p := h
theorem caag {p : Prop} (h : p := by rw [hg]; exact Nat.ne_of_lt (blk_lt (g := ah) (o := .cells #[.int .i64 ag, .slice (some aj) aa.length az] 29 (0, 0)) (G.cb ac.out))) : p := h
theorem caah {p : Prop} (h : p := by rw [hg]; exact Nat.ne_of_gt (blk_lt (g := ah) (o := .cells #[.int .i64 ag, .slice (some aj) aa.length az] 29 (0, 0)) (G.cb ac.out))) : p := h
theorem caai {p : Prop} (h : p := by rw [hg]; exact Nat.ne_of_lt (blk_lt (g := aq) (o := .cells #[.int .i64 ag, .int .i64 aI] 51 (0, 0)) (G.cb au.out))) : p := h
theorem caaj {p : Prop} (h : p := by rw [hg]; exact Nat.ne_of_gt (blk_lt (g := aq) (o := .cells #[.int .i64 ag, .int .i64 aI] 51 (0, 0)) (G.cb au.out))) : p := h
theorem caac {p : Prop} (h : p := by first | rfl | (simp [errW_none, errW_some] <;> rfl) | (simp [*, errW_none, errW_some] <;> rfl)) : p := h
theorem caad {p : Prop} (h : p := by first | rfl | (simp; done) | (simp [*]; done)) : p := h
theorem caaa {p : Prop} (h : p := by rw [hg]; exact (below_size (G.cB HB.out))) : p := h
theorem caab {p : Prop} (h : p := by kernel_rfl) : p := h
def spec_l6In.f (a0 : Int) (a1 : Int) (a2 : Int) : Option (Bool) := if a0 ≥ a1 then (some (decide (a0 ≤ a2))) else (some false)
set_option maxHeartbeats 8000000 in
set_option maxRecDepth 100000 in
theorem spec_l6In.calls (a0 : Int) (a1 : Int) (a2 : Int) (r : Bool) (w : World) (h : spec_l6In.f a0 a1 a2 = some r) :
  Calls Tryd.prog 64 #[.int .i64 a0, .int .i64 a1, .int .i64 a2] w fun e w' => e = .returned (.bool r) ∧ Drawn0 w w' := by
 have H : (if a0 ≥ a1 then (some (decide (a0 ≤ a2))) else (some false)) = some r := h; clear h
 by_cases c4 : a0 ≥ a1
 ·rw [if_pos c4] at H; have bG : decide (a1 ≤ a0) = true := decide_eq_true c4; clear c4; obtain rfl := Option.some.inj H
  go_enter Tryd.func64, Tryd.ntmps64
  go_wp2
  go_ret
  exact ⟨caad, by repeat (first | exact Drawn0.refl _ | apply Drawn0.step)⟩
 ·rw [if_neg c4] at H; have bG : decide (a1 ≤ a0) = false := decide_eq_false c4; clear c4; obtain rfl := Option.some.inj H
  go_enter Tryd.func64, Tryd.ntmps64
  go_wp2
  go_ret
  exact ⟨caad, by repeat (first | exact Drawn0.refl _ | apply Drawn0.step)⟩
def spec_l1Less.f (ag : Int) (aI : Int) (ax : Int) (aM : Int) : Option (Bool) := if ag < ax then (some true) else (if ag = ax then (some (decide (aI < aM))) else (some false))
set_option maxHeartbeats 8000000 in
set_option maxRecDepth 100000 in
theorem spec_l1Less.calls (ag : Int) (aI : Int) (ax : Int) (aM : Int) (r : Bool) (w : World) (h : spec_l1Less.f ag aI ax aM = some r) :
  Calls Tryd.prog 65 #[.agg #[.int .i64 ag, .int .i64 aI], .agg #[.int .i64 ax, .int .i64 aM]] w fun e w' => e = .returned (.bool r) ∧ Below w.heap.size w w' := by
 have bH := Tryd.underlying51; have HB := G.m (Below.refl w.heap.size w); have H : (if ag < ax then (some true) else (if ag = ax then (some (decide (aI < aM))) else (some false))) = some r := h; clear h
 by_cases c3 : ag < ax
 ·rw [if_pos c3] at H; have bI : decide (ag < ax) = true := decide_eq_true c3; clear c3; obtain rfl := Option.some.inj H
  go_enter Tryd.func65, Tryd.ntmps65
  go_wp2_with (first | ((with_reducible refine G.h 2 rfl ?_); refine G.be 2 #[.int .i64 ag, .int .i64 aI] 51 ?_; intro aq hg w4 hbox hb; have n0 := G.bs HB hb; have n1 := G.m (hbox); have n2 := G.m (caaa : w.heap.size ≤ aq); have n3 := G.m (caaa : w.heap.size ≤ aq); clear HB; revert n0 n1 n2 n3; intro HB au bd bf; clear hb hbox hg) | ((with_reducible refine G.h 3 rfl ?_); refine G.be 3 #[.int .i64 ax, .int .i64 aM] 51 ?_; intro ay hg w5 hbox hb; have n0 := G.bb au hb; have n1 := G.bs HB hb; have n2 := G.m (hbox); have n3 := G.m (caaa : w.heap.size ≤ ay); have n4 := G.m (caaa : w.heap.size ≤ ay); have n5 := G.m (caai : aq ≠ ay); have n6 := G.m (caaj : ay ≠ aq); clear au HB; revert n0 n1 n2 n3 n4 n5 n6; intro au HB aQ bh bj aF aG; clear hb hbox hg; have dC := aF.out; have dD := aG.out; have ⟨bv, bw, bx, bz⟩ := G.d2 (w := w5) au; have ⟨cO, cP, cQ, cS⟩ := G.d2 (w := w5) aQ))
  go_ret
  exact ⟨caac, G.cB HB.out⟩
 ·rw [if_neg c3] at H; have bI : decide (ag < ax) = false := decide_eq_false c3; clear c3
  by_cases c9 : ag = ax
  ·rw [if_pos c9] at H; have ba : (ag == ax) = true := beq_iff_eq.mpr c9; have bJ : (ag != ax) = false := bne_eq_false_iff_eq.mpr c9; clear c9; obtain rfl := Option.some.inj H
   go_enter Tryd.func65, Tryd.ntmps65
   go_wp2_with (first | ((with_reducible refine G.h 2 rfl ?_); refine G.be 2 #[.int .i64 ag, .int .i64 aI] 51 ?_; intro aq hg dF hbox hb; have n0 := G.bs HB hb; have n1 := G.m (hbox); have n2 := G.m (caaa : w.heap.size ≤ aq); have n3 := G.m (caaa : w.heap.size ≤ aq); clear HB; revert n0 n1 n2 n3; intro HB au bd bf; clear hb hbox hg) | ((with_reducible refine G.h 3 rfl ?_); refine G.be 3 #[.int .i64 ax, .int .i64 aM] 51 ?_; intro ay hg bD hbox hb; have n0 := G.bb au hb; have n1 := G.bs HB hb; have n2 := G.m (hbox); have n3 := G.m (caaa : w.heap.size ≤ ay); have n4 := G.m (caaa : w.heap.size ≤ ay); have n5 := G.m (caai : aq ≠ ay); have n6 := G.m (caaj : ay ≠ aq); clear au HB; revert n0 n1 n2 n3 n4 n5 n6; intro au HB aQ bh bj aF aG; clear hb hbox hg; have df := aF.out; have dg := aG.out; have ⟨bK, bL, bM, bN⟩ := G.d2 (w := bD) au; have ⟨bO, bP, bQ, bR⟩ := G.d2 (w := bD) aQ))
   go_ret
   exact ⟨caac, G.cB HB.out⟩
  ·rw [if_neg c9] at H; have ba : (ag == ax) = false := beq_eq_false_iff_ne.mpr c9; have bJ : (ag != ax) = true := bne_iff_ne.mpr c9; obtain rfl := Option.some.inj H
   go_enter Tryd.func65, Tryd.ntmps65
   go_wp2_with (first | ((with_reducible refine G.h 2 rfl ?_); refine G.be 2 #[.int .i64 ag, .int .i64 aI] 51 ?_; intro aq hg dG hbox hb; have n0 := G.bs HB hb; have n1 := G.m (hbox); have n2 := G.m (caaa : w.heap.size ≤ aq); have n3 := G.m (caaa : w.heap.size ≤ aq); clear HB; revert n0 n1 n2 n3; intro HB au bd bf; clear hb hbox hg) | ((with_reducible refine G.h 3 rfl ?_); refine G.be 3 #[.int .i64 ax, .int .i64 aM] 51 ?_; intro ay hg bE hbox hb; have n0 := G.bb au hb; have n1 := G.bs HB hb; have n2 := G.m (hbox); have n3 := G.m (caaa : w.heap.size ≤ ay); have n4 := G.m (caaa : w.heap.size ≤ ay); have n5 := G.m (caai : aq ≠ ay); have n6 := G.m (caaj : ay ≠ aq); clear au HB; revert n0 n1 n2 n3 n4 n5 n6; intro au HB aQ bh bj aF aG; clear hb hbox hg; have dh := aF.out; have di := aG.out; have ⟨bS, bT, bU, bV⟩ := G.d2 (w := bE) au; have ⟨bW, bX, bY, bZ⟩ := G.d2 (w := bE) aQ))
   go_ret
   exact ⟨caac, G.cB HB.out⟩
mutual
def spec_NetOk.j0 : Nat → Bool → Int → List (S51) → Option (Bool)
 | 0, _, _, _ => none
 | k + 1, cT, aH, ao => if cT = true then (some false) else (spec_NetOk.l0 k 0 aH ao)
def spec_NetOk.l0 : Nat → Int → Int → List (S51) → Option (Bool)
 | 0, _, _, _ => none
 | k + 1, x3, aH, ao => if x3 < (ao.length : Int) then (if 0 ≤ x3 then ((spec_l6In.f ((rd_T51 ao x3).f0) 0 (wrap64 (aH - 1))).bind fun aY => (if aY = true then ((spec_l6In.f ((rd_T51 ao x3).f1) (wrap64 (((rd_T51 ao x3).f0) + 1)) (wrap64 (aH - 1))).bind fun aN => (if aN = true then (if x3 > 0 then (if 0 ≤ (wrap64 (x3 - 1)) then (if (wrap64 (x3 - 1)) < (ao.length : Int) then ((spec_l1Less.f ((rd_T51 ao (wrap64 (x3 - 1))).f0) ((rd_T51 ao (wrap64 (x3 - 1))).f1) ((rd_T51 ao x3).f0) ((rd_T51 ao x3).f1)).bind fun aE => (if aE = true then (spec_NetOk.l0 k (wrap64 (x3 + 1)) aH ao) else (some false))) else (none)) else (none)) else (spec_NetOk.l0 k (wrap64 (x3 + 1)) aH ao)) else (some false))) else (some false))) else (none)) else (some true)
end
def spec_NetOk.f (k : Nat) (ag : Int) (aa : List (S51)) : Option (Bool) := (spec_l6In.f ag 0 8).bind fun aR => (if aR = true then (spec_NetOk.j0 k (decide ((aa.length : Int) > 64)) ag aa) else (spec_NetOk.j0 k true ag aa))
def spec_NetOk.T7 : Bool × List (List Nat × List Nat) := (true, [([], []), ([0], [0]), ([], []), ([2], [2]), ([3], [3]), ([1, 4], [1, 4]), ([5], [5]), ([6, 5], [6]), ([7], [7]), ([8, 7], [7, 8]), ([7], [7]), ([10, 7], [7, 10]), ([11, 7], [7, 11]), ([7], [7]), ([13, 7], [7, 13]), ([14, 7], [7, 14]), ([9, 12, 15, 7, 7], [7, 9, 12, 15]), ([16, 7], [7, 16]), ([7, 17], [7, 17]), ([18, 16], [18]), ([19], [19]), ([20, 19], [19, 20]), ([21, 19, 19], [19, 21]), ([22], [22]), ([23, 22], [22, 23]), ([22], [22]), ([25, 22], [22, 25]), ([24, 26, 22], [22, 24, 26]), ([27, 22], [22, 27]), ([22], [22]), ([28, 29, 22, 22], [22, 28, 29]), ([30, 22], [22, 30]), ([22, 31, 19], [19, 22, 31]), ([19, 32], [19, 32])])
def spec_NetOk.B7 : List Nat := [0, 1, 0, 4, 12, 31, 63, 127, 255, 511, 255, 1279, 3327, 255, 8447, 24831, 65535, 131071, 262143, 524287, 1048575, 2097151, 4194303, 8388607, 16777215, 8388607, 41943039, 134217727, 268435455, 8388607, 1073741823, 2147483647, 4294967295, 8589934591]
theorem spec_NetOk.tab7 : rtab .any (opsOf Tryd.f38 7) = spec_NetOk.T7 := by kernel_rfl
theorem spec_NetOk.bits7 : waitsOk spec_NetOk.T7.2 spec_NetOk.B7 = true := by kernel_rfl
set_option maxHeartbeats 8000000 in
set_option maxRecDepth 100000 in
theorem spec_NetOk.calls (k : Nat) (ag : Int) (aV : Option Addr) (az : Nat) (aa : List (S51)) (r : Bool) (w : World) (bk : Kd.C k51 w aV aa.length aa) (bl : aa.length ≤ az) (h : spec_NetOk.f k ag aa = some r) :
  Calls Tryd.prog 38 #[.agg #[.int .i64 ag, .slice aV aa.length az]] w fun e w' => e = .returned (.bool r) ∧ Below w.heap.size w w' := by
 have dE := Tryd.underlying29; have bH := Tryd.underlying51; have aK := G.m bk; have dj := G.m bl; clear bk bl; have HB := G.m (Below.refl w.heap.size w); have H : ((spec_l6In.f ag 0 8).bind fun aR => (if aR = true then (spec_NetOk.j0 k (decide ((aa.length : Int) > 64)) ag aa) else (spec_NetOk.j0 k true ag aa))) = some r := h; clear h; have bA := G.m H; clear H
 go_enter Tryd.func38, Tryd.ntmps38
 go_upto_region 1 with (first | ((with_reducible refine G.h 1 rfl ?_); (try (refine gate_guard (by rfl) ?_; dsimp only)); refine G.be 1 #[.int .i64 ag, .slice aV aa.length az] 29 ?_; intro ah hg w3 hbox hb; have n0 := G.bs HB hb; have n1 := G.m (hbox); have n2 := G.m (caaa : w.heap.size ≤ ah); have n3 := G.m (caaa : w.heap.size ≤ ah); clear HB; revert n0 n1 n2 n3; intro HB ac dk dl; clear hb hbox hg))
 (try simp only [Act.put, List.setIfInBounds_toArray, List.set_cons_zero, List.set_cons_succ])
 go_cut [14] (fun cU wc => ∃ (kq : Nat) (aS : Bool), cU = .bool aS ∧ Aside0 (spec_NetOk.j0 kq aS ag aa = some r) ∧ Aside0 (kq ≤ k) ∧ Aside0 (wc.heap[ah]? = some (.cells #[.int .i64 ag, (.slice aV aa.length az)] 29 (0, 0))) ∧ Aside0 (Below w.heap.size w wc))
 case first =>
  have H := bA.out; clear bA; obtain ⟨aR, A4, H⟩ := G.bi H; replace H : (if aR = true then (spec_NetOk.j0 k (decide ((aa.length : Int) > 64)) ag aa) else (spec_NetOk.j0 k true ag aa)) = some r := H
  by_cases c5 : aR = true
  ·subst c5; have H1 : (spec_NetOk.j0 k (decide ((aa.length : Int) > 64)) ag aa) = some r := by rw [if_pos rfl] at H; exact H
   clear H; have H := H1; clear H1; have H' := G.m H; clear H; have ⟨cW, cX, cY, cZ⟩ := G.d2 (w := w3) ac
   go_wp2_with (first | ((with_reducible refine G.f 64 rfl ?_); refine G.gL 7 Tryd.func64 #[.int .i64 ag, .int .i64 0, .int .i64 8] ?_; (with_reducible refine (spec_l6In.calls ag 0 8 true _ A4.out).mono ?_); rintro e w' ⟨rfl, ⟨nd, rfl⟩⟩; refine ⟨_, rfl, ?_⟩))
   go_meet
   case rel => exact ⟨_, (decide ((aa.length : Int) > 64)), (caad), H', ⟨by first | omega | exact Nat.le_refl _⟩, ⟨G.cb ac.out⟩, ⟨G.cB HB.out⟩⟩
  ·replace c5 := Bool.eq_false_iff.mpr c5; subst c5; have H1 : (spec_NetOk.j0 k true ag aa) = some r := by rw [if_neg (show ¬ (false = true) by decide)] at H; exact H
   clear H; have H := H1; clear H1; have H' := G.m H; clear H; have ⟨bv, bw, bx, bz⟩ := G.d2 (w := w3) ac
   go_wp2_with (first | ((with_reducible refine G.f 64 rfl ?_); refine G.gL 7 Tryd.func64 #[.int .i64 ag, .int .i64 0, .int .i64 8] ?_; (with_reducible refine (spec_l6In.calls ag 0 8 false _ A4.out).mono ?_); rintro e w' ⟨rfl, ⟨nd, rfl⟩⟩; refine ⟨_, rfl, ?_⟩))
   go_meet
   case rel => exact ⟨_, (true), (caad), H', ⟨by first | omega | exact Nat.le_refl _⟩, ⟨G.cb ac.out⟩, ⟨G.cB HB.out⟩⟩
 case rest =>
  clear bA; obtain ⟨kq, aS, rfl, HA, bm, ac, HB⟩ := hcut; cases kq with
  | zero => exact absurd HA.out (by simp [spec_NetOk.j0])
  | succ bB =>
   have H := HA.out; clear HA; simp only [spec_NetOk.j0] at H
   by_cases c8 : aS = true
   ·subst c8; have H1 : (some false) = some r := by rw [if_pos rfl] at H; exact H
    clear H; have H := H1; clear H1; obtain rfl := Option.some.inj H
    go_wp2
    go_ret
    exact ⟨caac, G.cB HB.out⟩
   ·replace c8 := Bool.eq_false_iff.mpr c8; subst c8; have H1 : (spec_NetOk.l0 bB 0 ag aa) = some r := by rw [if_neg (show ¬ (false = true) by decide)] at H; exact H
    clear H; have H := H1; clear H1; have H' := G.m H; clear H
    go_wp2
    go_loopg [3] bB (fun kq v3 w' => ∃ (ab : Int), v3 = .int .i64 ab ∧ Aside0 (spec_NetOk.l0 kq ab ag aa = some r) ∧ Aside0 (kq ≤ bB) ∧ Aside0 (w'.heap[ah]? = some (.cells #[.int .i64 ag, (.slice aV aa.length az)] 29 (0, 0))) ∧ Aside0 (Below w.heap.size w w'))
    case atStart => exact ⟨(0), (caad), H', ⟨Nat.le_refl _⟩, ⟨G.cb ac.out⟩, ⟨G.cB HB.out⟩⟩
    case round =>
     clear H'; (try clear c8); obtain ⟨ab, rfl, HA, bn, ac, HB⟩ := hrel; cases gk with
     | zero => exact absurd HA.out (by simp [spec_NetOk.l0])
     | succ k2 =>
      have H := HA.out; clear HA; simp only [spec_NetOk.l0] at H
      by_cases c9 : ab < (aa.length : Int)
      ·rw [if_pos c9] at H; have ba : decide (ab < (aa.length : Int)) = true := decide_eq_true c9; clear c9
       by_cases c10 : 0 ≤ ab
       ·rw [if_pos c10] at H; have dn : decide (0 ≤ ab) = true := decide_eq_true c10; clear c10; obtain ⟨aY, aW, H⟩ := G.bi H; replace H : (if aY = true then ((spec_l6In.f ((rd_T51 aa ab).f1) (wrap64 (((rd_T51 aa ab).f0) + 1)) (wrap64 (ag - 1))).bind fun aN => (if aN = true then (if ab > 0 then (if 0 ≤ (wrap64 (ab - 1)) then (if (wrap64 (ab - 1)) < (aa.length : Int) then ((spec_l1Less.f ((rd_T51 aa (wrap64 (ab - 1))).f0) ((rd_T51 aa (wrap64 (ab - 1))).f1) ((rd_T51 aa ab).f0) ((rd_T51 aa ab).f1)).bind fun aE => (if aE = true then (spec_NetOk.l0 k2 (wrap64 (ab + 1)) ag aa) else (some false))) else (none)) else (none)) else (spec_NetOk.l0 k2 (wrap64 (ab + 1)) ag aa)) else (some false))) else (some false)) = some r := H
        by_cases bo : aY = true
        ·subst bo; have H1 : ((spec_l6In.f ((rd_T51 aa ab).f1) (wrap64 (((rd_T51 aa ab).f0) + 1)) (wrap64 (ag - 1))).bind fun aN => (if aN = true then (if ab > 0 then (if 0 ≤ (wrap64 (ab - 1)) then (if (wrap64 (ab - 1)) < (aa.length : Int) then ((spec_l1Less.f ((rd_T51 aa (wrap64 (ab - 1))).f0) ((rd_T51 aa (wrap64 (ab - 1))).f1) ((rd_T51 aa ab).f0) ((rd_T51 aa ab).f1)).bind fun aE => (if aE = true then (spec_NetOk.l0 k2 (wrap64 (ab + 1)) ag aa) else (some false))) else (none)) else (none)) else (spec_NetOk.l0 k2 (wrap64 (ab + 1)) ag aa)) else (some false))) = some r := by rw [if_pos rfl] at H; exact H
         clear H; have H := H1; clear H1; obtain ⟨aN, a5, H⟩ := G.bi H; replace H : (if aN = true then (if ab > 0 then (if 0 ≤ (wrap64 (ab - 1)) then (if (wrap64 (ab - 1)) < (aa.length : Int) then ((spec_l1Less.f ((rd_T51 aa (wrap64 (ab - 1))).f0) ((rd_T51 aa (wrap64 (ab - 1))).f1) ((rd_T51 aa ab).f0) ((rd_T51 aa ab).f1)).bind fun aE => (if aE = true then (spec_NetOk.l0 k2 (wrap64 (ab + 1)) ag aa) else (some false))) else (none)) else (none)) else (spec_NetOk.l0 k2 (wrap64 (ab + 1)) ag aa)) else (some false)) = some r := H
         by_cases bp : aN = true
         ·subst bp; have H1 : (if ab > 0 then (if 0 ≤ (wrap64 (ab - 1)) then (if (wrap64 (ab - 1)) < (aa.length : Int) then ((spec_l1Less.f ((rd_T51 aa (wrap64 (ab - 1))).f0) ((rd_T51 aa (wrap64 (ab - 1))).f1) ((rd_T51 aa ab).f0) ((rd_T51 aa ab).f1)).bind fun aE => (if aE = true then (spec_NetOk.l0 k2 (wrap64 (ab + 1)) ag aa) else (some false))) else (none)) else (none)) else (spec_NetOk.l0 k2 (wrap64 (ab + 1)) ag aa)) = some r := by rw [if_pos rfl] at H; exact H
          clear H; have H := H1; clear H1
          by_cases aX : ab > 0
          ·rw [if_pos aX] at H; have bC : decide (0 < ab) = true := decide_eq_true aX; clear aX; obtain ⟨ai, aJ⟩ : ∃ j_ : Int, (wrap64 (ab - 1)) = j_ := ⟨_, rfl⟩; replace H : (if 0 ≤ (ai) then (if (ai) < (aa.length : Int) then ((spec_l1Less.f ((rd_T51 aa (ai)).f0) ((rd_T51 aa (ai)).f1) ((rd_T51 aa ab).f0) ((rd_T51 aa ab).f1)).bind fun aE => (if aE = true then (spec_NetOk.l0 k2 (wrap64 (ab + 1)) ag aa) else (some false))) else (none)) else (none)) = some r := by first | (rw [aJ] at H; exact H) | (simp only [aJ] at H ⊢; exact H)
           (try rw [aJ] at aW); (try rw [aJ] at a5); have c_ : (IntKind.i64.wrap (ab - 1)) = ai := (i64_w _).trans aJ
           by_cases bq : 0 ≤ (ai)
           ·rw [if_pos bq] at H; have dp : decide (0 ≤ (ai)) = true := decide_eq_true bq; clear bq
            by_cases br : (ai) < (aa.length : Int)
            ·rw [if_pos br] at H; have dq : decide ((ai) < (aa.length : Int)) = true := decide_eq_true br; clear br; obtain ⟨aE, bF, H⟩ := G.bi H; replace H : (if aE = true then (spec_NetOk.l0 k2 (wrap64 (ab + 1)) ag aa) else (some false)) = some r := H
             by_cases bu : aE = true
             ·subst bu; have H1 : (spec_NetOk.l0 k2 (wrap64 (ab + 1)) ag aa) = some r := by rw [if_pos rfl] at H; exact H
              clear H; have H := H1; clear H1; have H' := G.m H; clear H; have ⟨b1, b2, b3, b4⟩ := G.d2 (w := wr) ac; have av : 0 ≤ (ab : Int) := of_decide_eq_true (G.asm); have aw : ab < (aa.length : Int) := of_decide_eq_true (G.asm); obtain ⟨aj, aL, al, am⟩ := at_T51 aK.out ab av aw; cases aL; replace al := G.hx HB al; replace am := G.hx HB am; replace av := eq_true av; replace aw := eq_true aw; try go_wp2_with (first | ((with_reducible refine G.h 4 rfl ?_); (try (refine gate_guard (by rfl) ?_; dsimp only)); refine G.be 4 #[.int .i64 0, .int .i64 0] 51 ?_; intro ae hg a6 hbox hb; have n0 := G.bb ac hb; have n1 := G.bs HB hb; have n2 := G.m (hbox); have n3 := G.m (caaa : w.heap.size ≤ ae); have n4 := G.m (caaa : w.heap.size ≤ ae); have n5 := G.m (caag : ah ≠ ae); have n6 := G.m (caah : ae ≠ ah); clear ac HB; revert n0 n1 n2 n3 n4 n5 n6; intro ac HB af aT aU ak ap; clear hb hbox hg; have dr := ap.out; have dt := ak.out; have ⟨b5, b6, b7, b8⟩ := G.d2 (w := a6) af))
              have n0 : Aside0 (((a6.setCell ⟨ae, 0, none⟩ (.int .i64 ((rd_T51 aa ab).f0))).setCell ⟨ae, 1, none⟩ (.int .i64 ((rd_T51 aa ab).f1))).heap[ah]? = some (.cells #[.int .i64 ag, .slice (some aj) aa.length az] 29 (0, 0))) := ⟨caaf⟩; have n1 : Aside0 (((a6.setCell ⟨ae, 0, none⟩ (.int .i64 ((rd_T51 aa ab).f0))).setCell ⟨ae, 1, none⟩ (.int .i64 ((rd_T51 aa ab).f1))).heap[ae]? = some (.cells #[.int .i64 ((rd_T51 aa ab).f0), .int .i64 ((rd_T51 aa ab).f1)] 51 (0, 0))) := ⟨caae⟩; have n2 : Aside0 (Below w.heap.size w ((a6.setCell ⟨ae, 0, none⟩ (.int .i64 ((rd_T51 aa ab).f0))).setCell ⟨ae, 1, none⟩ (.int .i64 ((rd_T51 aa ab).f1)))) := ⟨G.cB HB.out⟩; (try clear ac af HB); generalize ((a6.setCell ⟨ae, 0, none⟩ (.int .i64 ((rd_T51 aa ab).f0))).setCell ⟨ae, 1, none⟩ (.int .i64 ((rd_T51 aa ab).f1))) = da at n0 n1 n2 ⊢; revert n0 n1 n2; intro ac af HB; have n0 := G.m (blk_drew ac.out); have n1 := G.m (blk_drew af.out); have n2 := G.m (below_drew1 HB.out); clear ac af HB; revert n0 n1 n2; intro ac af HB; have aO : 0 ≤ ((ai) : Int) := of_decide_eq_true (G.asm); have aP : (ai) < (aa.length : Int) := of_decide_eq_true (G.asm); obtain ⟨aZ, bc, aA, aB⟩ := at_T51 aK.out (ai) aO aP; have aC := aB; have aD := aA; obtain rfl : aj = aZ := (by injection bc); replace aA := G.hx HB aA; replace aB := G.hx HB aB; replace aO := eq_true aO; replace aP := eq_true aP; refine G.st 34 (S := fun w' => w'.cell? ⟨ae, 0, none⟩ = some (.int .i64 ((rd_T51 aa ab).f0)) ∧ w'.cell? ⟨ae, 1, none⟩ = some (.int .i64 ((rd_T51 aa ab).f1)) ∧ w'.cell? ⟨ah, 0, none⟩ = some (.int .i64 ag) ∧ w'.cell? ⟨ah, 1, none⟩ = some (.slice (some aj) aa.length az) ∧ w'.cell? (aj.add (((ai)).toNat * 2)) = some (.int .i64 ((rd_T51 aa (ai)).f0)) ∧ w'.cell? ⟨(aj.add (((ai)).toNat * 2)).block, (aj.add (((ai)).toNat * 2)).off + 1, none⟩ = some (.int .i64 ((rd_T51 aa (ai)).f1))) [] ⟨G.z af 0, G.z af 1, G.z ac 0, G.z ac 1, (G.hx HB aD), (G.hx HB aC)⟩ spec_NetOk.tab7 spec_NetOk.bits7 (fun hHeld HT_ HW_ => ?_); generalize da.drew = dH at ac af HB aA aB hHeld ⊢; refine G.pu 0 27 1 ?_; refine G.pu 2 29 5 ?_; refine G.ta6 1 28 7 ?_; refine G.ta6 3 30 15 ?_; refine G.pu 4 31 31 ?_; refine G.on 5 32 63 (fun K hK => ?_); refine G.gs Tryd.func64 #[.int .i64 ((rd_T51 aa ab).f0), .int .i64 0, .int .i64 (wrap64 (ag - 1))] ?_; with_reducible refine (spec_l6In.calls ((rd_T51 aa ab).f0) 0 (wrap64 (ag - 1)) true _ aW.out).mono ?_
              rintro e w' ⟨rfl, ⟨nd, rfl⟩⟩; refine ⟨_, rfl, ?_⟩; refine hK.out _ _ ⟨G.z af 0, G.z af 1, G.z ac 0, G.z ac 1, (G.hx HB aD), (G.hx HB aC)⟩ (fun hHeld => ?_); clear hK K; refine G.no 32 ?_; refine G.pu 6 33 127 ?_; refine G.pu 7 34 255 ?_; refine G.pu 8 35 511 ?_; refine G.pu 10 37 1535 ?_; refine G.pu 13 40 9727 ?_; refine G.ta6 9 36 10239 ?_; refine G.ta6 11 38 12287 ?_; refine G.pu 12 39 16383 ?_; refine G.ta6 14 41 32767 ?_; refine G.pu 15 42 65535 ?_; refine G.on 16 43 131071 (fun K hK => ?_); refine G.gs Tryd.func64 #[.int .i64 ((rd_T51 aa ab).f1), .int .i64 (wrap64 (((rd_T51 aa ab).f0) + 1)), .int .i64 (wrap64 (ag - 1))] ?_; with_reducible refine (spec_l6In.calls ((rd_T51 aa ab).f1) (wrap64 (((rd_T51 aa ab).f0) + 1)) (wrap64 (ag - 1)) true _ a5.out).mono ?_
              rintro e w' ⟨rfl, ⟨nd, rfl⟩⟩; refine ⟨_, rfl, ?_⟩; refine hK.out _ _ ⟨G.z af 0, G.z af 1, G.z ac 0, G.z ac 1, (G.hx HB aD), (G.hx HB aC)⟩ (fun hHeld => ?_); clear hK K; refine G.no 43 ?_; refine G.pu 17 44 262143 ?_; refine G.pu 18 45 524287 ?_; refine G.pu 19 46 1048575 ?_; refine G.pu 20 47 2097151 ?_; refine G.pu 21 48 4194303 ?_; refine G.pu 22 49 8388607 ?_; refine G.pu 23 50 16777215 ?_; refine G.pu 25 52 50331647 ?_; refine G.pu 26 53 117440511 ?_; refine G.ta6 24 51 134217727 ?_; refine G.pu 27 54 268435455 ?_; refine G.ta6 28 55 536870911 ?_; refine G.ta6 29 56 1073741823 ?_; refine G.on 30 57 2147483647 (fun K hK => ?_); refine goes_ Tryd.func65 (caab) rfl #[.agg #[.int .i64 ((rd_T51 aa (ai)).f0), .int .i64 ((rd_T51 aa (ai)).f1)], .agg #[.int .i64 ((rd_T51 aa ab).f0), .int .i64 ((rd_T51 aa ab).f1)]] (by rfl) rfl rfl (caak) ?_; with_reducible refine (spec_l1Less.calls ((rd_T51 aa (ai)).f0) ((rd_T51 aa (ai)).f1) ((rd_T51 aa ab).f0) ((rd_T51 aa ab).f1) true _ bF.out).mono ?_
              rintro e dI ⟨rfl, hb⟩; refine ⟨_, rfl, ?_⟩; have n0 := G.bb ac hb; have n1 := G.bb af hb; have n2 := G.bs HB hb; clear ac af HB; revert n0 n1 n2; intro ac af HB; (try clear hb); refine hK.out _ _ ⟨G.z af 0, G.z af 1, G.z ac 0, G.z ac 1, (G.hx HB aD), (G.hx HB aC)⟩ (fun hHeld => ?_); clear hK K; refine G.no 57 ?_; refine G.pu 31 58 4294967295 ?_; refine G.pu 32 59 8589934591 ?_; refine G.pu 33 60 17179869183 ?_; refine done_ (done_of HT_.out (caab)) ?_; try go_wp2
              go_roundg k2
              case measure => have := bm.out; have := bn.out; omega
              case rel => exact ⟨(wrap64 (ab + 1)), (caad), H', ⟨by have := bm.out; have := bn.out; omega⟩, ⟨G.cb ac.out⟩, ⟨G.cB HB.out⟩⟩
             ·replace bu := Bool.eq_false_iff.mpr bu; subst bu; have H1 : (some false) = some r := by rw [if_neg (show ¬ (false = true) by decide)] at H; exact H
              clear H; have H := H1; clear H1; obtain rfl := Option.some.inj H; have ⟨b9, b_, ca, cd⟩ := G.d2 (w := wr) ac; have av : 0 ≤ (ab : Int) := of_decide_eq_true (G.asm); have aw : ab < (aa.length : Int) := of_decide_eq_true (G.asm); obtain ⟨aj, aL, al, am⟩ := at_T51 aK.out ab av aw; cases aL; replace al := G.hx HB al; replace am := G.hx HB am; replace av := eq_true av; replace aw := eq_true aw; try go_wp2_with (first | ((with_reducible refine G.h 4 rfl ?_); (try (refine gate_guard (by rfl) ?_; dsimp only)); refine G.be 4 #[.int .i64 0, .int .i64 0] 51 ?_; intro ae hg a7 hbox hb; have n0 := G.bb ac hb; have n1 := G.bs HB hb; have n2 := G.m (hbox); have n3 := G.m (caaa : w.heap.size ≤ ae); have n4 := G.m (caaa : w.heap.size ≤ ae); have n5 := G.m (caag : ah ≠ ae); have n6 := G.m (caah : ae ≠ ah); clear ac HB; revert n0 n1 n2 n3 n4 n5 n6; intro ac HB af aT aU ak ap; clear hb hbox hg; have du := ap.out; have dv := ak.out; have ⟨ce, cf, cg, ch⟩ := G.d2 (w := a7) af))
              have n0 : Aside0 (((a7.setCell ⟨ae, 0, none⟩ (.int .i64 ((rd_T51 aa ab).f0))).setCell ⟨ae, 1, none⟩ (.int .i64 ((rd_T51 aa ab).f1))).heap[ah]? = some (.cells #[.int .i64 ag, .slice (some aj) aa.length az] 29 (0, 0))) := ⟨caaf⟩; have n1 : Aside0 (((a7.setCell ⟨ae, 0, none⟩ (.int .i64 ((rd_T51 aa ab).f0))).setCell ⟨ae, 1, none⟩ (.int .i64 ((rd_T51 aa ab).f1))).heap[ae]? = some (.cells #[.int .i64 ((rd_T51 aa ab).f0), .int .i64 ((rd_T51 aa ab).f1)] 51 (0, 0))) := ⟨caae⟩; have n2 : Aside0 (Below w.heap.size w ((a7.setCell ⟨ae, 0, none⟩ (.int .i64 ((rd_T51 aa ab).f0))).setCell ⟨ae, 1, none⟩ (.int .i64 ((rd_T51 aa ab).f1)))) := ⟨G.cB HB.out⟩; (try clear ac af HB); generalize ((a7.setCell ⟨ae, 0, none⟩ (.int .i64 ((rd_T51 aa ab).f0))).setCell ⟨ae, 1, none⟩ (.int .i64 ((rd_T51 aa ab).f1))) = db at n0 n1 n2 ⊢; revert n0 n1 n2; intro ac af HB; have n0 := G.m (blk_drew ac.out); have n1 := G.m (blk_drew af.out); have n2 := G.m (below_drew1 HB.out); clear ac af HB; revert n0 n1 n2; intro ac af HB; have aO : 0 ≤ ((ai) : Int) := of_decide_eq_true (G.asm); have aP : (ai) < (aa.length : Int) := of_decide_eq_true (G.asm); obtain ⟨aZ, bc, aA, aB⟩ := at_T51 aK.out (ai) aO aP; have aC := aB; have aD := aA; obtain rfl : aj = aZ := (by injection bc); replace aA := G.hx HB aA; replace aB := G.hx HB aB; replace aO := eq_true aO; replace aP := eq_true aP; refine G.st 34 (S := fun w' => w'.cell? ⟨ae, 0, none⟩ = some (.int .i64 ((rd_T51 aa ab).f0)) ∧ w'.cell? ⟨ae, 1, none⟩ = some (.int .i64 ((rd_T51 aa ab).f1)) ∧ w'.cell? ⟨ah, 0, none⟩ = some (.int .i64 ag) ∧ w'.cell? ⟨ah, 1, none⟩ = some (.slice (some aj) aa.length az) ∧ w'.cell? (aj.add (((ai)).toNat * 2)) = some (.int .i64 ((rd_T51 aa (ai)).f0)) ∧ w'.cell? ⟨(aj.add (((ai)).toNat * 2)).block, (aj.add (((ai)).toNat * 2)).off + 1, none⟩ = some (.int .i64 ((rd_T51 aa (ai)).f1))) [] ⟨G.z af 0, G.z af 1, G.z ac 0, G.z ac 1, (G.hx HB aD), (G.hx HB aC)⟩ spec_NetOk.tab7 spec_NetOk.bits7 (fun hHeld HT_ HW_ => ?_); generalize db.drew = dJ at ac af HB aA aB hHeld ⊢; refine G.pu 0 27 1 ?_; refine G.pu 2 29 5 ?_; refine G.ta6 1 28 7 ?_; refine G.ta6 3 30 15 ?_; refine G.pu 4 31 31 ?_; refine G.on 5 32 63 (fun K hK => ?_); refine G.gs Tryd.func64 #[.int .i64 ((rd_T51 aa ab).f0), .int .i64 0, .int .i64 (wrap64 (ag - 1))] ?_; with_reducible refine (spec_l6In.calls ((rd_T51 aa ab).f0) 0 (wrap64 (ag - 1)) true _ aW.out).mono ?_
              rintro e w' ⟨rfl, ⟨nd, rfl⟩⟩; refine ⟨_, rfl, ?_⟩; refine hK.out _ _ ⟨G.z af 0, G.z af 1, G.z ac 0, G.z ac 1, (G.hx HB aD), (G.hx HB aC)⟩ (fun hHeld => ?_); clear hK K; refine G.no 32 ?_; refine G.pu 6 33 127 ?_; refine G.pu 7 34 255 ?_; refine G.pu 8 35 511 ?_; refine G.pu 10 37 1535 ?_; refine G.pu 13 40 9727 ?_; refine G.ta6 9 36 10239 ?_; refine G.ta6 11 38 12287 ?_; refine G.pu 12 39 16383 ?_; refine G.ta6 14 41 32767 ?_; refine G.pu 15 42 65535 ?_; refine G.on 16 43 131071 (fun K hK => ?_); refine G.gs Tryd.func64 #[.int .i64 ((rd_T51 aa ab).f1), .int .i64 (wrap64 (((rd_T51 aa ab).f0) + 1)), .int .i64 (wrap64 (ag - 1))] ?_; with_reducible refine (spec_l6In.calls ((rd_T51 aa ab).f1) (wrap64 (((rd_T51 aa ab).f0) + 1)) (wrap64 (ag - 1)) true _ a5.out).mono ?_
              rintro e w' ⟨rfl, ⟨nd, rfl⟩⟩; refine ⟨_, rfl, ?_⟩; refine hK.out _ _ ⟨G.z af 0, G.z af 1, G.z ac 0, G.z ac 1, (G.hx HB aD), (G.hx HB aC)⟩ (fun hHeld => ?_); clear hK K; refine G.no 43 ?_; refine G.pu 17 44 262143 ?_; refine G.pu 18 45 524287 ?_; refine G.pu 19 46 1048575 ?_; refine G.pu 20 47 2097151 ?_; refine G.pu 21 48 4194303 ?_; refine G.pu 22 49 8388607 ?_; refine G.pu 23 50 16777215 ?_; refine G.pu 25 52 50331647 ?_; refine G.pu 26 53 117440511 ?_; refine G.ta6 24 51 134217727 ?_; refine G.pu 27 54 268435455 ?_; refine G.ta6 28 55 536870911 ?_; refine G.ta6 29 56 1073741823 ?_; refine G.on 30 57 2147483647 (fun K hK => ?_); refine goes_ Tryd.func65 (caab) rfl #[.agg #[.int .i64 ((rd_T51 aa (ai)).f0), .int .i64 ((rd_T51 aa (ai)).f1)], .agg #[.int .i64 ((rd_T51 aa ab).f0), .int .i64 ((rd_T51 aa ab).f1)]] (by rfl) rfl rfl (caak) ?_; with_reducible refine (spec_l1Less.calls ((rd_T51 aa (ai)).f0) ((rd_T51 aa (ai)).f1) ((rd_T51 aa ab).f0) ((rd_T51 aa ab).f1) false _ bF.out).mono ?_
              rintro e dK ⟨rfl, hb⟩; refine ⟨_, rfl, ?_⟩; have n0 := G.bb ac hb; have n1 := G.bb af hb; have n2 := G.bs HB hb; clear ac af HB; revert n0 n1 n2; intro ac af HB; (try clear hb); refine hK.out _ _ ⟨G.z af 0, G.z af 1, G.z ac 0, G.z ac 1, (G.hx HB aD), (G.hx HB aC)⟩ (fun hHeld => ?_); clear hK K; refine G.no 57 ?_; refine G.pu 31 58 4294967295 ?_; refine G.pu 32 59 8589934591 ?_; refine G.pu 33 60 17179869183 ?_; refine done_ (done_of HT_.out (caab)) ?_; try go_wp2
              go_ret
              exact ⟨by first | rfl | (simp [errW_none, errW_some] <;> rfl) | (simp only [← aJ]; first | rfl | (simp [errW_none, errW_some] <;> rfl)) | (simp [*, errW_none, errW_some] <;> rfl), G.cB HB.out⟩
            ·rw [if_neg br] at H; exact absurd H (by simp)
           ·rw [if_neg bq] at H; exact absurd H (by simp)
          ·rw [if_neg aX] at H; have bC : decide (0 < ab) = false := decide_eq_false aX; clear aX; have H' := G.m H; clear H; have ⟨ci, cj, ck, cl⟩ := G.d2 (w := wr) ac; have av : 0 ≤ (ab : Int) := of_decide_eq_true (G.asm); have aw : ab < (aa.length : Int) := of_decide_eq_true (G.asm); obtain ⟨aj, aL, al, am⟩ := at_T51 aK.out ab av aw; cases aL; replace al := G.hx HB al; replace am := G.hx HB am; replace av := eq_true av; replace aw := eq_true aw; try go_wp2_with (first | ((with_reducible refine G.h 4 rfl ?_); (try (refine gate_guard (by rfl) ?_; dsimp only)); refine G.be 4 #[.int .i64 0, .int .i64 0] 51 ?_; intro ae hg a8 hbox hb; have n0 := G.bb ac hb; have n1 := G.bs HB hb; have n2 := G.m (hbox); have n3 := G.m (caaa : w.heap.size ≤ ae); have n4 := G.m (caaa : w.heap.size ≤ ae); have n5 := G.m (caag : ah ≠ ae); have n6 := G.m (caah : ae ≠ ah); clear ac HB; revert n0 n1 n2 n3 n4 n5 n6; intro ac HB af aT aU ak ap; clear hb hbox hg; have dw := ap.out; have dx := ak.out; have ⟨cm, cn, co, cp⟩ := G.d2 (w := a8) af))
           have n0 : Aside0 (((a8.setCell ⟨ae, 0, none⟩ (.int .i64 ((rd_T51 aa ab).f0))).setCell ⟨ae, 1, none⟩ (.int .i64 ((rd_T51 aa ab).f1))).heap[ah]? = some (.cells #[.int .i64 ag, .slice (some aj) aa.length az] 29 (0, 0))) := ⟨caaf⟩; have n1 : Aside0 (((a8.setCell ⟨ae, 0, none⟩ (.int .i64 ((rd_T51 aa ab).f0))).setCell ⟨ae, 1, none⟩ (.int .i64 ((rd_T51 aa ab).f1))).heap[ae]? = some (.cells #[.int .i64 ((rd_T51 aa ab).f0), .int .i64 ((rd_T51 aa ab).f1)] 51 (0, 0))) := ⟨caae⟩; have n2 : Aside0 (Below w.heap.size w ((a8.setCell ⟨ae, 0, none⟩ (.int .i64 ((rd_T51 aa ab).f0))).setCell ⟨ae, 1, none⟩ (.int .i64 ((rd_T51 aa ab).f1)))) := ⟨G.cB HB.out⟩; (try clear ac af HB); generalize ((a8.setCell ⟨ae, 0, none⟩ (.int .i64 ((rd_T51 aa ab).f0))).setCell ⟨ae, 1, none⟩ (.int .i64 ((rd_T51 aa ab).f1))) = dc at n0 n1 n2 ⊢; revert n0 n1 n2; intro ac af HB; have n0 := G.m (blk_drew ac.out); have n1 := G.m (blk_drew af.out); have n2 := G.m (below_drew1 HB.out); clear ac af HB; revert n0 n1 n2; intro ac af HB; refine G.st 34 (S := fun w' => w'.cell? ⟨ae, 0, none⟩ = some (.int .i64 ((rd_T51 aa ab).f0)) ∧ w'.cell? ⟨ae, 1, none⟩ = some (.int .i64 ((rd_T51 aa ab).f1)) ∧ w'.cell? ⟨ah, 0, none⟩ = some (.int .i64 ag) ∧ w'.cell? ⟨ah, 1, none⟩ = some (.slice (some aj) aa.length az)) [] ⟨G.z af 0, G.z af 1, G.z ac 0, G.z ac 1⟩ spec_NetOk.tab7 spec_NetOk.bits7 (fun hHeld HT_ HW_ => ?_); generalize dc.drew = dL at ac af HB hHeld ⊢; refine G.pu 0 27 1 ?_; refine G.pu 2 29 5 ?_; refine G.ta4 1 28 7 ?_; refine G.ta4 3 30 15 ?_; refine G.pu 4 31 31 ?_; refine G.on 5 32 63 (fun K hK => ?_); refine G.gs Tryd.func64 #[.int .i64 ((rd_T51 aa ab).f0), .int .i64 0, .int .i64 (wrap64 (ag - 1))] ?_; with_reducible refine (spec_l6In.calls ((rd_T51 aa ab).f0) 0 (wrap64 (ag - 1)) true _ aW.out).mono ?_
           rintro e w' ⟨rfl, ⟨nd, rfl⟩⟩; refine ⟨_, rfl, ?_⟩; refine hK.out _ _ ⟨G.z af 0, G.z af 1, G.z ac 0, G.z ac 1⟩ (fun hHeld => ?_); clear hK K; refine G.no 32 ?_; refine G.pu 6 33 127 ?_; refine G.pu 7 34 255 ?_; refine G.pu 8 35 511 ?_; refine G.pu 10 37 1535 ?_; refine G.pu 13 40 9727 ?_; refine G.ta4 9 36 10239 ?_; refine G.ta4 11 38 12287 ?_; refine G.pu 12 39 16383 ?_; refine G.ta4 14 41 32767 ?_; refine G.pu 15 42 65535 ?_; refine G.on 16 43 131071 (fun K hK => ?_); refine G.gs Tryd.func64 #[.int .i64 ((rd_T51 aa ab).f1), .int .i64 (wrap64 (((rd_T51 aa ab).f0) + 1)), .int .i64 (wrap64 (ag - 1))] ?_; with_reducible refine (spec_l6In.calls ((rd_T51 aa ab).f1) (wrap64 (((rd_T51 aa ab).f0) + 1)) (wrap64 (ag - 1)) true _ a5.out).mono ?_
           rintro e w' ⟨rfl, ⟨nd, rfl⟩⟩; refine ⟨_, rfl, ?_⟩; refine hK.out _ _ ⟨G.z af 0, G.z af 1, G.z ac 0, G.z ac 1⟩ (fun hHeld => ?_); clear hK K; refine G.no 43 ?_; refine G.pu 17 44 262143 ?_; refine G.pu 18 45 524287 ?_; refine G.pu 19 46 1048575 ?_; refine G.pu 20 47 2097151 ?_; refine G.pu 21 48 4194303 ?_; refine G.pu 22 49 8388607 ?_; refine G.pf 23 50 16777215 ?_; refine G.pf 24 51 33554431 ?_; refine G.pf 25 52 67108863 ?_; refine G.pf 26 53 134217727 ?_; refine G.pf 27 54 268435455 ?_; refine G.pf 28 55 536870911 ?_; refine G.pf 29 56 1073741823 ?_; refine G.pf 30 57 2147483647 ?_; refine G.pf 31 58 4294967295 ?_; refine G.pu 32 59 8589934591 ?_; refine G.pu 33 60 17179869183 ?_; refine done_ (done_of HT_.out (caab)) ?_; try go_wp2
           go_roundg k2
           case measure => have := bm.out; have := bn.out; omega
           case rel => exact ⟨(wrap64 (ab + 1)), (caad), H', ⟨by have := bm.out; have := bn.out; omega⟩, ⟨G.cb ac.out⟩, ⟨G.cB HB.out⟩⟩
         ·replace bp := Bool.eq_false_iff.mpr bp; subst bp; have H1 : (some false) = some r := by rw [if_neg (show ¬ (false = true) by decide)] at H; exact H
          clear H; have H := H1; clear H1; obtain rfl := Option.some.inj H; have ⟨cq, cr, ct, cu⟩ := G.d2 (w := wr) ac; have av : 0 ≤ (ab : Int) := of_decide_eq_true (G.asm); have aw : ab < (aa.length : Int) := of_decide_eq_true (G.asm); obtain ⟨aj, aL, al, am⟩ := at_T51 aK.out ab av aw; cases aL; replace al := G.hx HB al; replace am := G.hx HB am; replace av := eq_true av; replace aw := eq_true aw; try go_wp2_with (first | ((with_reducible refine G.h 4 rfl ?_); (try (refine gate_guard (by rfl) ?_; dsimp only)); refine G.be 4 #[.int .i64 0, .int .i64 0] 51 ?_; intro ae hg a9 hbox hb; have n0 := G.bb ac hb; have n1 := G.bs HB hb; have n2 := G.m (hbox); have n3 := G.m (caaa : w.heap.size ≤ ae); have n4 := G.m (caaa : w.heap.size ≤ ae); have n5 := G.m (caag : ah ≠ ae); have n6 := G.m (caah : ae ≠ ah); clear ac HB; revert n0 n1 n2 n3 n4 n5 n6; intro ac HB af aT aU ak ap; clear hb hbox hg; have dy := ap.out; have dz := ak.out; have ⟨cv, cw, cx, cy⟩ := G.d2 (w := a9) af))
          have n0 : Aside0 (((a9.setCell ⟨ae, 0, none⟩ (.int .i64 ((rd_T51 aa ab).f0))).setCell ⟨ae, 1, none⟩ (.int .i64 ((rd_T51 aa ab).f1))).heap[ah]? = some (.cells #[.int .i64 ag, .slice (some aj) aa.length az] 29 (0, 0))) := ⟨caaf⟩; have n1 : Aside0 (((a9.setCell ⟨ae, 0, none⟩ (.int .i64 ((rd_T51 aa ab).f0))).setCell ⟨ae, 1, none⟩ (.int .i64 ((rd_T51 aa ab).f1))).heap[ae]? = some (.cells #[.int .i64 ((rd_T51 aa ab).f0), .int .i64 ((rd_T51 aa ab).f1)] 51 (0, 0))) := ⟨caae⟩; have n2 : Aside0 (Below w.heap.size w ((a9.setCell ⟨ae, 0, none⟩ (.int .i64 ((rd_T51 aa ab).f0))).setCell ⟨ae, 1, none⟩ (.int .i64 ((rd_T51 aa ab).f1)))) := ⟨G.cB HB.out⟩; (try clear ac af HB); generalize ((a9.setCell ⟨ae, 0, none⟩ (.int .i64 ((rd_T51 aa ab).f0))).setCell ⟨ae, 1, none⟩ (.int .i64 ((rd_T51 aa ab).f1))) = dd at n0 n1 n2 ⊢; revert n0 n1 n2; intro ac af HB; have n0 := G.m (blk_drew ac.out); have n1 := G.m (blk_drew af.out); have n2 := G.m (below_drew1 HB.out); clear ac af HB; revert n0 n1 n2; intro ac af HB; refine G.st 34 (S := fun w' => w'.cell? ⟨ae, 0, none⟩ = some (.int .i64 ((rd_T51 aa ab).f0)) ∧ w'.cell? ⟨ae, 1, none⟩ = some (.int .i64 ((rd_T51 aa ab).f1)) ∧ w'.cell? ⟨ah, 0, none⟩ = some (.int .i64 ag) ∧ w'.cell? ⟨ah, 1, none⟩ = some (.slice (some aj) aa.length az)) [] ⟨G.z af 0, G.z af 1, G.z ac 0, G.z ac 1⟩ spec_NetOk.tab7 spec_NetOk.bits7 (fun hHeld HT_ HW_ => ?_); generalize dd.drew = dM at ac af HB hHeld ⊢; refine G.pu 0 27 1 ?_; refine G.pu 2 29 5 ?_; refine G.ta4 1 28 7 ?_; refine G.ta4 3 30 15 ?_; refine G.pu 4 31 31 ?_; refine G.on 5 32 63 (fun K hK => ?_); refine G.gs Tryd.func64 #[.int .i64 ((rd_T51 aa ab).f0), .int .i64 0, .int .i64 (wrap64 (ag - 1))] ?_; with_reducible refine (spec_l6In.calls ((rd_T51 aa ab).f0) 0 (wrap64 (ag - 1)) true _ aW.out).mono ?_
          rintro e w' ⟨rfl, ⟨nd, rfl⟩⟩; refine ⟨_, rfl, ?_⟩; refine hK.out _ _ ⟨G.z af 0, G.z af 1, G.z ac 0, G.z ac 1⟩ (fun hHeld => ?_); clear hK K; refine G.no 32 ?_; refine G.pu 6 33 127 ?_; refine G.pu 7 34 255 ?_; refine G.pu 8 35 511 ?_; refine G.pu 10 37 1535 ?_; refine G.pu 13 40 9727 ?_; refine G.ta4 9 36 10239 ?_; refine G.ta4 11 38 12287 ?_; refine G.pu 12 39 16383 ?_; refine G.ta4 14 41 32767 ?_; refine G.pu 15 42 65535 ?_; refine G.on 16 43 131071 (fun K hK => ?_); refine G.gs Tryd.func64 #[.int .i64 ((rd_T51 aa ab).f1), .int .i64 (wrap64 (((rd_T51 aa ab).f0) + 1)), .int .i64 (wrap64 (ag - 1))] ?_; with_reducible refine (spec_l6In.calls ((rd_T51 aa ab).f1) (wrap64 (((rd_T51 aa ab).f0) + 1)) (wrap64 (ag - 1)) false _ a5.out).mono ?_
          rintro e w' ⟨rfl, ⟨nd, rfl⟩⟩; refine ⟨_, rfl, ?_⟩; refine hK.out _ _ ⟨G.z af 0, G.z af 1, G.z ac 0, G.z ac 1⟩ (fun hHeld => ?_); clear hK K; refine G.no 43 ?_; refine G.pu 17 44 262143 ?_; refine G.pu 18 45 524287 ?_; refine G.pu 19 46 1048575 ?_; refine G.pf 20 47 2097151 ?_; refine G.pf 21 48 4194303 ?_; refine G.pf 22 49 8388607 ?_; refine G.pf 23 50 16777215 ?_; refine G.pf 24 51 33554431 ?_; refine G.pf 25 52 67108863 ?_; refine G.pf 26 53 134217727 ?_; refine G.pf 27 54 268435455 ?_; refine G.pf 28 55 536870911 ?_; refine G.pf 29 56 1073741823 ?_; refine G.pf 30 57 2147483647 ?_; refine G.pf 31 58 4294967295 ?_; refine G.pf 32 59 8589934591 ?_; refine G.pu 33 60 17179869183 ?_; refine done_ (done_of HT_.out (caab)) ?_; try go_wp2
          go_ret
          exact ⟨caac, G.cB HB.out⟩
        ·replace bo := Bool.eq_false_iff.mpr bo; subst bo; have H1 : (some false) = some r := by rw [if_neg (show ¬ (false = true) by decide)] at H; exact H
         clear H; have H := H1; clear H1; obtain rfl := Option.some.inj H; have ⟨cz, cA, cD, cE⟩ := G.d2 (w := wr) ac; have av : 0 ≤ (ab : Int) := of_decide_eq_true (G.asm); have aw : ab < (aa.length : Int) := of_decide_eq_true (G.asm); obtain ⟨aj, aL, al, am⟩ := at_T51 aK.out ab av aw; cases aL; replace al := G.hx HB al; replace am := G.hx HB am; replace av := eq_true av; replace aw := eq_true aw; try go_wp2_with (first | ((with_reducible refine G.h 4 rfl ?_); (try (refine gate_guard (by rfl) ?_; dsimp only)); refine G.be 4 #[.int .i64 0, .int .i64 0] 51 ?_; intro ae hg a_ hbox hb; have n0 := G.bb ac hb; have n1 := G.bs HB hb; have n2 := G.m (hbox); have n3 := G.m (caaa : w.heap.size ≤ ae); have n4 := G.m (caaa : w.heap.size ≤ ae); have n5 := G.m (caag : ah ≠ ae); have n6 := G.m (caah : ae ≠ ah); clear ac HB; revert n0 n1 n2 n3 n4 n5 n6; intro ac HB af aT aU ak ap; clear hb hbox hg; have dA := ap.out; have dB := ak.out; have ⟨cF, cG, cH, cI⟩ := G.d2 (w := a_) af))
         have n0 : Aside0 (((a_.setCell ⟨ae, 0, none⟩ (.int .i64 ((rd_T51 aa ab).f0))).setCell ⟨ae, 1, none⟩ (.int .i64 ((rd_T51 aa ab).f1))).heap[ah]? = some (.cells #[.int .i64 ag, .slice (some aj) aa.length az] 29 (0, 0))) := ⟨caaf⟩; have n1 : Aside0 (((a_.setCell ⟨ae, 0, none⟩ (.int .i64 ((rd_T51 aa ab).f0))).setCell ⟨ae, 1, none⟩ (.int .i64 ((rd_T51 aa ab).f1))).heap[ae]? = some (.cells #[.int .i64 ((rd_T51 aa ab).f0), .int .i64 ((rd_T51 aa ab).f1)] 51 (0, 0))) := ⟨caae⟩; have n2 : Aside0 (Below w.heap.size w ((a_.setCell ⟨ae, 0, none⟩ (.int .i64 ((rd_T51 aa ab).f0))).setCell ⟨ae, 1, none⟩ (.int .i64 ((rd_T51 aa ab).f1)))) := ⟨G.cB HB.out⟩; (try clear ac af HB); generalize ((a_.setCell ⟨ae, 0, none⟩ (.int .i64 ((rd_T51 aa ab).f0))).setCell ⟨ae, 1, none⟩ (.int .i64 ((rd_T51 aa ab).f1))) = de at n0 n1 n2 ⊢; revert n0 n1 n2; intro ac af HB; have n0 := G.m (blk_drew ac.out); have n1 := G.m (blk_drew af.out); have n2 := G.m (below_drew1 HB.out); clear ac af HB; revert n0 n1 n2; intro ac af HB; refine G.st 34 (S := fun w' => w'.cell? ⟨ae, 0, none⟩ = some (.int .i64 ((rd_T51 aa ab).f0)) ∧ w'.cell? ⟨ae, 1, none⟩ = some (.int .i64 ((rd_T51 aa ab).f1)) ∧ w'.cell? ⟨ah, 0, none⟩ = some (.int .i64 ag) ∧ w'.cell? ⟨ah, 1, none⟩ = some (.slice (some aj) aa.length az)) [] ⟨G.z af 0, G.z af 1, G.z ac 0, G.z ac 1⟩ spec_NetOk.tab7 spec_NetOk.bits7 (fun hHeld HT_ HW_ => ?_); generalize de.drew = dN at ac af HB hHeld ⊢; refine G.pu 0 27 1 ?_; refine G.pu 2 29 5 ?_; refine G.ta4 1 28 7 ?_; refine G.ta4 3 30 15 ?_; refine G.pu 4 31 31 ?_; refine G.on 5 32 63 (fun K hK => ?_); refine G.gs Tryd.func64 #[.int .i64 ((rd_T51 aa ab).f0), .int .i64 0, .int .i64 (wrap64 (ag - 1))] ?_; with_reducible refine (spec_l6In.calls ((rd_T51 aa ab).f0) 0 (wrap64 (ag - 1)) false _ aW.out).mono ?_
         rintro e w' ⟨rfl, ⟨nd, rfl⟩⟩; refine ⟨_, rfl, ?_⟩; refine hK.out _ _ ⟨G.z af 0, G.z af 1, G.z ac 0, G.z ac 1⟩ (fun hHeld => ?_); clear hK K; refine G.no 32 ?_; refine G.pu 6 33 127 ?_; refine G.pu 7 34 255 ?_; refine G.pf 8 35 511 ?_; refine G.pf 9 36 1023 ?_; refine G.pf 10 37 2047 ?_; refine G.pf 11 38 4095 ?_; refine G.pf 12 39 8191 ?_; refine G.pf 13 40 16383 ?_; refine G.pf 14 41 32767 ?_; refine G.pf 15 42 65535 ?_; refine G.pf 16 43 131071 ?_; refine G.pf 17 44 262143 ?_; refine G.pu 18 45 524287 ?_; refine G.pu 19 46 1048575 ?_; refine G.pf 20 47 2097151 ?_; refine G.pf 21 48 4194303 ?_; refine G.pf 22 49 8388607 ?_; refine G.pf 23 50 16777215 ?_; refine G.pf 24 51 33554431 ?_; refine G.pf 25 52 67108863 ?_; refine G.pf 26 53 134217727 ?_; refine G.pf 27 54 268435455 ?_; refine G.pf 28 55 536870911 ?_; refine G.pf 29 56 1073741823 ?_; refine G.pf 30 57 2147483647 ?_; refine G.pf 31 58 4294967295 ?_; refine G.pf 32 59 8589934591 ?_; refine G.pu 33 60 17179869183 ?_; refine done_ (done_of HT_.out (caab)) ?_; try go_wp2
         go_ret
         exact ⟨caac, G.cB HB.out⟩
       ·rw [if_neg c10] at H; exact absurd H (by simp)
      ·rw [if_neg c9] at H; have ba : decide (ab < (aa.length : Int)) = false := decide_eq_false c9; clear c9; obtain rfl := Option.some.inj H; have ⟨cJ, cL, cM, cN⟩ := G.d2 (w := wr) ac
       go_wp2
       go_ret
       exact ⟨caac, G.cB HB.out⟩
theorem caau {p : Prop} (h : p := by (with_reducible repeat (first | refine blk_drewN ?_ _ | refine blk_drew ?_ | refine blk_alloc ?_ _)); refine blk_put (cs := #[.int .i64 ((rd_T51 aa a1).f0), .int .i64 0]) ?_ 1 _ rfl; (with_reducible repeat (first | refine blk_drewN ?_ _ | refine blk_drew ?_ | refine blk_alloc ?_ _)); refine blk_put (cs := #[.int .i64 0, .int .i64 0]) ?_ 0 _ rfl; (with_reducible repeat (first | refine blk_drewN ?_ _ | refine blk_drew ?_ | refine blk_alloc ?_ _)); exact ae.out) : p := h
theorem caav {p : Prop} (h : p := by (with_reducible repeat (first | refine blk_drewN ?_ _ | refine blk_drew ?_ | refine blk_alloc ?_ _)); refine blk_far ?_ ao.out _; (with_reducible repeat (first | refine blk_drewN ?_ _ | refine blk_drew ?_ | refine blk_alloc ?_ _)); refine blk_far ?_ ao.out _; (with_reducible repeat (first | refine blk_drewN ?_ _ | refine blk_drew ?_ | refine blk_alloc ?_ _)); exact ac.out) : p := h
theorem caaw {p : Prop} (h : p := by (try simp only [List.map_toArray, List.map_cons, List.map_nil]); first | done | (rw [show aH.length = ah.length from (Kd.R_reads' af.out).1.symm] <;> rfl) | rfl | (simp only [List.length_drop, List.length_take]; rfl)) : p := h
theorem caat {p : Prop} (h : p := by first | rfl | (simp [errW_none, errW_some] <;> rfl) | (simp [*, errW_none, errW_some] <;> rfl)) : p := h
theorem caas {p : Prop} (h : p := by rw [hg]; exact (below_size (G.cB HB.out))) : p := h
mutual
def spec_l24Most.j0 : Nat → Int → List Bool → Int → Bool → Int → List (S51) → Int → Int → Option (Int)
 | 0, _, _, _, _, _, _, _, _ => none
 | k + 1, x1, x2, x7, dQ, cf, cg, a7, a8 => if dQ = true then (some x7) else ((some (([] : List Bool) : List Bool)).bind fun aA => (if aA.length + x2.length < 140737488355328 then ((some (aA ++ x2 : List Bool)).bind fun ah => (if 0 ≤ a7 then (if a7 < (ah.length : Int) then (if 0 ≤ a8 then (if a8 < (ah.length : Int) then ((spec_l24Most.f k cf cg (wrap64 (x1 + 1)) ((ah.set (a7 : Int).toNat true).set (a8 : Int).toNat true)).bind fun ak => (if (wrap64 (1 + ak)) > x7 then (some (wrap64 (1 + ak))) else (some x7))) else (none)) else (none)) else (none)) else (none))) else (none)))
def spec_l24Most.f : Nat → Int → List (S51) → Int → List Bool → Option (Int)
 | 0, _, _, _, _ => none
 | k + 1, ab, aa, a1, l2 => if a1 ≥ (aa.length : Int) then (some 0) else ((spec_l24Most.f k ab aa (wrap64 (a1 + 1)) l2).bind fun aj => (if 0 ≤ a1 then (if a1 < (aa.length : Int) then (if 0 ≤ ((rd_T51 aa a1).f0) then (if ((rd_T51 aa a1).f0) < (l2.length : Int) then (if rdOf false l2 ((rd_T51 aa a1).f0) = true then (spec_l24Most.j0 k a1 l2 aj true ab aa ((rd_T51 aa a1).f0) ((rd_T51 aa a1).f1)) else (if 0 ≤ ((rd_T51 aa a1).f1) then (if ((rd_T51 aa a1).f1) < (l2.length : Int) then (spec_l24Most.j0 k a1 l2 aj (rdOf false l2 ((rd_T51 aa a1).f1)) ab aa ((rd_T51 aa a1).f0) ((rd_T51 aa a1).f1)) else (none)) else (none))) else (none)) else (none)) else (none)) else (none)))
end
set_option maxHeartbeats 8000000 in
set_option maxRecDepth 100000 in
theorem spec_l24Most.calls (k : Nat) : ∀ (ab : Int) (av : Option Addr) (am : Nat) (aa : List (S51)) (a1 : Int) (A2 : Option Addr) (c2 : Nat) (l2 : List Bool) (r : Int) (w : World) (aK : Kd.C k51 w av aa.length aa) (aM : aa.length ≤ am) (hr2 : Kd.C Kd.bool w A2 l2.length l2) (cv : l2.length ≤ c2) (h : spec_l24Most.f k ab aa a1 l2 = some r),
  Calls Tryd.prog 46 #[.agg #[.int .i64 ab, .slice av aa.length am], .int .i64 a1, .slice A2 l2.length c2] w fun e w' => e = .returned (.int .i64 r) ∧ Below w.heap.size w w' := by
 induction k using Nat.strongRecOn with
 | _ k ih =>
 intro ab av am aa a1 A2 c2 l2 r w aK aM hr2 cv h; cases k with
 | zero => exact absurd h (by simp [spec_l24Most.f])
 | succ k =>
 simp only [spec_l24Most.f] at h; have cT := Tryd.underlying29; have eB := Tryd.underlying51; have aE := G.m aK; have aI := G.m aM; clear aK aM; have bv := G.m hr2; have dR := G.m cv; clear hr2 cv; have HB := G.m (Below.refl w.heap.size w); have H : (if a1 ≥ (aa.length : Int) then (some 0) else ((spec_l24Most.f k ab aa (wrap64 (a1 + 1)) l2).bind fun aj => (if 0 ≤ a1 then (if a1 < (aa.length : Int) then (if 0 ≤ ((rd_T51 aa a1).f0) then (if ((rd_T51 aa a1).f0) < (l2.length : Int) then (if rdOf false l2 ((rd_T51 aa a1).f0) = true then (spec_l24Most.j0 k a1 l2 aj true ab aa ((rd_T51 aa a1).f0) ((rd_T51 aa a1).f1)) else (if 0 ≤ ((rd_T51 aa a1).f1) then (if ((rd_T51 aa a1).f1) < (l2.length : Int) then (spec_l24Most.j0 k a1 l2 aj (rdOf false l2 ((rd_T51 aa a1).f1)) ab aa ((rd_T51 aa a1).f0) ((rd_T51 aa a1).f1)) else (none)) else (none))) else (none)) else (none)) else (none)) else (none)))) = some r := h; clear h
 by_cases c4 : a1 ≥ (aa.length : Int)
 ·rw [if_pos c4] at H; have bG : decide ((aa.length : Int) ≤ a1) = true := decide_eq_true c4; clear c4; obtain rfl := Option.some.inj H
  go_enter Tryd.func46, Tryd.ntmps46
  go_wp2_with (first | ((with_reducible refine G.h 3 rfl ?_); refine G.be 3 #[.int .i64 ab, .slice av aa.length am] 29 ?_; intro ay hg w5 hbox hb; have n0 := G.bs HB hb; have n1 := G.m (hbox); have n2 := G.m (caas : w.heap.size ≤ ay); have n3 := G.m (caas : w.heap.size ≤ ay); clear HB; revert n0 n1 n2 n3; intro HB ac cG cH; clear hb hbox hg; have ⟨dS, dT, dU, dV⟩ := G.d2 (w := w5) ac))
  go_ret
  exact ⟨caat, G.cB HB.out⟩
 ·rw [if_neg c4] at H; have bG : decide ((aa.length : Int) ≤ a1) = false := decide_eq_false c4; clear c4; obtain ⟨aj, A7, H⟩ := G.bi H; replace H : (if 0 ≤ a1 then (if a1 < (aa.length : Int) then (if 0 ≤ ((rd_T51 aa a1).f0) then (if ((rd_T51 aa a1).f0) < (l2.length : Int) then (if rdOf false l2 ((rd_T51 aa a1).f0) = true then (spec_l24Most.j0 k a1 l2 aj true ab aa ((rd_T51 aa a1).f0) ((rd_T51 aa a1).f1)) else (if 0 ≤ ((rd_T51 aa a1).f1) then (if ((rd_T51 aa a1).f1) < (l2.length : Int) then (spec_l24Most.j0 k a1 l2 aj (rdOf false l2 ((rd_T51 aa a1).f1)) ab aa ((rd_T51 aa a1).f0) ((rd_T51 aa a1).f1)) else (none)) else (none))) else (none)) else (none)) else (none)) else (none)) = some r := H
  by_cases c8 : 0 ≤ a1
  ·rw [if_pos c8] at H; have cU : decide (0 ≤ a1) = true := decide_eq_true c8; clear c8
   by_cases c9 : a1 < (aa.length : Int)
   ·rw [if_pos c9] at H; have cW : decide (a1 < (aa.length : Int)) = true := decide_eq_true c9; clear c9; have bH := G.m H; clear H
    go_enter Tryd.func46, Tryd.ntmps46
    go_upto_region 5 with (first | ((with_reducible refine G.h 3 rfl ?_); refine G.be 3 #[.int .i64 ab, .slice av aa.length am] 29 ?_; intro ay hg cN hbox hb; have n0 := G.bs HB hb; have n1 := G.m (hbox); have n2 := G.m (caas : w.heap.size ≤ ay); have n3 := G.m (caas : w.heap.size ≤ ay); clear HB; revert n0 n1 n2 n3; intro HB ac cG cH; clear hb hbox hg; have ⟨ch, ci, cj, ck⟩ := G.d2 (w := cN) ac) | ((with_reducible refine G.f 46 rfl ?_); refine G.gL 20 Tryd.func46 #[.agg #[.int .i64 ab, .slice av aa.length am], .int .i64 (wrap64 (a1 + 1)), .slice A2 l2.length c2] ?_; (with_reducible refine (ih k (by omega) ab _ _ aa (wrap64 (a1 + 1)) _ _ l2 aj _ ?side1 ?side2 ?side3 ?side4 A7.out).mono ?_); (case side1 => exact G.cC (Kd.C_below aE.out HB.out)); (case side2 => exact aI.out); (case side3 => exact G.cC (Kd.C_below bv.out HB.out)); (case side4 => exact dR.out); rintro e dW ⟨rfl, hb⟩; refine ⟨_, rfl, ?_⟩; have n0 := G.bb ac hb; have n1 := G.bs HB hb; clear ac HB; revert n0 n1; intro ac HB; (try clear hb); have ⟨cl, cm, cn, co⟩ := G.d2 (w := dW) ac; have bA : 0 ≤ (a1 : Int) := of_decide_eq_true (G.asm); have bB : a1 < (aa.length : Int) := of_decide_eq_true (G.asm); obtain ⟨aX, cX, a9, a_⟩ := at_T51 aE.out a1 bA bB; cases cX; replace a9 := G.hx HB a9; replace a_ := G.hx HB a_; replace bA := eq_true bA; replace bB := eq_true bB) | ((with_reducible refine G.h 8 rfl ?_); refine G.be 8 #[.int .i64 0, .int .i64 0] 51 ?_; intro al hg bF hbox hb; have n0 := G.bb ac hb; have n1 := G.bs HB hb; have n2 := G.m (hbox); have n3 := G.m (caas : w.heap.size ≤ al); have n4 := G.m (caas : w.heap.size ≤ al); have n5 := G.m ((by rw [hg]; exact Nat.ne_of_lt (blk_lt (g := ay) (o := .cells #[.int .i64 ab, .slice (some aX) aa.length am] 29 (0, 0)) (G.cb ac.out)) : ay ≠ al)); have n6 := G.m ((by rw [hg]; exact Nat.ne_of_gt (blk_lt (g := ay) (o := .cells #[.int .i64 ab, .slice (some aX) aa.length am] 29 (0, 0)) (G.cb ac.out)) : al ≠ ay)); clear ac HB; revert n0 n1 n2 n3 n4 n5 n6; intro ac HB ae aN eb ao az; clear hb hbox hg; have ec := az.out; have ed := ao.out; have ⟨cp, cq, cr, ct⟩ := G.d2 (w := bF) ae))
    (try simp only [Act.put, List.setIfInBounds_toArray, List.set_cons_zero, List.set_cons_succ])
    go_cut [37] (fun dX wc => ∃ (kq : Nat) (bc : Bool), dX = .bool bc ∧ Aside0 (spec_l24Most.j0 kq a1 l2 aj bc ab aa ((rd_T51 aa a1).f0) ((rd_T51 aa a1).f1) = some r) ∧ Aside0 (kq ≤ k) ∧ Aside0 (wc.heap[ay]? = some (.cells #[.int .i64 ab, (.slice (some aX) aa.length am)] 29 (0, 0))) ∧ Aside0 (wc.heap[al]? = some (.cells #[.int .i64 ((rd_T51 aa a1).f0), .int .i64 ((rd_T51 aa a1).f1)] 51 (0, 0))) ∧ Aside0 (Below w.heap.size w wc))
    case first =>
     have H := bH.out; clear bH
     by_cases bT : 0 ≤ ((rd_T51 aa a1).f0)
     ·rw [if_pos bT] at H; have bU : decide (0 ≤ ((rd_T51 aa a1).f0)) = true := decide_eq_true bT; clear bT; (first | rw [bU] | (simp only [i64_w, i32_w]; rw [bU]) | skip)
      by_cases bV : ((rd_T51 aa a1).f0) < (l2.length : Int)
      ·rw [if_pos bV] at H; have ee : decide (((rd_T51 aa a1).f0) < (l2.length : Int)) = true := decide_eq_true bV; clear bV; obtain ⟨cw, bC⟩ : ∃ b_ : Bool, b_ = (rdOf false l2 ((rd_T51 aa a1).f0)) := ⟨_, rfl⟩; replace H : (if cw = true then (spec_l24Most.j0 k a1 l2 aj true ab aa ((rd_T51 aa a1).f0) ((rd_T51 aa a1).f1)) else (if 0 ≤ ((rd_T51 aa a1).f1) then (if ((rd_T51 aa a1).f1) < (l2.length : Int) then (spec_l24Most.j0 k a1 l2 aj (rdOf false l2 ((rd_T51 aa a1).f1)) ab aa ((rd_T51 aa a1).f0) ((rd_T51 aa a1).f1)) else (none)) else (none))) = some r := by rw [← bC] at H; exact H
       have bD := G.m bC; clear bC
       by_cases bW : cw = true
       ·subst bW; have H1 : (spec_l24Most.j0 k a1 l2 aj true ab aa ((rd_T51 aa a1).f0) ((rd_T51 aa a1).f1)) = some r := by rw [if_pos rfl] at H; exact H
        clear H; have H := H1; clear H1; have H' := G.m H; clear H; have ef := az.out; have eg := ao.out; have ⟨dd, de, df, dg⟩ := G.d2 (w := bF) ae; have aU : 0 ≤ (((rd_T51 aa a1).f0) : Int) := of_decide_eq_true (G.asm); have aV : ((rd_T51 aa a1).f0) < (l2.length : Int) := of_decide_eq_true (G.asm); obtain ⟨aG, bI, ag⟩ := Kd.at_bool bv.out ((rd_T51 aa a1).f0) aU aV; (try rw [← bD.out] at ag); cases bI; have ap : aG.block ≠ al := Nat.ne_of_lt (Nat.lt_of_lt_of_le (by have := World.block_lt_of_cell? _ _ ag; first | rwa [add_block] at this | exact this) aN.out); have aq : aG.block ≠ al := Nat.ne_of_lt (Nat.lt_of_lt_of_le (by have := World.block_lt_of_cell? _ _ ag; first | rwa [add_block] at this | exact this) aN.out); replace ag := G.hx HB ag; replace ag := (cell_far (p := ⟨al, 0, none⟩) (by first | (rw [add_block]; exact ap) | (show (Addr.add _ _).block ≠ _; rw [add_block]; exact ap) | exact ap) (.int .i64 ((rd_T51 aa a1).f0))).trans ag; replace ag := (cell_far (p := ⟨al, 1, none⟩) (by first | (rw [add_block]; exact aq) | (show (Addr.add _ _).block ≠ _; rw [add_block]; exact aq) | exact aq) (.int .i64 ((rd_T51 aa a1).f1))).trans ag; clear ap aq; replace aU := eq_true aU; replace aV := eq_true aV
        go_wp2
        go_meet
        case rel => exact ⟨_, (true), (by first | rfl | (simp; done) | (simp [*]; done)), H', ⟨by first | omega | exact Nat.le_refl _⟩, ⟨caav⟩, ⟨caau⟩, ⟨G.cB HB.out⟩⟩
       ·replace bW := Bool.eq_false_iff.mpr bW; subst bW; have H1 : (if 0 ≤ ((rd_T51 aa a1).f1) then (if ((rd_T51 aa a1).f1) < (l2.length : Int) then (spec_l24Most.j0 k a1 l2 aj (rdOf false l2 ((rd_T51 aa a1).f1)) ab aa ((rd_T51 aa a1).f0) ((rd_T51 aa a1).f1)) else (none)) else (none)) = some r := by rw [if_neg (show ¬ (false = true) by decide)] at H; exact H
        clear H; have H := H1; clear H1
        by_cases bX : 0 ≤ ((rd_T51 aa a1).f1)
        ·rw [if_pos bX] at H; have eh : decide (0 ≤ ((rd_T51 aa a1).f1)) = true := decide_eq_true bX; clear bX
         by_cases bY : ((rd_T51 aa a1).f1) < (l2.length : Int)
         ·rw [if_pos bY] at H; have ei : decide (((rd_T51 aa a1).f1) < (l2.length : Int)) = true := decide_eq_true bY; clear bY; have H' := G.m H; clear H; have ej := az.out; have ek := ao.out; have ⟨dh, di, dj, dk⟩ := G.d2 (w := bF) ae; have aU : 0 ≤ (((rd_T51 aa a1).f0) : Int) := of_decide_eq_true (G.asm); have aV : ((rd_T51 aa a1).f0) < (l2.length : Int) := of_decide_eq_true (G.asm); obtain ⟨aG, bI, ag⟩ := Kd.at_bool bv.out ((rd_T51 aa a1).f0) aU aV; (try rw [← bD.out] at ag); cases bI; have ap : aG.block ≠ al := Nat.ne_of_lt (Nat.lt_of_lt_of_le (by have := World.block_lt_of_cell? _ _ ag; first | rwa [add_block] at this | exact this) aN.out); have aq : aG.block ≠ al := Nat.ne_of_lt (Nat.lt_of_lt_of_le (by have := World.block_lt_of_cell? _ _ ag; first | rwa [add_block] at this | exact this) aN.out); replace ag := G.hx HB ag; replace ag := (cell_far (p := ⟨al, 0, none⟩) (by first | (rw [add_block]; exact ap) | (show (Addr.add _ _).block ≠ _; rw [add_block]; exact ap) | exact ap) (.int .i64 ((rd_T51 aa a1).f0))).trans ag; replace ag := (cell_far (p := ⟨al, 1, none⟩) (by first | (rw [add_block]; exact aq) | (show (Addr.add _ _).block ≠ _; rw [add_block]; exact aq) | exact aq) (.int .i64 ((rd_T51 aa a1).f1))).trans ag; clear ap aq; replace aU := eq_true aU; replace aV := eq_true aV; have bJ : 0 ≤ (((rd_T51 aa a1).f1) : Int) := of_decide_eq_true (G.asm); have bK : ((rd_T51 aa a1).f1) < (l2.length : Int) := of_decide_eq_true (G.asm); obtain ⟨cI, cY, au⟩ := Kd.at_bool bv.out ((rd_T51 aa a1).f1) bJ bK; (try rw [← bD.out] at au); obtain rfl : aG = cI := (by injection cY); have aP : aG.block ≠ al := Nat.ne_of_lt (Nat.lt_of_lt_of_le (by have := World.block_lt_of_cell? _ _ au; first | rwa [add_block] at this | exact this) aN.out); have aQ : aG.block ≠ al := Nat.ne_of_lt (Nat.lt_of_lt_of_le (by have := World.block_lt_of_cell? _ _ au; first | rwa [add_block] at this | exact this) aN.out); replace au := G.hx HB au; replace au := (cell_far (p := ⟨al, 0, none⟩) (by first | (rw [add_block]; exact aP) | (show (Addr.add _ _).block ≠ _; rw [add_block]; exact aP) | exact aP) (.int .i64 ((rd_T51 aa a1).f0))).trans au; replace au := (cell_far (p := ⟨al, 1, none⟩) (by first | (rw [add_block]; exact aQ) | (show (Addr.add _ _).block ≠ _; rw [add_block]; exact aQ) | exact aQ) (.int .i64 ((rd_T51 aa a1).f1))).trans au; clear aP aQ; replace bJ := eq_true bJ; replace bK := eq_true bK
          go_wp2
          go_meet
          case rel => exact ⟨_, (rdOf false l2 ((rd_T51 aa a1).f1)), (by first | rfl | (simp; done) | (simp [*]; done)), H', ⟨by first | omega | exact Nat.le_refl _⟩, ⟨caav⟩, ⟨caau⟩, ⟨G.cB HB.out⟩⟩
         ·rw [if_neg bY] at H; exact absurd H (by simp)
        ·rw [if_neg bX] at H; exact absurd H (by simp)
      ·rw [if_neg bV] at H; exact absurd H (by simp)
     ·rw [if_neg bT] at H; exact absurd H (by simp)
    case rest =>
     clear bH; (try clear c2 bG cU cW ch ci cl cm cp cq cj ck cn co cr ct a9 a_ bA bB); obtain ⟨kq, bc, rfl, HA, cO, ac, ae, HB⟩ := hcut; cases kq with
     | zero => exact absurd HA.out (by simp [spec_l24Most.j0])
     | succ bf =>
      have H := HA.out; clear HA; simp only [spec_l24Most.j0] at H
      by_cases bZ : bc = true
      ·subst bZ; have H1 : (some aj) = some r := by rw [if_pos rfl] at H; exact H
       clear H; have H := H1; clear H1; obtain rfl := Option.some.inj H
       go_wp2
       go_ret
       exact ⟨caat, G.cB HB.out⟩
      ·replace bZ := Bool.eq_false_iff.mpr bZ; subst bZ; have H1 : ((some (([] : List Bool) : List Bool)).bind fun aA => (if aA.length + l2.length < 140737488355328 then ((some (aA ++ l2 : List Bool)).bind fun ah => (if 0 ≤ ((rd_T51 aa a1).f0) then (if ((rd_T51 aa a1).f0) < (ah.length : Int) then (if 0 ≤ ((rd_T51 aa a1).f1) then (if ((rd_T51 aa a1).f1) < (ah.length : Int) then ((spec_l24Most.f bf ab aa (wrap64 (a1 + 1)) ((ah.set (((rd_T51 aa a1).f0) : Int).toNat true).set (((rd_T51 aa a1).f1) : Int).toNat true)).bind fun ak => (if (wrap64 (1 + ak)) > aj then (some (wrap64 (1 + ak))) else (some aj))) else (none)) else (none)) else (none)) else (none))) else (none))) = some r := by rw [if_neg (show ¬ (false = true) by decide)] at H; exact H
       clear H; have H := H1; clear H1; obtain ⟨aA, aY⟩ : ∃ y_ : List Bool, y_ = (([] : List Bool)) := ⟨_, rfl⟩; replace H : (if aA.length + l2.length < 140737488355328 then ((some (aA ++ l2 : List Bool)).bind fun ah => (if 0 ≤ ((rd_T51 aa a1).f0) then (if ((rd_T51 aa a1).f0) < (ah.length : Int) then (if 0 ≤ ((rd_T51 aa a1).f1) then (if ((rd_T51 aa a1).f1) < (ah.length : Int) then ((spec_l24Most.f bf ab aa (wrap64 (a1 + 1)) ((ah.set (((rd_T51 aa a1).f0) : Int).toNat true).set (((rd_T51 aa a1).f1) : Int).toNat true)).bind fun ak => (if (wrap64 (1 + ak)) > aj then (some (wrap64 (1 + ak))) else (some aj))) else (none)) else (none)) else (none)) else (none))) else (none)) = some r := by first | (rw [aY]; with_reducible exact H) | (have ax := (Option.bind_some _ _).symm.trans H; rw [aY]; with_reducible exact ax) | (have ax := (Option.bind_some _ _).symm.trans H; with_reducible exact ax) | with_reducible exact H | (rw [aY]; exact H) | exact H
       have bd := G.m aY; clear aY
       by_cases b1 : aA.length + l2.length < 140737488355328
       ·rw [if_pos b1] at H; have b2 := G.m b1; clear b1; obtain ⟨ah, aZ⟩ : ∃ y_ : List Bool, y_ = (aA ++ l2) := ⟨_, rfl⟩; replace H : (if 0 ≤ ((rd_T51 aa a1).f0) then (if ((rd_T51 aa a1).f0) < (ah.length : Int) then (if 0 ≤ ((rd_T51 aa a1).f1) then (if ((rd_T51 aa a1).f1) < (ah.length : Int) then ((spec_l24Most.f bf ab aa (wrap64 (a1 + 1)) ((ah.set (((rd_T51 aa a1).f0) : Int).toNat true).set (((rd_T51 aa a1).f1) : Int).toNat true)).bind fun ak => (if (wrap64 (1 + ak)) > aj then (some (wrap64 (1 + ak))) else (some aj))) else (none)) else (none)) else (none)) else (none)) = some r := by first | (rw [aZ]; with_reducible exact H) | (have ax := (Option.bind_some _ _).symm.trans H; rw [aZ]; with_reducible exact ax) | (have ax := (Option.bind_some _ _).symm.trans H; with_reducible exact ax) | with_reducible exact H | (rw [aZ]; exact H) | exact H
        have b3 := G.m aZ; clear aZ
        by_cases b4 : 0 ≤ ((rd_T51 aa a1).f0)
        ·rw [if_pos b4] at H; have el : decide (0 ≤ ((rd_T51 aa a1).f0)) = true := decide_eq_true b4; clear b4
         by_cases b5 : ((rd_T51 aa a1).f0) < (ah.length : Int)
         ·rw [if_pos b5] at H; have em : decide (((rd_T51 aa a1).f0) < (ah.length : Int)) = true := decide_eq_true b5; clear b5; obtain ⟨bE, a4⟩ : ∃ y_ : List Bool, y_ = (ah.set (((rd_T51 aa a1).f0) : Int).toNat true) := ⟨_, rfl⟩; replace H : (if 0 ≤ ((rd_T51 aa a1).f1) then (if ((rd_T51 aa a1).f1) < (ah.length : Int) then ((spec_l24Most.f bf ab aa (wrap64 (a1 + 1)) (bE.set (((rd_T51 aa a1).f1) : Int).toNat true)).bind fun ak => (if (wrap64 (1 + ak)) > aj then (some (wrap64 (1 + ak))) else (some aj))) else (none)) else (none)) = some r := by first | (rw [a4]; with_reducible exact H) | (have ax := (Option.bind_some _ _).symm.trans H; rw [a4]; with_reducible exact ax) | (have ax := (Option.bind_some _ _).symm.trans H; with_reducible exact ax) | with_reducible exact H | (rw [a4]; exact H) | exact H
          have b6 := G.m a4; clear a4
          by_cases b7 : 0 ≤ ((rd_T51 aa a1).f1)
          ·rw [if_pos b7] at H; have en : decide (0 ≤ ((rd_T51 aa a1).f1)) = true := decide_eq_true b7; clear b7
           by_cases b8 : ((rd_T51 aa a1).f1) < (ah.length : Int)
           ·rw [if_pos b8] at H; have eo : decide (((rd_T51 aa a1).f1) < (ah.length : Int)) = true := decide_eq_true b8; clear b8; obtain ⟨aH, a5⟩ : ∃ y_ : List Bool, y_ = (bE.set (((rd_T51 aa a1).f1) : Int).toNat true) := ⟨_, rfl⟩; replace H : ((spec_l24Most.f bf ab aa (wrap64 (a1 + 1)) aH).bind fun ak => (if (wrap64 (1 + ak)) > aj then (some (wrap64 (1 + ak))) else (some aj))) = some r := by first | (rw [a5]; with_reducible exact H) | (have ax := (Option.bind_some _ _).symm.trans H; rw [a5]; with_reducible exact ax) | (have ax := (Option.bind_some _ _).symm.trans H; with_reducible exact ax) | with_reducible exact H | (rw [a5]; exact H) | exact H
            have b9 := G.m a5; clear a5; obtain ⟨ak, cP, H⟩ := G.bi H; replace H : (if (wrap64 (1 + ak)) > aj then (some (wrap64 (1 + ak))) else (some aj)) = some r := H
            by_cases bw : (wrap64 (1 + ak)) > aj
            ·rw [if_pos bw] at H; have cJ : decide (aj < (wrap64 (1 + ak))) = true := decide_eq_true bw; clear bw; obtain rfl := Option.some.inj H
             go_wp2_with (first | ((with_reducible refine G.h 39 rfl ?_); refine Kd.R_lit Kd.bool _ 4 ?hg (N := 39) ?hd (xs := ([] : List Bool)) (inner := []) (ok := fun _ => True) (okp := fun _ => True) ?hr ?hp (fun _ hk => hk) trivial (Below.refl _ _) (Nat.le_refl _) (by simp) ?_; (case hd => rfl); (case hg => rfl); (case hr => first | (go_simp; done) | (go_simp; rfl)); (case hp => exact (Reps.none _ _)); intro bL eG bh hb hg_ hnew_; clear hg_ hnew_; (first | rw [← bd.out] at bh | (simp only [Int.reduceToNat] at bh; rw [← bd.out] at bh)); have n0 := G.m (Kd.R_lower bh (below_size (G.cB HB.out))); have n1 := G.bb ac hb; have n2 := G.bb ae hb; have n3 := G.bs HB hb; clear ac ae HB; revert n0 n1 n2 n3; intro aD ac ae HB; clear hb bh) | ((with_reducible refine gate_builtin (b := .append) (xs := #[.tmp 39, .tmp 40]) rfl ?_); at_builtin; refine Kd.R_append_rows Kd.bool (w0 := w) w.heap.size rfl (.tmp 39) (.tmp 40) 49 4 (.bool false) 1 rfl Tryd.underlying49 info4 rfl (by decide) (by omega) bL aA l2 _ _ _ (fun _ => True) (fun _ => False) rfl rfl ?aO ?aR (fun _ _ h => h) (fun _ h => h.elim) ?aF ?aB ?aS ?aL ?_; (case aR => exact G.cC (Kd.C_below bv.out HB.out)); (case aB => exact (G.cB HB.out)); (case aF => exact (fun _ _ => trivial)); (case aO => exact (G.cR aD.out)); (case aS => exact (below_size (G.cB HB.out))); (case aL => have := b2.out; omega); intro cZ cx ho hb hg hat; rw [← b3.out] at ho; have n0 := G.bg ac hg (Kd.R_ne aD.out ac.out (by decide)); have n1 := G.bg ae hg (Kd.R_ne aD.out ae.out (by decide)); have n2 := G.m (hb); have n3 := G.m (ho); clear ac ae HB aD; revert n0 n1 n2 n3; intro ac ae HB af; clear ho hb hg hat; have ep := az.out; have eq := ao.out; have ⟨dl, dn, dp, dq⟩ := G.d2 (w := cx) ae; have bj : 0 ≤ (((rd_T51 aa a1).f0) : Int) := of_decide_eq_true (G.asm); have bk : (((rd_T51 aa a1).f0) : Int) < ((ah.length : Int) : Int) := of_decide_eq_true (G.asm); obtain ⟨aw, aW, bl, bm, bM, c_, bn⟩ := Kd.R_form af.out (by omega); (first | cases bl | (injection bl with ea_ en_ ec_; (first | subst ea_ | (injection ea_ with ea_; subst ea_)); subst ec_; clear en_)); have bo := G.m bm; have da := G.m bn; clear bm bM bn; obtain ⟨cy, cz⟩ := Kd.R_celln false af.out (((rd_T51 aa a1).f0) : Int) bj bk; replace bj := eq_true bj; replace bk := eq_true bk; obtain ⟨er, es⟩ := Kd.R_celln false af.out (((rd_T51 aa a1).f0) : Int) (of_decide_eq_true (G.asm)) (of_decide_eq_true (G.asm)); have bN := Kd.R_putg af.out (((rd_T51 aa a1).f0) : Int) true) | ((with_reducible refine gate_store (t := 4) (p := 45) rfl ?_); refine store_event (t := 4) (p := 45) (v := ?vo_w44) (w1 := (cx.setCell ⟨aw, (((rd_T51 aa a1).f0) : Int).toNat, none⟩ (.bool true))) ?hg ?ho ?hn ?hr ?_; (case ho => rfl); (case hg => rfl); (case hn => rfl); (case hr => first | (go_simp; done) | (go_simp; rfl)); intro bx hw; have hg : cx.grownBy bx (some aw) := (by rw [hw]; exact bN.2); have hp_ : Kd.R Kd.bool 4 bx w.heap.size (fun _ => True) (.slice (some ⟨aw, 0, none⟩) ah.length aW) bE := (by rw [hw, b6.out]; exact bN.1); clear bN; have n0 := G.bg ac hg (Kd.R_ne af.out ac.out (by decide)); have n1 := G.bg ae hg (Kd.R_ne af.out ae.out (by decide)); have n2 := G.m (hp_); have n3 := G.m ((by rw [hw]; exact below_set (HB.out) bo.out : Below w.heap.size w bx)); clear ac ae af HB; revert n0 n1 n2 n3; intro ac ae af HB; clear hg hw hp_; have ⟨dr, dt, du, dv⟩ := G.d2 (w := bx) ae; have bp : 0 ≤ (((rd_T51 aa a1).f1) : Int) := of_decide_eq_true (G.asm); have bq : (((rd_T51 aa a1).f1) : Int) < ((ah.length : Int) : Int) := of_decide_eq_true (G.asm); obtain ⟨cA, cD⟩ := Kd.R_celln false af.out (((rd_T51 aa a1).f1) : Int) bp bq; replace bp := eq_true bp; replace bq := eq_true bq; obtain ⟨et, eu⟩ := Kd.R_celln false af.out (((rd_T51 aa a1).f1) : Int) (of_decide_eq_true (G.asm)) (of_decide_eq_true (G.asm)); have bO := Kd.R_putg af.out (((rd_T51 aa a1).f1) : Int) true) | ((with_reducible refine gate_store (t := 4) (p := 49) rfl ?_); refine store_event (t := 4) (p := 49) (v := ?vo_w47) (w1 := (bx.setCell ⟨aw, (((rd_T51 aa a1).f1) : Int).toNat, none⟩ (.bool true))) ?hg ?ho ?hn ?hr ?_; (case ho => rfl); (case hg => rfl); (case hn => rfl); (case hr => first | (go_simp; done) | (go_simp; rfl)); intro ca hw; have hg : bx.grownBy ca (some aw) := (by rw [hw]; exact bO.2); have hp_ : Kd.R Kd.bool 4 ca w.heap.size (fun _ => True) (.slice (some ⟨aw, 0, none⟩) ah.length aW) aH := (by rw [hw, b9.out]; exact bO.1); clear bO; have n0 := G.bg ac hg (Kd.R_ne af.out ac.out (by decide)); have n1 := G.bg ae hg (Kd.R_ne af.out ae.out (by decide)); have n2 := G.m (hp_); have n3 := G.m ((by rw [hw]; exact below_set (HB.out) bo.out : Below w.heap.size w ca)); clear ac ae af HB; revert n0 n1 n2 n3; intro ac ae af HB; clear hg hw hp_; have ⟨dw, dx, dy, dz⟩ := G.d2 (w := ca) ac) | ((with_reducible refine gate_callee (f := 46) rfl ?_); refine goesL_ (some 54) rfl rfl Tryd.func46 (by kernel_rfl) rfl #[.agg #[.int .i64 ab, .slice (some aX) aa.length am], .int .i64 (wrap64 (a1 + 1)), .slice (some ⟨aw, 0, none⟩) aH.length aW] rfl (caaw) ?_; (with_reducible refine (ih bf (by have := cO.out; omega) ab _ _ aa (wrap64 (a1 + 1)) _ _ aH ak _ ?side1 ?side2 ?side3 ?side4 cP.out).mono ?_); (case side1 => exact G.cC (Kd.C_below aE.out HB.out)); (case side2 => exact aI.out); (case side3 => exact G.cC (Kd.R_reads' af.out).2.2); (case side4 => rw [show aH.length = ah.length from (Kd.R_reads' af.out).1.symm]; exact (Kd.R_reads' af.out).2.1); rintro e eH ⟨rfl, hb⟩; refine ⟨_, rfl, ?_⟩; have n0 := G.rb af hb; have n1 := G.bb ac hb; have n2 := G.bb ae hb; have n3 := G.bs HB hb; clear af ac ae HB; revert n0 n1 n2 n3; intro af ac ae HB; (try clear hb)))
             go_ret
             exact ⟨caat, G.cB HB.out⟩
            ·rw [if_neg bw] at H; have cJ : decide (aj < (wrap64 (1 + ak))) = false := decide_eq_false bw; clear bw; obtain rfl := Option.some.inj H
             go_wp2_with (first | ((with_reducible refine G.h 39 rfl ?_); refine Kd.R_lit Kd.bool _ 4 ?hg (N := 39) ?hd (xs := ([] : List Bool)) (inner := []) (ok := fun _ => True) (okp := fun _ => True) ?hr ?hp (fun _ hk => hk) trivial (Below.refl _ _) (Nat.le_refl _) (by simp) ?_; (case hd => rfl); (case hg => rfl); (case hr => first | (go_simp; done) | (go_simp; rfl)); (case hp => exact (Reps.none _ _)); intro bL eI br hb hg_ hnew_; clear hg_ hnew_; (first | rw [← bd.out] at br | (simp only [Int.reduceToNat] at br; rw [← bd.out] at br)); have n0 := G.m (Kd.R_lower br (below_size (G.cB HB.out))); have n1 := G.bb ac hb; have n2 := G.bb ae hb; have n3 := G.bs HB hb; clear ac ae HB; revert n0 n1 n2 n3; intro aD ac ae HB; clear hb br) | ((with_reducible refine gate_builtin (b := .append) (xs := #[.tmp 39, .tmp 40]) rfl ?_); at_builtin; refine Kd.R_append_rows Kd.bool (w0 := w) w.heap.size rfl (.tmp 39) (.tmp 40) 49 4 (.bool false) 1 rfl Tryd.underlying49 info4 rfl (by decide) (by omega) bL aA l2 _ _ _ (fun _ => True) (fun _ => False) rfl rfl ?aO ?aR (fun _ _ h => h) (fun _ h => h.elim) ?aF ?aB ?aS ?aL ?_; (case aR => exact G.cC (Kd.C_below bv.out HB.out)); (case aB => exact (G.cB HB.out)); (case aF => exact (fun _ _ => trivial)); (case aO => exact (G.cR aD.out)); (case aS => exact (below_size (G.cB HB.out))); (case aL => have := b2.out; omega); intro cZ cE ho hb hg hat; rw [← b3.out] at ho; have n0 := G.bg ac hg (Kd.R_ne aD.out ac.out (by decide)); have n1 := G.bg ae hg (Kd.R_ne aD.out ae.out (by decide)); have n2 := G.m (hb); have n3 := G.m (ho); clear ac ae HB aD; revert n0 n1 n2 n3; intro ac ae HB af; clear ho hb hg hat; have ev := az.out; have ew := ao.out; have ⟨dA, dB, dC, dD⟩ := G.d2 (w := cE) ae; have bj : 0 ≤ (((rd_T51 aa a1).f0) : Int) := of_decide_eq_true (G.asm); have bk : (((rd_T51 aa a1).f0) : Int) < ((ah.length : Int) : Int) := of_decide_eq_true (G.asm); obtain ⟨aw, aW, bl, bm, bM, c_, bn⟩ := Kd.R_form af.out (by omega); (first | cases bl | (injection bl with ea_ en_ ec_; (first | subst ea_ | (injection ea_ with ea_; subst ea_)); subst ec_; clear en_)); have bo := G.m bm; have da := G.m bn; clear bm bM bn; obtain ⟨cy, cz⟩ := Kd.R_celln false af.out (((rd_T51 aa a1).f0) : Int) bj bk; replace bj := eq_true bj; replace bk := eq_true bk; obtain ⟨ex, ey⟩ := Kd.R_celln false af.out (((rd_T51 aa a1).f0) : Int) (of_decide_eq_true (G.asm)) (of_decide_eq_true (G.asm)); have bP := Kd.R_putg af.out (((rd_T51 aa a1).f0) : Int) true) | ((with_reducible refine gate_store (t := 4) (p := 45) rfl ?_); refine store_event (t := 4) (p := 45) (v := ?vo_w56) (w1 := (cE.setCell ⟨aw, (((rd_T51 aa a1).f0) : Int).toNat, none⟩ (.bool true))) ?hg ?ho ?hn ?hr ?_; (case ho => rfl); (case hg => rfl); (case hn => rfl); (case hr => first | (go_simp; done) | (go_simp; rfl)); intro bz hw; have hg : cE.grownBy bz (some aw) := (by rw [hw]; exact bP.2); have hp_ : Kd.R Kd.bool 4 bz w.heap.size (fun _ => True) (.slice (some ⟨aw, 0, none⟩) ah.length aW) bE := (by rw [hw, b6.out]; exact bP.1); clear bP; have n0 := G.bg ac hg (Kd.R_ne af.out ac.out (by decide)); have n1 := G.bg ae hg (Kd.R_ne af.out ae.out (by decide)); have n2 := G.m (hp_); have n3 := G.m ((by rw [hw]; exact below_set (HB.out) bo.out : Below w.heap.size w bz)); clear ac ae af HB; revert n0 n1 n2 n3; intro ac ae af HB; clear hg hw hp_; have ⟨dE, dF, dG, dH⟩ := G.d2 (w := bz) ae; have bp : 0 ≤ (((rd_T51 aa a1).f1) : Int) := of_decide_eq_true (G.asm); have bq : (((rd_T51 aa a1).f1) : Int) < ((ah.length : Int) : Int) := of_decide_eq_true (G.asm); obtain ⟨cA, cD⟩ := Kd.R_celln false af.out (((rd_T51 aa a1).f1) : Int) bp bq; replace bp := eq_true bp; replace bq := eq_true bq; obtain ⟨ez, eA⟩ := Kd.R_celln false af.out (((rd_T51 aa a1).f1) : Int) (of_decide_eq_true (G.asm)) (of_decide_eq_true (G.asm)); have bQ := Kd.R_putg af.out (((rd_T51 aa a1).f1) : Int) true) | ((with_reducible refine gate_store (t := 4) (p := 49) rfl ?_); refine store_event (t := 4) (p := 49) (v := ?vo_w59) (w1 := (bz.setCell ⟨aw, (((rd_T51 aa a1).f1) : Int).toNat, none⟩ (.bool true))) ?hg ?ho ?hn ?hr ?_; (case ho => rfl); (case hg => rfl); (case hn => rfl); (case hr => first | (go_simp; done) | (go_simp; rfl)); intro cd hw; have hg : bz.grownBy cd (some aw) := (by rw [hw]; exact bQ.2); have hp_ : Kd.R Kd.bool 4 cd w.heap.size (fun _ => True) (.slice (some ⟨aw, 0, none⟩) ah.length aW) aH := (by rw [hw, b9.out]; exact bQ.1); clear bQ; have n0 := G.bg ac hg (Kd.R_ne af.out ac.out (by decide)); have n1 := G.bg ae hg (Kd.R_ne af.out ae.out (by decide)); have n2 := G.m (hp_); have n3 := G.m ((by rw [hw]; exact below_set (HB.out) bo.out : Below w.heap.size w cd)); clear ac ae af HB; revert n0 n1 n2 n3; intro ac ae af HB; clear hg hw hp_; have ⟨dI, dJ, dK, dL⟩ := G.d2 (w := cd) ac) | ((with_reducible refine gate_callee (f := 46) rfl ?_); refine goesL_ (some 54) rfl rfl Tryd.func46 (by kernel_rfl) rfl #[.agg #[.int .i64 ab, .slice (some aX) aa.length am], .int .i64 (wrap64 (a1 + 1)), .slice (some ⟨aw, 0, none⟩) aH.length aW] rfl (caaw) ?_; (with_reducible refine (ih bf (by have := cO.out; omega) ab _ _ aa (wrap64 (a1 + 1)) _ _ aH ak _ ?side1 ?side2 ?side3 ?side4 cP.out).mono ?_); (case side1 => exact G.cC (Kd.C_below aE.out HB.out)); (case side2 => exact aI.out); (case side3 => exact G.cC (Kd.R_reads' af.out).2.2); (case side4 => rw [show aH.length = ah.length from (Kd.R_reads' af.out).1.symm]; exact (Kd.R_reads' af.out).2.1); rintro e eJ ⟨rfl, hb⟩; refine ⟨_, rfl, ?_⟩; have n0 := G.rb af hb; have n1 := G.bb ac hb; have n2 := G.bb ae hb; have n3 := G.bs HB hb; clear af ac ae HB; revert n0 n1 n2 n3; intro af ac ae HB; (try clear hb)))
             go_ret
             exact ⟨caat, G.cB HB.out⟩
           ·rw [if_neg b8] at H; exact absurd H (by simp)
          ·rw [if_neg b7] at H; exact absurd H (by simp)
         ·rw [if_neg b5] at H; exact absurd H (by simp)
        ·rw [if_neg b4] at H; exact absurd H (by simp)
       ·rw [if_neg b1] at H; exact absurd H (by simp)
   ·rw [if_neg c9] at H; exact absurd H (by simp)
  ·rw [if_neg c8] at H; exact absurd H (by simp)
def spec_PairSize.f (k : Nat) (ab : Int) (aa : List (S51)) : Option (Int) := (spec_NetOk.f k ab aa).bind fun ba => (if ba = true then (if 0 ≤ ab then (if (ab : Int).toNat ≤ 281474976710656 then ((spec_l24Most.f k ab aa 0 (List.replicate (ab : Int).toNat false)).bind fun aC => (some aC)) else (none)) else (none)) else (some (-1)))
set_option maxHeartbeats 8000000 in
set_option maxRecDepth 100000 in
theorem spec_PairSize.calls (k : Nat) (ab : Int) (av : Option Addr) (am : Nat) (aa : List (S51)) (r : Int) (w : World) (aK : Kd.C k51 w av aa.length aa) (aM : aa.length ≤ am) (h : spec_PairSize.f k ab aa = some r) :
  Calls Tryd.prog 15 #[.agg #[.int .i64 ab, .slice av aa.length am]] w fun e w' => e = .returned (.int .i64 r) ∧ Below w.heap.size w w' := by
 have cT := Tryd.underlying29; have aE := G.m aK; have aI := G.m aM; clear aK aM; have HB := G.m (Below.refl w.heap.size w); have H : ((spec_NetOk.f k ab aa).bind fun ba => (if ba = true then (if 0 ≤ ab then (if (ab : Int).toNat ≤ 281474976710656 then ((spec_l24Most.f k ab aa 0 (List.replicate (ab : Int).toNat false)).bind fun aC => (some aC)) else (none)) else (none)) else (some (-1)))) = some r := h; clear h; obtain ⟨ba, A2, H⟩ := G.bi H; replace H : (if ba = true then (if 0 ≤ ab then (if (ab : Int).toNat ≤ 281474976710656 then ((spec_l24Most.f k ab aa 0 (List.replicate (ab : Int).toNat false)).bind fun aC => (some aC)) else (none)) else (none)) else (some (-1))) = some r := H
 by_cases c3 : ba = true
 ·subst c3; have H1 : (if 0 ≤ ab then (if (ab : Int).toNat ≤ 281474976710656 then ((spec_l24Most.f k ab aa 0 (List.replicate (ab : Int).toNat false)).bind fun aC => (some aC)) else (none)) else (none)) = some r := by rw [if_pos rfl] at H; exact H
  clear H; have H := H1; clear H1
  by_cases c4 : 0 ≤ ab
  ·rw [if_pos c4] at H; have bG := eq_true c4; have eC : decide (0 ≤ ab) = true := decide_eq_true c4; clear c4
   by_cases c5 : (ab : Int).toNat ≤ 281474976710656
   ·rw [if_pos c5] at H; have eD := eq_true c5; have eE : decide ((ab : Int).toNat ≤ 281474976710656) = true := decide_eq_true c5; clear c5; obtain ⟨bR, a6⟩ : ∃ y_ : List Bool, y_ = (List.replicate (ab : Int).toNat false) := ⟨_, rfl⟩; replace H : ((spec_l24Most.f k ab aa 0 bR).bind fun aC => (some aC)) = some r := by first | (rw [a6]; with_reducible exact H) | (have ax := (Option.bind_some _ _).symm.trans H; rw [a6]; with_reducible exact ax) | (have ax := (Option.bind_some _ _).symm.trans H; with_reducible exact ax) | with_reducible exact H | (rw [a6]; exact H) | exact H
    have ce := G.m a6; clear a6; obtain ⟨aC, A6, H⟩ := G.bi H; replace H : (some aC) = some r := H; obtain rfl := Option.some.inj H
    go_enter Tryd.func15, Tryd.ntmps15; try go_wp2_with (first | ((with_reducible refine G.h 1 rfl ?_); refine G.be 1 #[.int .i64 ab, .slice av aa.length am] 29 ?_; intro aJ hg w7 hbox hb; have n0 := G.bs HB hb; have n1 := G.m (hbox); have n2 := G.m (caas : w.heap.size ≤ aJ); have n3 := G.m (caas : w.heap.size ≤ aJ); clear HB; revert n0 n1 n2 n3; intro HB ai cL cM; clear hb hbox hg; have ⟨dY, dZ, d7, d8⟩ := G.d2 (w := w7) ai) | ((with_reducible refine G.f 38 rfl ?_); refine G.gL 4 Tryd.func38 #[.agg #[.int .i64 ab, .slice av aa.length am]] ?_; (with_reducible refine (spec_NetOk.calls k ab _ _ aa true _ ?side1 ?side2 A2.out).mono ?_); (case side1 => exact G.cC (Kd.C_below aE.out HB.out)); (case side2 => exact aI.out); rintro e w9 ⟨rfl, hb⟩; refine ⟨_, rfl, ?_⟩; have n0 := G.bb ai hb; have n1 := G.bs HB hb; clear ai HB; revert n0 n1; intro ai HB; (try clear hb)))
    have n0 := G.m (blk_drew ai.out); have n1 := G.m (below_drew1 HB.out); clear ai HB; revert n0 n1; intro ai HB; refine start_ (n := 6) (S := fun w' => w'.cell? ⟨aJ, 0, none⟩ = some (.int .i64 ab) ∧ w'.cell? ⟨aJ, 1, none⟩ = some (.slice av aa.length am)) (ds := []) (G.fl 6 0) (by kernel_rfl) rfl (by kernel_rfl) ⟨G.z ai 0, G.z ai 1⟩ (fun hHeld => ?_); generalize w9.drew = eK at ai HB hHeld ⊢; refine G.pu 1 7 2 ?_; refine G.ta2 0 6 3 ?_; refine G.ta2 2 8 7 ?_; refine one_ (i := 3) (N := some 9) (G.fl 6 15) rfl rfl (by kernel_rfl) (by decide) (fun K hK => ?_); refine Kd.R_make_step Kd.bool _ 4 (by rfl) (N := 9) rfl 49 _ _ rfl ab rfl rfl Tryd.underlying49 (.bool false) 1 info4 rfl (by decide) (by omega) false (ok := fun _ => True) (okp := fun _ => True) rfl (fun _ hk => hk) trivial (of_decide_eq_true (G.asm)) (Nat.le_trans (Nat.mul_le_mul_right _ (of_decide_eq_true (G.asm) : ab.toNat ≤ 281474976710656)) (by omega)) (Below.refl _ _) (Nat.le_refl _) ?_; intro eF cN bu hb hg_ hnew_; clear hg_ hnew_; (first | rw [← ce.out] at bu | (simp only [Int.reduceToNat] at bu; rw [← ce.out] at bu)); have n0 := G.m (Kd.R_lower bu (below_size (G.cB HB.out))); have n1 := G.bb ai hb; have n2 := G.bs HB hb; clear ai HB; revert n0 n1 n2; intro aT ai HB; clear hb bu; obtain ⟨db, dc, cF⟩ := Kd.R_slice aT.out; (first | subst cF | (injection cF with cQ d9 cS; have d_ := cQ.symm; have ea := cS.symm; clear cQ d9 cS; subst d_; subst ea)); refine hK.out _ _ ⟨G.z ai 0, G.z ai 1⟩ (fun hHeld => ?_); clear hK K; refine G.no 9 ?_; refine one_ (i := 4) (N := some 10) (G.fl 6 31) rfl rfl (by kernel_rfl) (by decide) (fun K hK => ?_); refine G.gs Tryd.func46 #[.agg #[.int .i64 ab, .slice av aa.length am], .int .i64 0, .slice db bR.length dc] ?_; with_reducible refine (spec_l24Most.calls k ab _ _ aa 0 _ _ bR aC _ ?side1 ?side2 ?side3 ?side4 A6.out).mono ?_
    (case side1 => exact G.cC (Kd.C_below aE.out HB.out)); (case side2 => exact aI.out); (case side3 => exact G.cC (Kd.R_reads' aT.out).2.2); (case side4 => exact (Kd.R_reads' aT.out).2.1); rintro e eL ⟨rfl, hb⟩; refine ⟨_, rfl, ?_⟩; have n0 := G.rb aT hb; have n1 := G.bb ai hb; have n2 := G.bs HB hb; clear aT ai HB; revert n0 n1 n2; intro aT ai HB; (try clear hb eM hk hi); refine hK.out _ _ ⟨G.z ai 0, G.z ai 1⟩ (fun hHeld => ?_); clear hK K; refine G.no 10 ?_; refine G.pu 5 2 63 ?_; refine done_ (by kernel_rfl) ?_; try go_wp2
    go_ret
    exact ⟨caat, G.cB HB.out⟩
   ·rw [if_neg c5] at H; exact absurd H (by simp)
  ·rw [if_neg c4] at H; exact absurd H (by simp)
 ·replace c3 := Bool.eq_false_iff.mpr c3; subst c3; have H1 : (some (-1)) = some r := by rw [if_neg (show ¬ (false = true) by decide)] at H; exact H
  clear H; have H := H1; clear H1; obtain rfl := Option.some.inj H
  go_enter Tryd.func15, Tryd.ntmps15
  go_wp2_with (first | ((with_reducible refine G.h 1 rfl ?_); refine G.be 1 #[.int .i64 ab, .slice av aa.length am] 29 ?_; intro aJ hg bF hbox hb; have n0 := G.bs HB hb; have n1 := G.m (hbox); have n2 := G.m (caas : w.heap.size ≤ aJ); have n3 := G.m (caas : w.heap.size ≤ aJ); clear HB; revert n0 n1 n2 n3; intro HB ai cL cM; clear hb hbox hg; have ⟨dM, dN, dO, dP⟩ := G.d2 (w := bF) ai) | ((with_reducible refine G.f 38 rfl ?_); refine G.gL 4 Tryd.func38 #[.agg #[.int .i64 ab, .slice av aa.length am]] ?_; (with_reducible refine (spec_NetOk.calls k ab _ _ aa false _ ?side1 ?side2 A2.out).mono ?_); (case side1 => exact G.cC (Kd.C_below aE.out HB.out)); (case side2 => exact aI.out); rintro e eN ⟨rfl, hb⟩; refine ⟨_, rfl, ?_⟩; have n0 := G.bb ai hb; have n1 := G.bs HB hb; clear ai HB; revert n0 n1; intro ai HB; (try clear hb)))
  go_ret
  exact ⟨caat, G.cB HB.out⟩
theorem caar {p : Prop} (h : p := by (try simp only [List.map_toArray, List.map_cons, List.map_nil]); first | done | (simp only [bd]; rfl) | rfl | (simp only [List.length_drop, List.length_take]; rfl)) : p := h
theorem caap {p : Prop} (h : p := by rw [hg]; exact Nat.ne_of_lt (blk_lt (g := aq) (o := .cells #[.int .i64 ae, .slice (some a7) aa.length aR] 29 (0, 0)) (G.cb af.out))) : p := h
theorem caaq {p : Prop} (h : p := by rw [hg]; exact Nat.ne_of_gt (blk_lt (g := aq) (o := .cells #[.int .i64 ae, .slice (some a7) aa.length aR] 29 (0, 0)) (G.cb af.out))) : p := h
theorem caan {p : Prop} (h : p := by first | rfl | (simp [errW_none, errW_some] <;> rfl) | (simp [*, errW_none, errW_some] <;> rfl)) : p := h
theorem caal {p : Prop} (h : p := by first | rfl | (simp; done) | (simp [*]; done)) : p := h
theorem caam {p : Prop} (h : p := by rw [hg]; exact (below_size (G.cB HB.out))) : p := h
theorem caao {p : Prop} (h : p := by kernel_rfl) : p := h
def cmp_Or_int.l0 : Nat → Int → List Int → Int → Int → Option (Int)
 | 0, _, _, _, _ => none
 | k + 1, x3, x6, x7, x8 => if x8 < x7 then (if 0 ≤ x8 then (if x8 < (x6.length : Int) then (if (rd x6 x8) = x3 then (cmp_Or_int.l0 k x3 x6 x7 (wrap64 (x8 + 1))) else (some (rd x6 x8))) else (none)) else (none)) else (some x3)
def cmp_Or_int.f (k : Nat) (l0 : List Int) : Option (Int) := cmp_Or_int.l0 k 0 l0 (l0.length : Int) 0
set_option maxHeartbeats 8000000 in
set_option maxRecDepth 100000 in
theorem cmp_Or_int.calls (k : Nat) (A0 : Option Addr) (c0 : Nat) (l0 : List Int) (r : Int) (w : World) (bf : Kd.C (Kd.int .i64) w A0 l0.length l0) (bh : l0.length ≤ c0) (h : cmp_Or_int.f k l0 = some r) :
  Calls Tryd.prog 88 #[.slice A0 l0.length c0] w fun e w' => e = .returned (.int .i64 r) ∧ Drawn0 w w' := by
 have bj := G.m bf; have cJ := G.m bh; clear bf bh; have H : (cmp_Or_int.l0 k 0 l0 (l0.length : Int) 0) = some r := h; clear h; have H' := G.m H; clear H
 go_enter Tryd.func88, Tryd.ntmps88
 go_wp2
 go_loopg [8] k (fun kq v8 w' => ∃ (aj : Int), v8 = .int .i64 aj ∧ Aside0 (cmp_Or_int.l0 kq 0 l0 (l0.length : Int) aj = some r) ∧ Aside0 (kq ≤ k) ∧ Drawn0 w w')
 case atStart => exact ⟨(0), (caal), H', ⟨Nat.le_refl _⟩, by repeat (first | exact Drawn0.refl _ | apply Drawn0.step)⟩
 case round =>
  clear H'; obtain ⟨aj, rfl, HA, bw, ⟨m1, rfl⟩⟩ := hrel; cases gk with
  | zero => exact absurd HA.out (by simp [cmp_Or_int.l0])
  | succ k1 =>
   have H := HA.out; clear HA; simp only [cmp_Or_int.l0] at H
   by_cases c2 : aj < (l0.length : Int)
   ·rw [if_pos c2] at H; have bz : decide (aj < (l0.length : Int)) = true := decide_eq_true c2; clear c2
    by_cases c3 : 0 ≤ aj
    ·rw [if_pos c3] at H; have dx : decide (0 ≤ aj) = true := decide_eq_true c3; clear c3
     by_cases c4 : aj < (l0.length : Int)
     ·rw [if_pos c4] at H; have aU : decide (aj < (l0.length : Int)) = true := decide_eq_true c4; clear c4
      by_cases c5 : (rd l0 aj) = 0
      ·rw [if_pos c5] at H; have bL : ((rd l0 aj) == 0) = true := beq_iff_eq.mpr c5; have b_ : ((rd l0 aj) != 0) = false := bne_eq_false_iff_eq.mpr c5; clear c5; have H' := G.m H; clear H; have aV : 0 ≤ (aj : Int) := of_decide_eq_true (G.asm); have aW : aj < (l0.length : Int) := of_decide_eq_true (G.asm); obtain ⟨bV, bA, bK⟩ := Kd.at_int bj.out aj aV aW; cases bA; replace aV := eq_true aV; replace aW := eq_true aW
       go_wp2
       go_roundg k1
       case measure => have := bw.out; omega
       case rel => exact ⟨(wrap64 (aj + 1)), (caal), H', ⟨by have := bw.out; omega⟩, by repeat (first | exact Drawn0.refl _ | apply Drawn0.step)⟩
      ·rw [if_neg c5] at H; have bL : ((rd l0 aj) == 0) = false := beq_eq_false_iff_ne.mpr c5; have b_ : ((rd l0 aj) != 0) = true := bne_iff_ne.mpr c5; obtain rfl := Option.some.inj H; have aV : 0 ≤ (aj : Int) := of_decide_eq_true (G.asm); have aW : aj < (l0.length : Int) := of_decide_eq_true (G.asm); obtain ⟨bV, bA, bK⟩ := Kd.at_int bj.out aj aV aW; cases bA; replace aV := eq_true aV; replace aW := eq_true aW
       go_wp2
       go_ret
       exact ⟨caal, by repeat (first | exact Drawn0.refl _ | apply Drawn0.step)⟩
     ·rw [if_neg c4] at H; exact absurd H (by simp)
    ·rw [if_neg c3] at H; exact absurd H (by simp)
   ·rw [if_neg c2] at H; have bz : decide (aj < (l0.length : Int)) = false := decide_eq_false c2; clear c2; obtain rfl := Option.some.inj H
    go_wp2
    go_ret
    exact ⟨caal, by repeat (first | exact Drawn0.refl _ | apply Drawn0.step)⟩
def cmp_isNaN_int.f (a0 : Int) : Option (Bool) := some (a0 != a0)
set_option maxHeartbeats 8000000 in
set_option maxRecDepth 100000 in
theorem cmp_isNaN_int.calls (a0 : Int) (r : Bool) (w : World) (h : cmp_isNaN_int.f a0 = some r) :
  Calls Tryd.prog 107 #[.int .i64 a0] w fun e w' => e = .returned (.bool r) ∧ Drawn0 w w' := by
 have H : (some (a0 != a0)) = some r := h; clear h; obtain rfl := Option.some.inj H
 go_enter Tryd.func107, Tryd.ntmps107
 go_wp2
 go_ret
 exact ⟨caal, by repeat (first | exact Drawn0.refl _ | apply Drawn0.step)⟩
def cmp_Compare_int.f (a0 : Int) (a1 : Int) : Option (Int) := (cmp_isNaN_int.f a0).bind fun aX => ((cmp_isNaN_int.f a1).bind fun az => (if aX = true then (if az = true then (some 0) else (some (-1))) else (if az = true then (some 1) else (if a0 < a1 then (some (-1)) else (if a0 > a1 then (some 1) else (some 0))))))
set_option maxHeartbeats 8000000 in
set_option maxRecDepth 100000 in
theorem cmp_Compare_int.calls (a0 : Int) (a1 : Int) (r : Int) (w : World) (h : cmp_Compare_int.f a0 a1 = some r) :
  Calls Tryd.prog 89 #[.int .i64 a0, .int .i64 a1] w fun e w' => e = .returned (.int .i64 r) ∧ Drawn0 w w' := by
 have H : ((cmp_isNaN_int.f a0).bind fun aX => ((cmp_isNaN_int.f a1).bind fun az => (if aX = true then (if az = true then (some 0) else (some (-1))) else (if az = true then (some 1) else (if a0 < a1 then (some (-1)) else (if a0 > a1 then (some 1) else (some 0))))))) = some r := h; clear h; obtain ⟨aX, A3, H⟩ := G.bi H; replace H : ((cmp_isNaN_int.f a1).bind fun az => (if aX = true then (if az = true then (some 0) else (some (-1))) else (if az = true then (some 1) else (if a0 < a1 then (some (-1)) else (if a0 > a1 then (some 1) else (some 0)))))) = some r := H; obtain ⟨az, A4, H⟩ := G.bi H; replace H : (if aX = true then (if az = true then (some 0) else (some (-1))) else (if az = true then (some 1) else (if a0 < a1 then (some (-1)) else (if a0 > a1 then (some 1) else (some 0))))) = some r := H
 by_cases c5 : aX = true
 ·subst c5; have H1 : (if az = true then (some 0) else (some (-1))) = some r := by rw [if_pos rfl] at H; exact H
  clear H; have H := H1; clear H1
  by_cases c6 : az = true
  ·subst c6; have H1 : (some 0) = some r := by rw [if_pos rfl] at H; exact H
   clear H; have H := H1; clear H1; obtain rfl := Option.some.inj H
   go_enter Tryd.func89, Tryd.ntmps89
   go_wp2_with (first | ((with_reducible refine G.f 107 rfl ?_); refine G.gL 8 Tryd.func107 #[.int .i64 a0] ?_; (with_reducible refine (cmp_isNaN_int.calls a0 true _ A3.out).mono ?_); rintro e w' ⟨rfl, ⟨nd, rfl⟩⟩; refine ⟨_, rfl, ?_⟩) | ((with_reducible refine G.f 107 rfl ?_); refine G.gL 10 Tryd.func107 #[.int .i64 a1] ?_; (with_reducible refine (cmp_isNaN_int.calls a1 true _ A4.out).mono ?_); rintro e w' ⟨rfl, ⟨nd, rfl⟩⟩; refine ⟨_, rfl, ?_⟩))
   go_ret
   exact ⟨caal, by repeat (first | exact Drawn0.refl _ | apply Drawn0.step)⟩
  ·replace c6 := Bool.eq_false_iff.mpr c6; subst c6; have H1 : (some (-1)) = some r := by rw [if_neg (show ¬ (false = true) by decide)] at H; exact H
   clear H; have H := H1; clear H1; obtain rfl := Option.some.inj H
   go_enter Tryd.func89, Tryd.ntmps89
   go_wp2_with (first | ((with_reducible refine G.f 107 rfl ?_); refine G.gL 8 Tryd.func107 #[.int .i64 a0] ?_; (with_reducible refine (cmp_isNaN_int.calls a0 true _ A3.out).mono ?_); rintro e w' ⟨rfl, ⟨nd, rfl⟩⟩; refine ⟨_, rfl, ?_⟩) | ((with_reducible refine G.f 107 rfl ?_); refine G.gL 10 Tryd.func107 #[.int .i64 a1] ?_; (with_reducible refine (cmp_isNaN_int.calls a1 false _ A4.out).mono ?_); rintro e w' ⟨rfl, ⟨nd, rfl⟩⟩; refine ⟨_, rfl, ?_⟩))
   go_ret
   exact ⟨caal, by repeat (first | exact Drawn0.refl _ | apply Drawn0.step)⟩
 ·replace c5 := Bool.eq_false_iff.mpr c5; subst c5; have H1 : (if az = true then (some 1) else (if a0 < a1 then (some (-1)) else (if a0 > a1 then (some 1) else (some 0)))) = some r := by rw [if_neg (show ¬ (false = true) by decide)] at H; exact H
  clear H; have H := H1; clear H1
  by_cases c7 : az = true
  ·subst c7; have H1 : (some 1) = some r := by rw [if_pos rfl] at H; exact H
   clear H; have H := H1; clear H1; obtain rfl := Option.some.inj H
   go_enter Tryd.func89, Tryd.ntmps89
   go_wp2_with (first | ((with_reducible refine G.f 107 rfl ?_); refine G.gL 8 Tryd.func107 #[.int .i64 a0] ?_; (with_reducible refine (cmp_isNaN_int.calls a0 false _ A3.out).mono ?_); rintro e w' ⟨rfl, ⟨nd, rfl⟩⟩; refine ⟨_, rfl, ?_⟩) | ((with_reducible refine G.f 107 rfl ?_); refine G.gL 10 Tryd.func107 #[.int .i64 a1] ?_; (with_reducible refine (cmp_isNaN_int.calls a1 true _ A4.out).mono ?_); rintro e w' ⟨rfl, ⟨nd, rfl⟩⟩; refine ⟨_, rfl, ?_⟩))
   go_ret
   exact ⟨caal, by repeat (first | exact Drawn0.refl _ | apply Drawn0.step)⟩
  ·replace c7 := Bool.eq_false_iff.mpr c7; subst c7; have H1 : (if a0 < a1 then (some (-1)) else (if a0 > a1 then (some 1) else (some 0))) = some r := by rw [if_neg (show ¬ (false = true) by decide)] at H; exact H
   clear H; have H := H1; clear H1
   by_cases c8 : a0 < a1
   ·rw [if_pos c8] at H; have bB : decide (a0 < a1) = true := decide_eq_true c8; clear c8; obtain rfl := Option.some.inj H
    go_enter Tryd.func89, Tryd.ntmps89
    go_wp2_with (first | ((with_reducible refine G.f 107 rfl ?_); refine G.gL 8 Tryd.func107 #[.int .i64 a0] ?_; (with_reducible refine (cmp_isNaN_int.calls a0 false _ A3.out).mono ?_); rintro e w' ⟨rfl, ⟨nd, rfl⟩⟩; refine ⟨_, rfl, ?_⟩) | ((with_reducible refine G.f 107 rfl ?_); refine G.gL 10 Tryd.func107 #[.int .i64 a1] ?_; (with_reducible refine (cmp_isNaN_int.calls a1 false _ A4.out).mono ?_); rintro e w' ⟨rfl, ⟨nd, rfl⟩⟩; refine ⟨_, rfl, ?_⟩))
    go_ret
    exact ⟨caal, by repeat (first | exact Drawn0.refl _ | apply Drawn0.step)⟩
   ·rw [if_neg c8] at H; have bB : decide (a0 < a1) = false := decide_eq_false c8; clear c8
    by_cases c9 : a0 > a1
    ·rw [if_pos c9] at H; have bC : decide (a1 < a0) = true := decide_eq_true c9; clear c9; obtain rfl := Option.some.inj H
     go_enter Tryd.func89, Tryd.ntmps89
     go_wp2_with (first | ((with_reducible refine G.f 107 rfl ?_); refine G.gL 8 Tryd.func107 #[.int .i64 a0] ?_; (with_reducible refine (cmp_isNaN_int.calls a0 false _ A3.out).mono ?_); rintro e w' ⟨rfl, ⟨nd, rfl⟩⟩; refine ⟨_, rfl, ?_⟩) | ((with_reducible refine G.f 107 rfl ?_); refine G.gL 10 Tryd.func107 #[.int .i64 a1] ?_; (with_reducible refine (cmp_isNaN_int.calls a1 false _ A4.out).mono ?_); rintro e w' ⟨rfl, ⟨nd, rfl⟩⟩; refine ⟨_, rfl, ?_⟩))
     go_ret
     exact ⟨caal, by repeat (first | exact Drawn0.refl _ | apply Drawn0.step)⟩
    ·rw [if_neg c9] at H; have bC : decide (a1 < a0) = false := decide_eq_false c9; clear c9; obtain rfl := Option.some.inj H
     go_enter Tryd.func89, Tryd.ntmps89
     go_wp2_with (first | ((with_reducible refine G.f 107 rfl ?_); refine G.gL 8 Tryd.func107 #[.int .i64 a0] ?_; (with_reducible refine (cmp_isNaN_int.calls a0 false _ A3.out).mono ?_); rintro e w' ⟨rfl, ⟨nd, rfl⟩⟩; refine ⟨_, rfl, ?_⟩) | ((with_reducible refine G.f 107 rfl ?_); refine G.gL 10 Tryd.func107 #[.int .i64 a1] ?_; (with_reducible refine (cmp_isNaN_int.calls a1 false _ A4.out).mono ?_); rintro e w' ⟨rfl, ⟨nd, rfl⟩⟩; refine ⟨_, rfl, ?_⟩))
     go_ret
     exact ⟨caal, by repeat (first | exact Drawn0.refl _ | apply Drawn0.step)⟩
def impl_tieOrder.f (k : Nat) (ae : Int) (aE : Int) (aP : Int) (aJ : Int) : Option (Int) := (cmp_Compare_int.f ae aP).bind fun aF => ((cmp_Compare_int.f aE aJ).bind fun aC => ((cmp_Or_int.f k (([aF, aC] : List Int))).bind fun aG => (some aG)))
def impl_tieOrder.T1 : Bool × List (List Nat × List Nat) := (true, [([], []), ([0], [0]), ([], []), ([2], [2]), ([1, 3], [1, 3]), ([], []), ([5], [5]), ([], []), ([7], [7]), ([6, 8, 4], [6, 8]), ([4, 9], [4, 9]), ([10, 9], [10]), ([11, 11, 0, 1, 2, 3, 4, 5, 6, 7, 8, 9, 10, 11], [11])])
def impl_tieOrder.B1 : List Nat := [0, 1, 0, 4, 15, 0, 32, 0, 128, 511, 1023, 2047, 4095]
theorem impl_tieOrder.tab1 : rtab .any (opsOf Tryd.f71 1) = impl_tieOrder.T1 := by kernel_rfl
theorem impl_tieOrder.bits1 : waitsOk impl_tieOrder.T1.2 impl_tieOrder.B1 = true := by kernel_rfl
set_option maxHeartbeats 8000000 in
set_option maxRecDepth 100000 in
theorem impl_tieOrder.calls (k : Nat) (ae : Int) (aE : Int) (aP : Int) (aJ : Int) (r : Int) (w : World) (h : impl_tieOrder.f k ae aE aP aJ = some r) :
  Calls Tryd.prog 71 #[.agg #[.int .i64 ae, .int .i64 aE], .agg #[.int .i64 aP, .int .i64 aJ]] w fun e w' => e = .returned (.int .i64 r) ∧ Below w.heap.size w w' := by
 have bM := Tryd.underlying51; have HB := G.m (Below.refl w.heap.size w); have H : ((cmp_Compare_int.f ae aP).bind fun aF => ((cmp_Compare_int.f aE aJ).bind fun aC => ((cmp_Or_int.f k (([aF, aC] : List Int))).bind fun aG => (some aG)))) = some r := h; clear h; obtain ⟨aF, A3, H⟩ := G.bi H; replace H : ((cmp_Compare_int.f aE aJ).bind fun aC => ((cmp_Or_int.f k (([aF, aC] : List Int))).bind fun aG => (some aG))) = some r := H; obtain ⟨aC, A4, H⟩ := G.bi H; replace H : ((cmp_Or_int.f k (([aF, aC] : List Int))).bind fun aG => (some aG)) = some r := H; obtain ⟨bD, a8⟩ : ∃ y_ : List Int, y_ = (([aF, aC] : List Int)) := ⟨_, rfl⟩; replace H : ((cmp_Or_int.f k bD).bind fun aG => (some aG)) = some r := by first | (rw [a8]; with_reducible exact H) | (have bN := (Option.bind_some _ _).symm.trans H; rw [a8]; with_reducible exact bN) | (have bN := (Option.bind_some _ _).symm.trans H; with_reducible exact bN) | with_reducible exact H | (rw [a8]; exact H) | exact H
 have bG := G.m a8; clear a8; obtain ⟨aG, A5, H⟩ := G.bi H; replace H : (some aG) = some r := H; obtain rfl := Option.some.inj H
 go_enter Tryd.func71, Tryd.ntmps71; try go_wp2_with (first | ((with_reducible refine G.h 2 rfl ?_); refine G.be 2 #[.int .i64 ae, .int .i64 aE] 51 ?_; intro aI hg w6 hbox hb; have n0 := G.bs HB hb; have n1 := G.m (hbox); have n2 := G.m (caam : w.heap.size ≤ aI); have n3 := G.m (caam : w.heap.size ≤ aI); clear HB; revert n0 n1 n2 n3; intro HB ag dd de; clear hb hbox hg) | ((with_reducible refine G.h 3 rfl ?_); refine G.be 3 #[.int .i64 aP, .int .i64 aJ] 51 ?_; intro aS hg w7 hbox hb; have n0 := G.bb ag hb; have n1 := G.bs HB hb; have n2 := G.m (hbox); have n3 := G.m (caam : w.heap.size ≤ aS); have n4 := G.m (caam : w.heap.size ≤ aS); have n5 := G.m ((by rw [hg]; exact Nat.ne_of_lt (blk_lt (g := aI) (o := .cells #[.int .i64 ae, .int .i64 aE] 51 (0, 0)) (G.cb ag.out)) : aI ≠ aS)); have n6 := G.m ((by rw [hg]; exact Nat.ne_of_gt (blk_lt (g := aI) (o := .cells #[.int .i64 ae, .int .i64 aE] 51 (0, 0)) (G.cb ag.out)) : aS ≠ aI)); clear ag HB; revert n0 n1 n2 n3 n4 n5 n6; intro ag HB ak df dg b1 b2; clear hb hbox hg))
 have n0 := G.m (blk_drew ag.out); have n1 := G.m (blk_drew ak.out); have n2 := G.m (below_drew1 HB.out); clear ag ak HB; revert n0 n1 n2; intro ag ak HB; refine G.st 13 (S := fun w' => w'.cell? ⟨aI, 0, none⟩ = some (.int .i64 ae) ∧ w'.cell? ⟨aI, 1, none⟩ = some (.int .i64 aE) ∧ w'.cell? ⟨aS, 0, none⟩ = some (.int .i64 aP) ∧ w'.cell? ⟨aS, 1, none⟩ = some (.int .i64 aJ)) [] ⟨G.z ag 0, G.z ag 1, G.z ak 0, G.z ak 1⟩ impl_tieOrder.tab1 impl_tieOrder.bits1 (fun hHeld HT_ HW_ => ?_); generalize w7.drew = w8 at ag ak HB hHeld ⊢; refine G.pu 0 5 1 ?_; refine G.pu 2 7 5 ?_; refine G.pu 5 10 37 ?_; refine G.pu 7 12 165 ?_; refine G.ta4 1 6 167 ?_; refine G.ta4 3 8 175 ?_; refine G.ta4 6 11 239 ?_; refine G.ta4 8 13 495 ?_; refine G.on 4 9 511 (fun K hK => ?_); refine G.gs Tryd.func89 #[.int .i64 ae, .int .i64 aP] ?_; with_reducible refine (cmp_Compare_int.calls ae aP aF _ A3.out).mono ?_
 rintro e w' ⟨rfl, ⟨nd, rfl⟩⟩; refine ⟨_, rfl, ?_⟩; refine hK.out _ _ ⟨G.z ag 0, G.z ag 1, G.z ak 0, G.z ak 1⟩ (fun hHeld => ?_); clear hK K; refine G.no 9 ?_; refine G.on 9 14 1023 (fun K hK => ?_); refine G.gs Tryd.func89 #[.int .i64 aE, .int .i64 aJ] ?_; with_reducible refine (cmp_Compare_int.calls aE aJ aC _ A4.out).mono ?_
 rintro e w' ⟨rfl, ⟨nd, rfl⟩⟩; refine ⟨_, rfl, ?_⟩; refine hK.out _ _ ⟨G.z ag 0, G.z ag 1, G.z ak 0, G.z ak 1⟩ (fun hHeld => ?_); clear hK K; refine G.no 14 ?_; refine G.on 10 15 2047 (fun K hK => ?_); refine Kd.R_lit_step (Kd.int .i64) _ 3 ?hg (N := 15) ?hd (xs := ([aF, aC] : List Int)) (inner := [.int .i64 aF, .int .i64 aC]) (ok := fun _ => True) (okp := fun _ => True) ?hr ?hp (fun _ hk => hk) trivial (Below.refl _ _) (Nat.le_refl _) (by simp) ?_; (case hd => rfl); (case hg => rfl); (case hr => first | (go_simp; done) | (go_simp; rfl)); (case hp => exact (Reps.one (show Kd.M (Kd.int .i64) _ _ _ aF [.int .i64 aF] from rfl) (Reps.one (show Kd.M (Kd.int .i64) _ _ _ aC [.int .i64 aC] from rfl) (Reps.none _ _)))); intro dy w9 bk hb hg_ hnew_; clear hg_ hnew_; (first | rw [← bG.out] at bk | (simp only [Int.reduceToNat] at bk; rw [← bG.out] at bk)); have n0 := G.m (Kd.R_lower bk (below_size (G.cB HB.out))); have n1 := G.bb ag hb; have n2 := G.bb ak hb; have n3 := G.bs HB hb; clear ag ak HB; revert n0 n1 n2 n3; intro bp ag ak HB; clear hb bk; obtain ⟨ca, cd, bO⟩ := Kd.R_slice bp.out; (first | subst bO | (injection bO with b3 cL b4; have cM := b3.symm; have cN := b4.symm; clear b3 cL b4; subst cM; subst cN)); refine hK.out _ _ ⟨G.z ag 0, G.z ag 1, G.z ak 0, G.z ak 1⟩ (fun hHeld => ?_); clear hK K; refine G.no 15 ?_; refine G.on 11 16 4095 (fun K hK => ?_); refine G.gs Tryd.func88 #[.slice ca bD.length cd] ?_; with_reducible refine (cmp_Or_int.calls k _ _ bD aG _ ?side1 ?side2 A5.out).mono ?_
 (case side1 => exact G.cC (Kd.R_reads' bp.out).2.2); (case side2 => exact (Kd.R_reads' bp.out).2.1); rintro e w' ⟨rfl, ⟨nd, rfl⟩⟩; refine ⟨_, rfl, ?_⟩; refine hK.out _ _ ⟨G.z ag 0, G.z ag 1, G.z ak 0, G.z ak 1⟩ (fun hHeld => ?_); clear hK K; refine G.no 16 ?_; refine G.pu 12 4 8191 ?_; refine done_ (done_of HT_.out (caao)) ?_; try go_wp2
 go_ret
 exact ⟨caan, G.cB HB.out⟩
def impl_ascending.l0 : Nat → List (S51) → Int → Option (Bool)
 | 0, _, _ => none
 | k + 1, x0, x3 => if x3 < (x0.length : Int) then (if 0 ≤ (wrap64 (x3 - 1)) then (if (wrap64 (x3 - 1)) < (x0.length : Int) then (if 0 ≤ x3 then ((impl_tieOrder.f k ((rd_T51 x0 (wrap64 (x3 - 1))).f0) ((rd_T51 x0 (wrap64 (x3 - 1))).f1) ((rd_T51 x0 x3).f0) ((rd_T51 x0 x3).f1)).bind fun aK => (if aK ≥ 0 then (some false) else (impl_ascending.l0 k x0 (wrap64 (x3 + 1))))) else (none)) else (none)) else (none)) else (some true)
def impl_ascending.f (k : Nat) (l0 : List (S51)) : Option (Bool) := impl_ascending.l0 k l0 1
def impl_ascending.T4 : Bool × List (List Nat × List Nat) := (true, [([], []), ([], []), ([1], [1]), ([0, 2], [0, 2]), ([3], [3]), ([], []), ([], []), ([5, 6], [5, 6]), ([7], [7]), ([4, 8], [4, 8]), ([9], [9])])
def impl_ascending.B4 : List Nat := [0, 0, 2, 7, 15, 0, 0, 96, 224, 511, 1023]
theorem impl_ascending.tab4 : rtab .any (opsOf Tryd.f73 4) = impl_ascending.T4 := by kernel_rfl
theorem impl_ascending.bits4 : waitsOk impl_ascending.T4.2 impl_ascending.B4 = true := by kernel_rfl
set_option maxHeartbeats 8000000 in
set_option maxRecDepth 100000 in
theorem impl_ascending.calls (k : Nat) (A0 : Option Addr) (c0 : Nat) (l0 : List (S51)) (r : Bool) (w : World) (bf : Kd.C k51 w A0 l0.length l0) (bh : l0.length ≤ c0) (h : impl_ascending.f k l0 = some r) :
  Calls Tryd.prog 73 #[.slice A0 l0.length c0] w fun e w' => e = .returned (.bool r) ∧ Below w.heap.size w w' := by
 have bM := Tryd.underlying51; have bj := G.m bf; have cJ := G.m bh; clear bf bh; have HB := G.m (Below.refl w.heap.size w); have H : (impl_ascending.l0 k l0 1) = some r := h; clear h; have H' := G.m H; clear H
 go_enter Tryd.func73, Tryd.ntmps73
 go_wp2
 go_loopg [3] k (fun kq v3 w' => ∃ (ac : Int), v3 = .int .i64 ac ∧ Aside0 (impl_ascending.l0 kq l0 ac = some r) ∧ Aside0 (kq ≤ k) ∧ Aside0 (Below w.heap.size w w'))
 case atStart => exact ⟨(1), (caal), H', ⟨Nat.le_refl _⟩, ⟨G.cB HB.out⟩⟩
 case round =>
  clear H'; obtain ⟨ac, rfl, HA, bw, HB⟩ := hrel; cases gk with
  | zero => exact absurd HA.out (by simp [impl_ascending.l0])
  | succ k1 =>
   have H := HA.out; clear HA; simp only [impl_ascending.l0] at H
   by_cases c2 : ac < (l0.length : Int)
   ·rw [if_pos c2] at H; have bz : decide (ac < (l0.length : Int)) = true := decide_eq_true c2; clear c2; obtain ⟨ah, bd⟩ : ∃ j_ : Int, (wrap64 (ac - 1)) = j_ := ⟨_, rfl⟩; replace H : (if 0 ≤ (ah) then (if (ah) < (l0.length : Int) then (if 0 ≤ ac then ((impl_tieOrder.f k1 ((rd_T51 l0 (ah)).f0) ((rd_T51 l0 (ah)).f1) ((rd_T51 l0 ac).f0) ((rd_T51 l0 ac).f1)).bind fun aK => (if aK ≥ 0 then (some false) else (impl_ascending.l0 k1 l0 (wrap64 (ac + 1))))) else (none)) else (none)) else (none)) = some r := by first | (rw [bd] at H; exact H) | (simp only [bd] at H ⊢; exact H)
    have dh : (IntKind.i64.wrap (ac - 1)) = ah := (i64_w _).trans bd
    by_cases c4 : 0 ≤ (ah)
    ·rw [if_pos c4] at H; have aU : decide (0 ≤ (ah)) = true := decide_eq_true c4; clear c4
     by_cases c5 : (ah) < (l0.length : Int)
     ·rw [if_pos c5] at H; have bL : decide ((ah) < (l0.length : Int)) = true := decide_eq_true c5; clear c5
      by_cases c6 : 0 ≤ ac
      ·rw [if_pos c6] at H; have dz : decide (0 ≤ ac) = true := decide_eq_true c6; clear c6; obtain ⟨aK, A7, H⟩ := G.bi H; replace H : (if aK ≥ 0 then (some false) else (impl_ascending.l0 k1 l0 (wrap64 (ac + 1)))) = some r := H
       by_cases c8 : aK ≥ 0
       ·rw [if_pos c8] at H; have bB : decide (0 ≤ aK) = true := decide_eq_true c8; clear c8; obtain rfl := Option.some.inj H; try go_wp2
        have n0 := G.m (below_drew1 HB.out); clear HB; revert n0; intro HB; have aY : 0 ≤ ((ah) : Int) := of_decide_eq_true (G.asm); have aZ : (ah) < (l0.length : Int) := of_decide_eq_true (G.asm); obtain ⟨ap, bE, av, aw⟩ := at_T51 bj.out (ah) aY aZ; have aL := aw; have aM := av; cases bE; replace av := G.hx HB av; replace aw := G.hx HB aw; replace aY := eq_true aY; replace aZ := eq_true aZ; have a4 : 0 ≤ (ac : Int) := of_decide_eq_true (G.asm); have a5 : ac < (l0.length : Int) := of_decide_eq_true (G.asm); obtain ⟨bq, bF, ax, ay⟩ := at_T51 bj.out ac a4 a5; have aN := ay; have aO := ax; obtain rfl : ap = bq := (by injection bF); replace ax := G.hx HB ax; replace ay := G.hx HB ay; replace a4 := eq_true a4; replace a5 := eq_true a5; refine G.st 11 (S := fun w' => w'.cell? (ap.add (((ah)).toNat * 2)) = some (.int .i64 ((rd_T51 l0 (ah)).f0)) ∧ w'.cell? ⟨(ap.add (((ah)).toNat * 2)).block, (ap.add (((ah)).toNat * 2)).off + 1, none⟩ = some (.int .i64 ((rd_T51 l0 (ah)).f1)) ∧ w'.cell? (ap.add ((ac).toNat * 2)) = some (.int .i64 ((rd_T51 l0 ac).f0)) ∧ w'.cell? ⟨(ap.add ((ac).toNat * 2)).block, (ap.add ((ac).toNat * 2)).off + 1, none⟩ = some (.int .i64 ((rd_T51 l0 ac).f1))) [] ⟨(G.hx HB aM), (G.hx HB aL), (G.hx HB aO), (G.hx HB aN)⟩ impl_ascending.tab4 impl_ascending.bits4 (fun hHeld HT_ HW_ => ?_); generalize wr.drew = w9 at HB av aw ax ay hHeld ⊢; refine G.pu 0 10 1 ?_; refine G.pu 1 11 3 ?_; refine G.pu 2 12 7 ?_; refine G.pu 3 13 15 ?_; refine G.pu 5 15 47 ?_; refine G.pu 6 16 111 ?_; refine G.pu 7 17 239 ?_; refine G.ta4 4 14 255 ?_; refine G.ta4 8 18 511 ?_; refine G.on 9 19 1023 (fun K hK => ?_); refine goes_ Tryd.func71 (caao) rfl #[.agg #[.int .i64 ((rd_T51 l0 (ah)).f0), .int .i64 ((rd_T51 l0 (ah)).f1)], .agg #[.int .i64 ((rd_T51 l0 ac).f0), .int .i64 ((rd_T51 l0 ac).f1)]] (by rfl) rfl rfl (caar) ?_; with_reducible refine (impl_tieOrder.calls k1 ((rd_T51 l0 (ah)).f0) ((rd_T51 l0 (ah)).f1) ((rd_T51 l0 ac).f0) ((rd_T51 l0 ac).f1) aK _ A7.out).mono ?_
        rintro e dB ⟨rfl, hb⟩; refine ⟨_, rfl, ?_⟩; have n0 := G.bs HB hb; clear HB; revert n0; intro HB; (try clear hb); refine hK.out _ _ ⟨(G.hx HB aM), (G.hx HB aL), (G.hx HB aO), (G.hx HB aN)⟩ (fun hHeld => ?_); clear hK K; refine G.no 19 ?_; refine G.pu 10 20 2047 ?_; refine done_ (done_of HT_.out (caao)) ?_; try go_wp2
        go_ret
        exact ⟨by first | rfl | (simp [errW_none, errW_some] <;> rfl) | (simp only [← bd]; first | rfl | (simp [errW_none, errW_some] <;> rfl)) | (simp [*, errW_none, errW_some] <;> rfl), G.cB HB.out⟩
       ·rw [if_neg c8] at H; have bB : decide (0 ≤ aK) = false := decide_eq_false c8; clear c8; have H' := G.m H; clear H; try go_wp2
        have n0 := G.m (below_drew1 HB.out); clear HB; revert n0; intro HB; have aY : 0 ≤ ((ah) : Int) := of_decide_eq_true (G.asm); have aZ : (ah) < (l0.length : Int) := of_decide_eq_true (G.asm); obtain ⟨ap, bE, av, aw⟩ := at_T51 bj.out (ah) aY aZ; have aL := aw; have aM := av; cases bE; replace av := G.hx HB av; replace aw := G.hx HB aw; replace aY := eq_true aY; replace aZ := eq_true aZ; have a4 : 0 ≤ (ac : Int) := of_decide_eq_true (G.asm); have a5 : ac < (l0.length : Int) := of_decide_eq_true (G.asm); obtain ⟨bq, bF, ax, ay⟩ := at_T51 bj.out ac a4 a5; have aN := ay; have aO := ax; obtain rfl : ap = bq := (by injection bF); replace ax := G.hx HB ax; replace ay := G.hx HB ay; replace a4 := eq_true a4; replace a5 := eq_true a5; refine G.st 11 (S := fun w' => w'.cell? (ap.add (((ah)).toNat * 2)) = some (.int .i64 ((rd_T51 l0 (ah)).f0)) ∧ w'.cell? ⟨(ap.add (((ah)).toNat * 2)).block, (ap.add (((ah)).toNat * 2)).off + 1, none⟩ = some (.int .i64 ((rd_T51 l0 (ah)).f1)) ∧ w'.cell? (ap.add ((ac).toNat * 2)) = some (.int .i64 ((rd_T51 l0 ac).f0)) ∧ w'.cell? ⟨(ap.add ((ac).toNat * 2)).block, (ap.add ((ac).toNat * 2)).off + 1, none⟩ = some (.int .i64 ((rd_T51 l0 ac).f1))) [] ⟨(G.hx HB aM), (G.hx HB aL), (G.hx HB aO), (G.hx HB aN)⟩ impl_ascending.tab4 impl_ascending.bits4 (fun hHeld HT_ HW_ => ?_); generalize wr.drew = dC at HB av aw ax ay hHeld ⊢; refine G.pu 0 10 1 ?_; refine G.pu 1 11 3 ?_; refine G.pu 2 12 7 ?_; refine G.pu 3 13 15 ?_; refine G.pu 5 15 47 ?_; refine G.pu 6 16 111 ?_; refine G.pu 7 17 239 ?_; refine G.ta4 4 14 255 ?_; refine G.ta4 8 18 511 ?_; refine G.on 9 19 1023 (fun K hK => ?_); refine goes_ Tryd.func71 (caao) rfl #[.agg #[.int .i64 ((rd_T51 l0 (ah)).f0), .int .i64 ((rd_T51 l0 (ah)).f1)], .agg #[.int .i64 ((rd_T51 l0 ac).f0), .int .i64 ((rd_T51 l0 ac).f1)]] (by rfl) rfl rfl (caar) ?_; with_reducible refine (impl_tieOrder.calls k1 ((rd_T51 l0 (ah)).f0) ((rd_T51 l0 (ah)).f1) ((rd_T51 l0 ac).f0) ((rd_T51 l0 ac).f1) aK _ A7.out).mono ?_
        rintro e dD ⟨rfl, hb⟩; refine ⟨_, rfl, ?_⟩; have n0 := G.bs HB hb; clear HB; revert n0; intro HB; (try clear hb); refine hK.out _ _ ⟨(G.hx HB aM), (G.hx HB aL), (G.hx HB aO), (G.hx HB aN)⟩ (fun hHeld => ?_); clear hK K; refine G.no 19 ?_; refine G.pu 10 20 2047 ?_; refine done_ (done_of HT_.out (caao)) ?_; try go_wp2
        go_roundg k1
        case measure => have := bw.out; omega
        case rel => exact ⟨(wrap64 (ac + 1)), (caal), H', ⟨by have := bw.out; omega⟩, ⟨G.cB HB.out⟩⟩
      ·rw [if_neg c6] at H; exact absurd H (by simp)
     ·rw [if_neg c5] at H; exact absurd H (by simp)
    ·rw [if_neg c4] at H; exact absurd H (by simp)
   ·rw [if_neg c2] at H; have bz : decide (ac < (l0.length : Int)) = false := decide_eq_false c2; clear c2; obtain rfl := Option.some.inj H
    go_wp2
    go_ret
    exact ⟨caan, G.cB HB.out⟩
mutual
def impl_NetOk.j0 : Nat → Bool → Int → List (S51) → Option (Bool)
 | 0, _, _, _ => none
 | k + 1, cO, aT, aH => if cO = true then (some false) else (impl_NetOk.l0 k aH (aH.length : Int) 0 aT aH)
def impl_NetOk.l0 : Nat → List (S51) → Int → Int → Int → List (S51) → Option (Bool)
 | 0, _, _, _, _, _ => none
 | k + 1, bl, b5, ba, aT, aH => if ba < b5 then (if 0 ≤ ba then (if ba < (bl.length : Int) then (if ((rd_T51 bl ba).f0) < 0 then (some false) else (if ((rd_T51 bl ba).f0) ≥ ((rd_T51 bl ba).f1) then (some false) else (if ((rd_T51 bl ba).f1) ≥ aT then (some false) else (impl_NetOk.l0 k bl b5 (wrap64 (ba + 1)) aT aH)))) else (none)) else (none)) else ((impl_ascending.f k aH).bind fun br => (some br))
end
def impl_NetOk.f (k : Nat) (ae : Int) (aa : List (S51)) : Option (Bool) := if ae < 0 then (impl_NetOk.j0 k true ae aa) else (impl_NetOk.j0 k (decide (ae > 8)) ae aa)
set_option maxHeartbeats 8000000 in
set_option maxRecDepth 100000 in
theorem impl_NetOk.calls (k : Nat) (ae : Int) (a_ : Option Addr) (aR : Nat) (aa : List (S51)) (r : Bool) (w : World) (bH : Kd.C k51 w a_ aa.length aa) (bI : aa.length ≤ aR) (h : impl_NetOk.f k ae aa = some r) :
  Calls Tryd.prog 48 #[.agg #[.int .i64 ae, .slice a_ aa.length aR]] w fun e w' => e = .returned (.bool r) ∧ Below w.heap.size w w' := by
 have dA := Tryd.underlying29; have bM := Tryd.underlying51; have a9 := G.m bH; have bW := G.m bI; clear bH bI; have HB := G.m (Below.refl w.heap.size w); have H : (if ae < 0 then (impl_NetOk.j0 k true ae aa) else (impl_NetOk.j0 k (decide (ae > 8)) ae aa)) = some r := h; clear h; have bP := G.m H; clear H
 go_enter Tryd.func48, Tryd.ntmps48
 go_upto_region 1 with (first | ((with_reducible refine G.h 1 rfl ?_); refine G.be 1 #[.int .i64 ae, .slice a_ aa.length aR] 29 ?_; intro aq hg w3 hbox hb; have n0 := G.bs HB hb; have n1 := G.m (hbox); have n2 := G.m (caam : w.heap.size ≤ aq); have n3 := G.m (caam : w.heap.size ≤ aq); clear HB; revert n0 n1 n2 n3; intro HB af di dj; clear hb hbox hg))
 (try simp only [Act.put, List.setIfInBounds_toArray, List.set_cons_zero, List.set_cons_succ])
 go_cut [12] (fun cP wc => ∃ (kq : Nat) (bc : Bool), cP = .bool bc ∧ Aside0 (impl_NetOk.j0 kq bc ae aa = some r) ∧ Aside0 (kq ≤ k) ∧ Aside0 (wc.heap[aq]? = some (.cells #[.int .i64 ae, (.slice a_ aa.length aR)] 29 (0, 0))) ∧ Aside0 (Below w.heap.size w wc))
 case first =>
  have H := bP.out; clear bP
  by_cases c4 : ae < 0
  ·rw [if_pos c4] at H; have aU : decide (ae < 0) = true := decide_eq_true c4; clear c4; (first | rw [aU] | (simp only [i64_w, i32_w]; rw [aU]) | skip); have H' := G.m H; clear H; have ⟨cQ, cS, cT, cU⟩ := G.d2 (w := w3) af
   go_wp2
   go_meet
   case rel => exact ⟨_, (true), (caal), H', ⟨by first | omega | exact Nat.le_refl _⟩, ⟨G.cb af.out⟩, ⟨G.cB HB.out⟩⟩
  ·rw [if_neg c4] at H; have aU : decide (ae < 0) = false := decide_eq_false c4; clear c4; (first | rw [aU] | (simp only [i64_w, i32_w]; rw [aU]) | skip); have H' := G.m H; clear H; have ⟨cW, cX, cY, cZ⟩ := G.d2 (w := w3) af
   go_wp2
   go_meet
   case rel => exact ⟨_, (decide (ae > 8)), (caal), H', ⟨by first | omega | exact Nat.le_refl _⟩, ⟨G.cb af.out⟩, ⟨G.cB HB.out⟩⟩
 case rest =>
  clear bP; obtain ⟨kq, bc, rfl, HA, b6, af, HB⟩ := hcut; cases kq with
  | zero => exact absurd HA.out (by simp [impl_NetOk.j0])
  | succ bQ =>
   have H := HA.out; clear HA; simp only [impl_NetOk.j0] at H
   by_cases c7 : bc = true
   ·subst c7; have H1 : (some false) = some r := by rw [if_pos rfl] at H; exact H
    clear H; have H := H1; clear H1; obtain rfl := Option.some.inj H
    go_wp2
    go_ret
    exact ⟨caan, G.cB HB.out⟩
   ·replace c7 := Bool.eq_false_iff.mpr c7; subst c7; have H1 : (impl_NetOk.l0 bQ aa (aa.length : Int) 0 ae aa) = some r := by rw [if_neg (show ¬ (false = true) by decide)] at H; exact H
    clear H; have H := H1; clear H1; have H' := G.m H; clear H; have ⟨bR, bS, bT, bU⟩ := G.d2 (w := wc) af
    go_wp2
    go_loopg [16] bQ (fun kq c_ w' => ∃ (ab : Int), c_ = .int .i64 ab ∧ Aside0 (impl_NetOk.l0 kq aa (aa.length : Int) ab ae aa = some r) ∧ Aside0 (kq ≤ bQ) ∧ Aside0 (w'.heap[aq]? = some (.cells #[.int .i64 ae, (.slice a_ aa.length aR)] 29 (0, 0))) ∧ Aside0 (Below w.heap.size w w'))
    case atStart => exact ⟨(0), (caal), H', ⟨Nat.le_refl _⟩, ⟨G.cb af.out⟩, ⟨G.cB HB.out⟩⟩
    case round =>
     clear H'; (try clear c7 bR bS bT bU); obtain ⟨ab, rfl, HA, b7, af, HB⟩ := hrel; cases gk with
     | zero => exact absurd HA.out (by simp [impl_NetOk.l0])
     | succ k2 =>
      have H := HA.out; clear HA; simp only [impl_NetOk.l0] at H
      by_cases c9 : ab < (aa.length : Int)
      ·rw [if_pos c9] at H; have bC : decide (ab < (aa.length : Int)) = true := decide_eq_true c9; clear c9
       by_cases c10 : 0 ≤ ab
       ·rw [if_pos c10] at H; have dk : decide (0 ≤ ab) = true := decide_eq_true c10; clear c10
        by_cases bJ : ab < (aa.length : Int)
        ·rw [if_pos bJ] at H; have dl : decide (ab < (aa.length : Int)) = true := decide_eq_true bJ; clear bJ
         by_cases bm : ((rd_T51 aa ab).f0) < 0
         ·rw [if_pos bm] at H; have bX : decide (((rd_T51 aa ab).f0) < 0) = true := decide_eq_true bm; clear bm; obtain rfl := Option.some.inj H; have aA : 0 ≤ (ab : Int) := of_decide_eq_true (G.asm); have aB : ab < (aa.length : Int) := of_decide_eq_true (G.asm); obtain ⟨a7, a6, am, ao⟩ := at_T51 a9.out ab aA aB; cases a6; replace am := G.hx HB am; replace ao := G.hx HB ao; replace aA := eq_true aA; replace aB := eq_true aB
          go_wp2_with (first | ((with_reducible refine G.h 4 rfl ?_); refine G.be 4 #[.int .i64 0, .int .i64 0] 51 ?_; intro ai hg da hbox hb; have n0 := G.bb af hb; have n1 := G.bs HB hb; have n2 := G.m (hbox); have n3 := G.m (caam : w.heap.size ≤ ai); have n4 := G.m (caam : w.heap.size ≤ ai); have n5 := G.m (caap : aq ≠ ai); have n6 := G.m (caaq : ai ≠ aq); clear af HB; revert n0 n1 n2 n3 n4 n5 n6; intro af HB aQ bu bv al au; clear hb hbox hg; have dn := au.out; have dp := al.out; have ⟨ce, cf, cg, ch⟩ := G.d2 (w := da) aQ))
          go_ret
          exact ⟨caan, G.cB HB.out⟩
         ·rw [if_neg bm] at H; have bX : decide (((rd_T51 aa ab).f0) < 0) = false := decide_eq_false bm; clear bm
          by_cases bn : ((rd_T51 aa ab).f0) ≥ ((rd_T51 aa ab).f1)
          ·rw [if_pos bn] at H; have bY : decide (((rd_T51 aa ab).f1) ≤ ((rd_T51 aa ab).f0)) = true := decide_eq_true bn; clear bn; obtain rfl := Option.some.inj H; have aA : 0 ≤ (ab : Int) := of_decide_eq_true (G.asm); have aB : ab < (aa.length : Int) := of_decide_eq_true (G.asm); obtain ⟨a7, a6, am, ao⟩ := at_T51 a9.out ab aA aB; cases a6; replace am := G.hx HB am; replace ao := G.hx HB ao; replace aA := eq_true aA; replace aB := eq_true aB
           go_wp2_with (first | ((with_reducible refine G.h 4 rfl ?_); refine G.be 4 #[.int .i64 0, .int .i64 0] 51 ?_; intro ai hg db hbox hb; have n0 := G.bb af hb; have n1 := G.bs HB hb; have n2 := G.m (hbox); have n3 := G.m (caam : w.heap.size ≤ ai); have n4 := G.m (caam : w.heap.size ≤ ai); have n5 := G.m (caap : aq ≠ ai); have n6 := G.m (caaq : ai ≠ aq); clear af HB; revert n0 n1 n2 n3 n4 n5 n6; intro af HB aQ bu bv al au; clear hb hbox hg; have dq := au.out; have dr := al.out; have ⟨ci, cj, ck, cl⟩ := G.d2 (w := db) aQ))
           go_ret
           exact ⟨caan, G.cB HB.out⟩
          ·rw [if_neg bn] at H; have bY : decide (((rd_T51 aa ab).f1) ≤ ((rd_T51 aa ab).f0)) = false := decide_eq_false bn; clear bn
           by_cases bo : ((rd_T51 aa ab).f1) ≥ ae
           ·rw [if_pos bo] at H; have bZ : decide (ae ≤ ((rd_T51 aa ab).f1)) = true := decide_eq_true bo; clear bo; obtain rfl := Option.some.inj H; have aA : 0 ≤ (ab : Int) := of_decide_eq_true (G.asm); have aB : ab < (aa.length : Int) := of_decide_eq_true (G.asm); obtain ⟨a7, a6, am, ao⟩ := at_T51 a9.out ab aA aB; cases a6; replace am := G.hx HB am; replace ao := G.hx HB ao; replace aA := eq_true aA; replace aB := eq_true aB
            go_wp2_with (first | ((with_reducible refine G.h 4 rfl ?_); refine G.be 4 #[.int .i64 0, .int .i64 0] 51 ?_; intro ai hg b8 hbox hb; have n0 := G.bb af hb; have n1 := G.bs HB hb; have n2 := G.m (hbox); have n3 := G.m (caam : w.heap.size ≤ ai); have n4 := G.m (caam : w.heap.size ≤ ai); have n5 := G.m (caap : aq ≠ ai); have n6 := G.m (caaq : ai ≠ aq); clear af HB; revert n0 n1 n2 n3 n4 n5 n6; intro af HB aQ bu bv al au; clear hb hbox hg; have dt := au.out; have du := al.out; have ⟨cm, cn, co, cp⟩ := G.d2 (w := b8) aQ; have ⟨cq, cr, ct, cu⟩ := G.d2 (w := b8) af))
            go_ret
            exact ⟨caan, G.cB HB.out⟩
           ·rw [if_neg bo] at H; have bZ : decide (ae ≤ ((rd_T51 aa ab).f1)) = false := decide_eq_false bo; clear bo; have H' := G.m H; clear H; have aA : 0 ≤ (ab : Int) := of_decide_eq_true (G.asm); have aB : ab < (aa.length : Int) := of_decide_eq_true (G.asm); obtain ⟨a7, a6, am, ao⟩ := at_T51 a9.out ab aA aB; cases a6; replace am := G.hx HB am; replace ao := G.hx HB ao; replace aA := eq_true aA; replace aB := eq_true aB
            go_wp2_with (first | ((with_reducible refine G.h 4 rfl ?_); refine G.be 4 #[.int .i64 0, .int .i64 0] 51 ?_; intro ai hg b9 hbox hb; have n0 := G.bb af hb; have n1 := G.bs HB hb; have n2 := G.m (hbox); have n3 := G.m (caam : w.heap.size ≤ ai); have n4 := G.m (caam : w.heap.size ≤ ai); have n5 := G.m (caap : aq ≠ ai); have n6 := G.m (caaq : ai ≠ aq); clear af HB; revert n0 n1 n2 n3 n4 n5 n6; intro af HB aQ bu bv al au; clear hb hbox hg; have dv := au.out; have dw := al.out; have ⟨cv, cw, cx, cy⟩ := G.d2 (w := b9) aQ; have ⟨cz, cA, cD, cE⟩ := G.d2 (w := b9) af))
            go_roundg k2
            case measure => have := b6.out; have := b7.out; omega
            case rel => exact ⟨(wrap64 (ab + 1)), (caal), H', ⟨by have := b6.out; have := b7.out; omega⟩, ⟨by (with_reducible repeat (first | refine blk_drewN ?_ _ | refine blk_drew ?_ | refine blk_alloc ?_ _)); refine blk_far ?_ al.out _; (with_reducible repeat (first | refine blk_drewN ?_ _ | refine blk_drew ?_ | refine blk_alloc ?_ _)); refine blk_far ?_ al.out _; (with_reducible repeat (first | refine blk_drewN ?_ _ | refine blk_drew ?_ | refine blk_alloc ?_ _)); exact af.out⟩, ⟨G.cB HB.out⟩⟩
        ·rw [if_neg bJ] at H; exact absurd H (by simp)
       ·rw [if_neg c10] at H; exact absurd H (by simp)
      ·rw [if_neg c9] at H; have bC : decide (ab < (aa.length : Int)) = false := decide_eq_false c9; clear c9; obtain ⟨br, dc, H⟩ := G.bi H; replace H : (some br) = some r := H; obtain rfl := Option.some.inj H; have ⟨cF, cG, cH, cI⟩ := G.d2 (w := wr) af
       go_wp2_with (first | ((with_reducible refine G.f 73 rfl ?_); refine G.gL 40 Tryd.func73 #[.slice a_ aa.length aR] ?_; (with_reducible refine (impl_ascending.calls k2 _ _ aa br _ ?side1 ?side2 dc.out).mono ?_); (case side1 => exact G.cC (Kd.C_below a9.out HB.out)); (case side2 => exact bW.out); rintro e dE ⟨rfl, hb⟩; refine ⟨_, rfl, ?_⟩; have n0 := G.bb af hb; have n1 := G.bs HB hb; clear af HB; revert n0 n1; intro af HB; (try clear hb)))
       go_ret
       exact ⟨caan, G.cB HB.out⟩
def impl_size.f (l0 : List (S51)) : Option (Int) := szOf l0
theorem impl_size.calls (A0 : Option Addr) (c0 : Nat) (l0 : List (S51)) (r : Int) (w : World) (bf : Kd.C k51 w A0 l0.length l0) (bh : l0.length ≤ c0) (h : impl_size.f l0 = some r) (hT : TabAt 1 Lib.deBruijn64tab w) :
 Calls Tryd.prog 49 #[.slice A0 l0.length c0] w fun e w' => e = .returned (.int .i64 r) ∧ Below w.heap.size w w' := sz_calls A0 c0 l0 r w bf bh h hT
def impl_PairSize.f (k : Nat) (ac : Int) (aa : List (S51)) : Option (Int) := (impl_NetOk.f k ac aa).bind fun ai => (if ai = true then ((impl_size.f aa).bind fun ae => (some ae)) else (some (-1)))
set_option maxHeartbeats 8000000 in
set_option maxRecDepth 100000 in
theorem impl_PairSize.calls (k : Nat) (ac : Int) (af : Option Addr) (ag : Nat) (aa : List (S51)) (r : Int) (w : World) (al : Kd.C k51 w af aa.length aa) (am : aa.length ≤ ag) (h : impl_PairSize.f k ac aa = some r) (hT : TabAt 1 Lib.deBruijn64tab w) :
  Calls Tryd.prog 17 #[.agg #[.int .i64 ac, .slice af aa.length ag]] w fun e w' => e = .returned (.int .i64 r) ∧ Below w.heap.size w w' := by
 have HTb := G.m hT; clear hT; have aG := Tryd.underlying29; have aj := G.m al; have ak := G.m am; clear al am; have HB := G.m (Below.refl w.heap.size w); have H : ((impl_NetOk.f k ac aa).bind fun ai => (if ai = true then ((impl_size.f aa).bind fun ae => (some ae)) else (some (-1)))) = some r := h; clear h; obtain ⟨ai, A2, H⟩ := G.bi H; replace H : (if ai = true then ((impl_size.f aa).bind fun ae => (some ae)) else (some (-1))) = some r := H
 by_cases c3 : ai = true
 ·subst c3; have H1 : ((impl_size.f aa).bind fun ae => (some ae)) = some r := by rw [if_pos rfl] at H; exact H
  clear H; have H := H1; clear H1; obtain ⟨ae, A4, H⟩ := G.bi H; replace H : (some ae) = some r := H; obtain rfl := Option.some.inj H
  go_enter Tryd.func17, Tryd.ntmps17
  go_wp2_with (first | ((with_reducible refine G.h 1 rfl ?_); refine G.be 1 #[.int .i64 ac, .slice af aa.length ag] 29 ?_; intro ah hg w5 hbox hb; have n0 := G.bs HB hb; have n1 := G.m (hbox); have n2 := G.m ((by rw [hg]; exact (below_size (G.cB HB.out)) : w.heap.size ≤ ah)); have n3 := G.m ((by rw [hg]; exact (below_size (G.cB HB.out)) : w.heap.size ≤ ah)); clear HB; revert n0 n1 n2 n3; intro HB ab ao ap; clear hb hbox hg; have ⟨ax, ay, az, aA⟩ := G.d2 (w := w5) ab) | ((with_reducible refine G.f 48 rfl ?_); refine G.gL 4 Tryd.func48 #[.agg #[.int .i64 ac, .slice af aa.length ag]] ?_; (with_reducible refine (impl_NetOk.calls k ac _ _ aa true _ ?side1 ?side2 A2.out).mono ?_); (case side1 => exact G.cC (Kd.C_below aj.out HB.out)); (case side2 => exact ak.out); rintro e w7 ⟨rfl, hb⟩; refine ⟨_, rfl, ?_⟩; have n0 := G.bb ab hb; have n1 := G.bs HB hb; clear ab HB; revert n0 n1; intro ab HB; (try clear hb); have ⟨aB, aC, aD, aE⟩ := G.d2 (w := w7) ab) | ((with_reducible refine G.f 49 rfl ?_); refine G.gL 8 Tryd.func49 #[.slice af aa.length ag] ?_; (with_reducible refine (impl_size.calls _ _ aa ae _ ?side1 ?side2 A4.out ?sideT).mono ?_); (case sideT => exact lay HTb.out (G.cB HB.out)); (case side1 => exact G.cC (Kd.C_below aj.out HB.out)); (case side2 => exact ak.out); rintro e w9 ⟨rfl, hb⟩; refine ⟨_, rfl, ?_⟩; have n0 := G.bb ab hb; have n1 := G.bs HB hb; clear ab HB; revert n0 n1; intro ab HB; (try clear hb)))
  go_ret
  exact ⟨by first | rfl | (simp [errW_none, errW_some] <;> rfl) | (simp [*, errW_none, errW_some] <;> rfl), G.cB HB.out⟩
 ·replace c3 := Bool.eq_false_iff.mpr c3; subst c3; have H1 : (some (-1)) = some r := by rw [if_neg (show ¬ (false = true) by decide)] at H; exact H
  clear H; have H := H1; clear H1; obtain rfl := Option.some.inj H
  go_enter Tryd.func17, Tryd.ntmps17
  go_wp2_with (first | ((with_reducible refine G.h 1 rfl ?_); refine G.be 1 #[.int .i64 ac, .slice af aa.length ag] 29 ?_; intro ah hg aF hbox hb; have n0 := G.bs HB hb; have n1 := G.m (hbox); have n2 := G.m ((by rw [hg]; exact (below_size (G.cB HB.out)) : w.heap.size ≤ ah)); have n3 := G.m ((by rw [hg]; exact (below_size (G.cB HB.out)) : w.heap.size ≤ ah)); clear HB; revert n0 n1 n2 n3; intro HB ab ao ap; clear hb hbox hg; have ⟨aq, au, av, aw⟩ := G.d2 (w := aF) ab) | ((with_reducible refine G.f 48 rfl ?_); refine G.gL 4 Tryd.func48 #[.agg #[.int .i64 ac, .slice af aa.length ag]] ?_; (with_reducible refine (impl_NetOk.calls k ac _ _ aa false _ ?side1 ?side2 A2.out).mono ?_); (case side1 => exact G.cC (Kd.C_below aj.out HB.out)); (case side2 => exact ak.out); rintro e aH ⟨rfl, hb⟩; refine ⟨_, rfl, ?_⟩; have n0 := G.bb ab hb; have n1 := G.bs HB hb; clear ab HB; revert n0 n1; intro ab HB; (try clear hb)))
  go_ret
  exact ⟨by first | rfl | (simp [errW_none, errW_some] <;> rfl) | (simp [*, errW_none, errW_some] <;> rfl), G.cB HB.out⟩
theorem eqA51 (d : Nat) (w : World) (x0 y0 : Int) (x1 y1 : Int) :
  (Op.equalIn (d + 2) 51 (.agg #[.int .i64 x0, .int .i64 x1]) (.agg #[.int .i64 y0, .int .i64 y1])).run Tryd.prog w = .ok (x0 == y0 && (x1 == y1)) w := by
 refine eqA_of Tryd.underlying51 (by kernel_rfl) ?_; refine eqf_cons (by rfl) (by go_simp; rfl) (by go_simp; rfl) (by go_simp) ?_; exact eqf_last (by rfl) (by go_simp; rfl) (by go_simp; rfl) (by go_simp)
theorem caay {p : Prop} (h : p := by first | rfl | (simp [errW_none, errW_some] <;> rfl) | (simp [*, errW_none, errW_some] <;> rfl)) : p := h
theorem caax {p : Prop} (h : p := by rw [hg]; exact (below_size (G.cB HB.out))) : p := h
theorem caaz {p : Prop} (h : p := by kernel_rfl) : p := h
attribute [local go_sem high] eqA51
def spec_l1Copy.f (ac : Int) (aa : List (S51)) : Option (Int × (List (S51))) := (some (([] : List (S51)) : List (S51))).bind fun aq => (if aq.length + aa.length < 8796093022208 then (some (ac, (aq ++ aa))) else (none))
def spec_l1Copy.T1 : Bool × List (List Nat × List Nat) := (true, [([], []), ([0], [0]), ([], []), ([], []), ([3], [3]), ([2, 4], [2, 4]), ([1, 5], [1, 5]), ([6, 5, 0, 1, 2, 3, 4, 5, 6], [6])])
def spec_l1Copy.B1 : List Nat := [0, 1, 0, 0, 8, 28, 63, 127]
theorem spec_l1Copy.tab1 : rtab .any (opsOf Tryd.f76 1) = spec_l1Copy.T1 := by kernel_rfl
theorem spec_l1Copy.bits1 : waitsOk spec_l1Copy.T1.2 spec_l1Copy.B1 = true := by kernel_rfl
set_option maxHeartbeats 8000000 in
set_option maxRecDepth 100000 in
theorem spec_l1Copy.calls (ac : Int) (ai : Option Addr) (ah : Nat) (aa : List (S51)) (r1 : Int) (r2 : List (S51)) (w : World) (aw : Kd.C k51 w ai aa.length aa) (ax : aa.length ≤ ah) (h : spec_l1Copy.f ac aa = some (r1, r2)) :
  Calls Tryd.prog 76 #[.agg #[.int .i64 ac, .slice ai aa.length ah]] w fun e w' => ∃ bq : Value, e = .returned (.agg #[.int .i64 r1, bq]) ∧ Kd.R k51 51 w' w.heap.size (fun _ => True) bq r2 ∧ Below w.heap.size w w' := by
 have a9 := Tryd.underlying29; have aD := G.m aw; have aU := G.m ax; clear aw ax; have HB := G.m (Below.refl w.heap.size w); have H : ((some (([] : List (S51)) : List (S51))).bind fun aq => (if aq.length + aa.length < 8796093022208 then (some (ac, (aq ++ aa))) else (none))) = some (r1, r2) := h; clear h; obtain ⟨aq, aK⟩ : ∃ y_ : List (S51), y_ = (([] : List (S51))) := ⟨_, rfl⟩; replace H : (if aq.length + aa.length < 8796093022208 then (some (ac, (aq ++ aa))) else (none)) = some (r1, r2) := by first | (rw [aK]; with_reducible exact H) | (have aW := (Option.bind_some _ _).symm.trans H; rw [aK]; with_reducible exact aW) | (have aW := (Option.bind_some _ _).symm.trans H; with_reducible exact aW) | with_reducible exact H | (rw [aK]; exact H) | exact H
 have a5 := G.m aK; clear aK
 by_cases c2 : aq.length + aa.length < 8796093022208
 ·rw [if_pos c2] at H; have bB := G.m c2; clear c2; obtain ⟨aZ, aM⟩ : ∃ y_ : List (S51), y_ = (aq ++ aa) := ⟨_, rfl⟩; replace H : (some (ac, aZ)) = some (r1, r2) := by first | (rw [aM]; with_reducible exact H) | (have aW := (Option.bind_some _ _).symm.trans H; rw [aM]; with_reducible exact aW) | (have aW := (Option.bind_some _ _).symm.trans H; with_reducible exact aW) | with_reducible exact H | (rw [aM]; exact H) | exact H
  have bl := G.m aM; clear aM; simp only [Option.some.injEq, Prod.mk.injEq] at H; obtain ⟨rfl, rfl⟩ := H
  go_enter Tryd.func76, Tryd.ntmps76; try go_wp2_with (first | ((with_reducible refine G.h 1 rfl ?_); refine G.be 1 #[.int .i64 ac, .slice ai aa.length ah] 29 ?_; intro ay hg w3 hbox hb; have n0 := G.bs HB hb; have n1 := G.m (hbox); have n2 := G.m (caax : w.heap.size ≤ ay); have n3 := G.m (caax : w.heap.size ≤ ay); clear HB; revert n0 n1 n2 n3; intro HB af b7 b8; clear hb hbox hg) | ((with_reducible refine G.h 2 rfl ?_); refine G.be 2 #[.int .i64 0, .slice none 0 0] 29 ?_; intro aj hg w4 hbox hb; have n0 := G.bb af hb; have n1 := G.bs HB hb; have n2 := G.m (hbox); have n3 := G.m (caax : w.heap.size ≤ aj); have n4 := G.m (caax : w.heap.size ≤ aj); have n5 := G.m ((by rw [hg]; exact Nat.ne_of_lt (blk_lt (g := ay) (o := .cells #[.int .i64 ac, .slice ai aa.length ah] 29 (0, 0)) (G.cb af.out)) : ay ≠ aj)); have n6 := G.m ((by rw [hg]; exact Nat.ne_of_gt (blk_lt (g := ay) (o := .cells #[.int .i64 ac, .slice ai aa.length ah] 29 (0, 0)) (G.cb af.out)) : aj ≠ ay)); clear af HB; revert n0 n1 n2 n3 n4 n5 n6; intro af HB ag b9 b_ am aT; clear hb hbox hg))
  have n0 := G.m (blk_drew af.out); have n1 := G.m (blk_drew ag.out); have n2 := G.m (below_drew1 HB.out); clear af ag HB; revert n0 n1 n2; intro af ag HB; refine G.st 8 (S := fun w' => w'.cell? ⟨ay, 0, none⟩ = some (.int .i64 ac) ∧ w'.cell? ⟨ay, 1, none⟩ = some (.slice ai aa.length ah)) [] ⟨G.z af 0, G.z af 1⟩ spec_l1Copy.tab1 spec_l1Copy.bits1 (fun hHeld HT_ HW_ => ?_); generalize w4.drew = w5 at af ag HB hHeld ⊢; refine G.pu 0 3 1 ?_; refine G.pu 3 6 9 ?_; refine G.ta2 1 4 11 ?_; refine G.ta2 4 7 27 ?_; refine G.on 2 5 31 (fun K hK => ?_); refine Kd.R_lit_step k51 _ 51 ?hg (N := 5) ?hd (xs := ([] : List (S51))) (inner := []) (ok := fun _ => True) (okp := fun _ => True) ?hr ?hp (fun _ hk => hk) trivial (Below.refl _ _) (Nat.le_refl _) (by simp) ?_; (case hd => rfl); (case hg => rfl); (case hr => first | (go_simp; done) | (go_simp; rfl)); (case hp => exact (Reps.none _ _)); intro bC w6 aX hb hg_ hnew_; clear hg_ hnew_; (first | rw [← a5.out] at aX | (simp only [Int.reduceToNat] at aX; rw [← a5.out] at aX)); have n0 := G.m (Kd.R_lower aX (below_size (G.cB HB.out))); have n1 := G.bb af hb; have n2 := G.bb ag hb; have n3 := G.bs HB hb; clear af ag HB; revert n0 n1 n2 n3; intro aV af ag HB; clear hb aX; refine hK.out _ _ ⟨G.z af 0, G.z af 1⟩ (fun hHeld => ?_); clear hK K; refine G.no 5 ?_; refine G.on 5 8 63 (fun K hK => ?_); refine Kd.R_append_rows_step k51 (w0 := w) w.heap.size (by rfl) (.tmp 5) (.tmp 7) 27 51 (.agg #[(.int .i64 0), (.int .i64 0)]) 16 rfl Tryd.underlying27 info51 rfl (by decide) (by omega) bC aq aa _ _ _ (fun _ => True) (fun _ => False) rfl rfl ?aO ?aR (fun _ _ h => h) (fun _ h => h.elim) ?aF ?aB ?aS ?aL ?_; (case aR => exact G.cC (Kd.C_below aD.out HB.out)); (case aB => exact (G.cB HB.out)); (case aF => exact (fun _ _ => trivial)); (case aO => exact (G.cR aV.out)); (case aS => exact (below_size (G.cB HB.out))); (case aL => have := bB.out; omega); intro cg w8 ho hb hg hat; rw [← bl.out] at ho; have n0 := G.bg af hg (Kd.R_ne aV.out af.out (by decide)); have n1 := G.bg ag hg (Kd.R_ne aV.out ag.out (by decide)); have n2 := G.m (hb); have n3 := G.m (ho); clear af ag HB aV; revert n0 n1 n2 n3; intro af ag HB a6; clear ho hb hg hat; obtain ⟨br, bu, bv⟩ := Kd.R_slice a6.out; (first | subst bv | (injection bv with bw bZ bx; have b1 := bw.symm; have b2 := bx.symm; clear bw bZ bx; subst b1; subst b2)); refine hK.out _ _ ⟨G.z af 0, G.z af 1⟩ (fun hHeld => ?_); clear hK K; refine G.no 8 ?_; refine G.pu 6 9 127 ?_; refine G.onN 7 (none) (G.fl 8 255) (fun K hK => ?_); have ch : w8.cell? ⟨aj, 0, none⟩ = some (.int .i64 0) := G.z ag 0; have ca := blk_frozen ag.out 0; have bJ := am.out; have bK := aT.out; have ci : w8.cell? ⟨aj, 1, none⟩ = some (.slice none 0 0) := G.z ag 1; have cd := blk_frozen ag.out 1; have bL := am.out; have bM := aT.out; refine skip_ (w1 := ?_) (by rfl) rfl ?_ ?_; rotate_left
  ·go_simp
   rfl
  refine hK.out _ _ ⟨((cell_far (p := ⟨aj, _, none⟩) am.out _).trans (((cell_far (p := ⟨aj, _, none⟩) am.out _).trans (hHeld.1)))), ((cell_far (p := ⟨aj, _, none⟩) am.out _).trans (((cell_far (p := ⟨aj, _, none⟩) am.out _).trans (hHeld.2))))⟩ (fun hHeld => ?_); clear hK K; refine done_ (done_of HT_.out (caaz)) ?_; try go_wp2
  refine bodyPost_ret (results_cell_row rfl _ _ aj 29 #[.int .i64 ac, .slice br aZ.length bu] (0, 0) _ rfl (by (with_reducible repeat (first | refine blk_drewN ?_ _ | refine blk_drew ?_ | refine blk_alloc ?_ _)); refine blk_put (cs := #[.int .i64 ac, .slice none 0 0]) ?_ 1 _ rfl; (with_reducible repeat (first | refine blk_drewN ?_ _ | refine blk_drew ?_ | refine blk_alloc ?_ _)); refine blk_put (cs := #[.int .i64 0, .slice none 0 0]) ?_ 0 _ rfl; (with_reducible repeat (first | refine blk_drewN ?_ _ | refine blk_drew ?_ | refine blk_alloc ?_ _)); exact ag.out) Tryd.underlying29 rfl (caaz)) rfl ?_; exact ⟨_, by first | rfl | (simp [errW_none, errW_some] <;> rfl) | (simp [*, errW_none, errW_some] <;> rfl), by (with_reducible repeat (first | apply Kd.R_alloc | apply Kd.R_drewN | apply Kd.R_drew)); exact Kd.R_mono (Kd.R_far (p := ⟨aj, 1, none⟩) (Kd.R_far (p := ⟨aj, 0, none⟩) (Kd.R_types a6.out ag.out (by decide)) (fun _ hk => hk.2) (.int .i64 ac)) (fun _ hk => hk.2) (.slice br aZ.length bu)) (fun _ hk => trivial), G.cB HB.out⟩
 ·rw [if_neg c2] at H; exact absurd H (by simp)
def spec_l1Knot.f (k : Nat) (ac : Int) (aa : List (S51)) (a1 : Int) : Option (Bool) := (spec_NetOk.f k ac aa).bind fun aQ => (if aQ = true then ((spec_l6In.f a1 0 (wrap64 (ac - 1))).bind fun az => (some az)) else (some false))
set_option maxHeartbeats 8000000 in
set_option maxRecDepth 100000 in
theorem spec_l1Knot.calls (k : Nat) (ac : Int) (ai : Option Addr) (ah : Nat) (aa : List (S51)) (a1 : Int) (r : Bool) (w : World) (aw : Kd.C k51 w ai aa.length aa) (ax : aa.length ≤ ah) (h : spec_l1Knot.f k ac aa a1 = some r) :
  Calls Tryd.prog 93 #[.agg #[.int .i64 ac, .slice ai aa.length ah], .int .i64 a1] w fun e w' => e = .returned (.bool r) ∧ Below w.heap.size w w' := by
 have a9 := Tryd.underlying29; have aD := G.m aw; have aU := G.m ax; clear aw ax; have HB := G.m (Below.refl w.heap.size w); have H : ((spec_NetOk.f k ac aa).bind fun aQ => (if aQ = true then ((spec_l6In.f a1 0 (wrap64 (ac - 1))).bind fun az => (some az)) else (some false))) = some r := h; clear h; obtain ⟨aQ, A3, H⟩ := G.bi H; replace H : (if aQ = true then ((spec_l6In.f a1 0 (wrap64 (ac - 1))).bind fun az => (some az)) else (some false)) = some r := H
 by_cases c4 : aQ = true
 ·subst c4; have H1 : ((spec_l6In.f a1 0 (wrap64 (ac - 1))).bind fun az => (some az)) = some r := by rw [if_pos rfl] at H; exact H
  clear H; have H := H1; clear H1; obtain ⟨az, A5, H⟩ := G.bi H; replace H : (some az) = some r := H; obtain rfl := Option.some.inj H
  go_enter Tryd.func93, Tryd.ntmps93
  go_wp2_with (first | ((with_reducible refine G.h 2 rfl ?_); refine G.be 2 #[.int .i64 ac, .slice ai aa.length ah] 29 ?_; intro aN hg w6 hbox hb; have n0 := G.bs HB hb; have n1 := G.m (hbox); have n2 := G.m (caax : w.heap.size ≤ aN); have n3 := G.m (caax : w.heap.size ≤ aN); clear HB; revert n0 n1 n2 n3; intro HB ao bm bn; clear hb hbox hg; have ⟨a_, ba, bc, bd⟩ := G.d2 (w := w6) ao) | ((with_reducible refine G.f 38 rfl ?_); refine G.gL 6 Tryd.func38 #[.agg #[.int .i64 ac, .slice ai aa.length ah]] ?_; (with_reducible refine (spec_NetOk.calls k ac _ _ aa true _ ?side1 ?side2 A3.out).mono ?_); (case side1 => exact G.cC (Kd.C_below aD.out HB.out)); (case side2 => exact aU.out); rintro e w8 ⟨rfl, hb⟩; refine ⟨_, rfl, ?_⟩; have n0 := G.bb ao hb; have n1 := G.bs HB hb; clear ao HB; revert n0 n1; intro ao HB; (try clear hb); have ⟨bf, bh, bj, bk⟩ := G.d2 (w := w8) ao) | (go_at_call 64; (with_reducible refine (spec_l6In.calls a1 0 (wrap64 (ac - 1)) az _ A5.out).mono ?_); rintro e w' ⟨rfl, ⟨nd, rfl⟩⟩))
  go_ret
  exact ⟨caay, G.cB HB.out⟩
 ·replace c4 := Bool.eq_false_iff.mpr c4; subst c4; have H1 : (some false) = some r := by rw [if_neg (show ¬ (false = true) by decide)] at H; exact H
  clear H; have H := H1; clear H1; obtain rfl := Option.some.inj H
  go_enter Tryd.func93, Tryd.ntmps93
  go_wp2_with (first | ((with_reducible refine G.h 2 rfl ?_); refine G.be 2 #[.int .i64 ac, .slice ai aa.length ah] 29 ?_; intro aN hg bz hbox hb; have n0 := G.bs HB hb; have n1 := G.m (hbox); have n2 := G.m (caax : w.heap.size ≤ aN); have n3 := G.m (caax : w.heap.size ≤ aN); clear HB; revert n0 n1 n2 n3; intro HB ao bm bn; clear hb hbox hg; have ⟨bN, bO, bP, bQ⟩ := G.d2 (w := bz) ao) | ((with_reducible refine G.f 38 rfl ?_); refine G.gL 6 Tryd.func38 #[.agg #[.int .i64 ac, .slice ai aa.length ah]] ?_; (with_reducible refine (spec_NetOk.calls k ac _ _ aa false _ ?side1 ?side2 A3.out).mono ?_); (case side1 => exact G.cC (Kd.C_below aD.out HB.out)); (case side2 => exact aU.out); rintro e cl ⟨rfl, hb⟩; refine ⟨_, rfl, ?_⟩; have n0 := G.bb ao hb; have n1 := G.bs HB hb; clear ao HB; revert n0 n1; intro ao HB; (try clear hb)))
  go_ret
  exact ⟨caay, G.cB HB.out⟩
def spec_l1Tie.f (a0 : Int) (a1 : Int) : Option (Int × Int) := if a0 < a1 then (some (a0, a1)) else (some (a1, a0))
set_option maxHeartbeats 8000000 in
set_option maxRecDepth 100000 in
theorem spec_l1Tie.calls (a0 : Int) (a1 : Int) (r1 : Int) (r2 : Int) (w : World) (h : spec_l1Tie.f a0 a1 = some (r1, r2)) :
  Calls Tryd.prog 84 #[.int .i64 a0, .int .i64 a1] w fun e w' => e = .returned (.agg #[.int .i64 r1, .int .i64 r2]) ∧ Below w.heap.size w w' := by
 have bD := Tryd.underlying51; have HB := G.m (Below.refl w.heap.size w); have H : (if a0 < a1 then (some (a0, a1)) else (some (a1, a0))) = some (r1, r2) := h; clear h
 by_cases c3 : a0 < a1
 ·rw [if_pos c3] at H; have bE : decide (a0 < a1) = true := decide_eq_true c3; clear c3; simp only [Option.some.injEq, Prod.mk.injEq] at H; obtain ⟨rfl, rfl⟩ := H
  go_enter Tryd.func84, Tryd.ntmps84
  go_wp2_with (first | ((with_reducible refine G.h 4 rfl ?_); refine G.be 4 #[.int .i64 0, .int .i64 0] 51 ?_; intro aE hg w4 hbox hb; have n0 := G.bs HB hb; have n1 := G.m (hbox); have n2 := G.m (caax : w.heap.size ≤ aE); have n3 := G.m (caax : w.heap.size ≤ aE); clear HB; revert n0 n1 n2 n3; intro HB aP bo bp; clear hb hbox hg; have ⟨b3, b4, b5, b6⟩ := G.d2 (w := w4) aP))
  refine bodyPost_ret (results_cell_row rfl _ _ aE 51 #[.int .i64 a0, .int .i64 a1] (0, 0) _ rfl (by (with_reducible repeat (first | refine blk_drewN ?_ _ | refine blk_drew ?_ | refine blk_alloc ?_ _)); refine blk_put (cs := #[.int .i64 a0, .int .i64 0]) ?_ 1 _ rfl; (with_reducible repeat (first | refine blk_drewN ?_ _ | refine blk_drew ?_ | refine blk_alloc ?_ _)); refine blk_put (cs := #[.int .i64 0, .int .i64 0]) ?_ 0 _ rfl; (with_reducible repeat (first | refine blk_drewN ?_ _ | refine blk_drew ?_ | refine blk_alloc ?_ _)); exact aP.out) Tryd.underlying51 rfl (caaz)) rfl ?_; exact ⟨caay, G.cB HB.out⟩
 ·rw [if_neg c3] at H; have bE : decide (a0 < a1) = false := decide_eq_false c3; clear c3; simp only [Option.some.injEq, Prod.mk.injEq] at H; obtain ⟨rfl, rfl⟩ := H
  go_enter Tryd.func84, Tryd.ntmps84
  go_wp2_with (first | ((with_reducible refine G.h 4 rfl ?_); refine G.be 4 #[.int .i64 0, .int .i64 0] 51 ?_; intro aE hg w6 hbox hb; have n0 := G.bs HB hb; have n1 := G.m (hbox); have n2 := G.m (caax : w.heap.size ≤ aE); have n3 := G.m (caax : w.heap.size ≤ aE); clear HB; revert n0 n1 n2 n3; intro HB aP bo bp; clear hb hbox hg; have ⟨a_, ba, bc, bd⟩ := G.d2 (w := w6) aP))
  refine bodyPost_ret (results_cell_row rfl _ _ aE 51 #[.int .i64 a1, .int .i64 a0] (0, 0) _ rfl (by (with_reducible repeat (first | refine blk_drewN ?_ _ | refine blk_drew ?_ | refine blk_alloc ?_ _)); refine blk_put (cs := #[.int .i64 a1, .int .i64 0]) ?_ 1 _ rfl; (with_reducible repeat (first | refine blk_drewN ?_ _ | refine blk_drew ?_ | refine blk_alloc ?_ _)); refine blk_put (cs := #[.int .i64 0, .int .i64 0]) ?_ 0 _ rfl; (with_reducible repeat (first | refine blk_drewN ?_ _ | refine blk_drew ?_ | refine blk_alloc ?_ _)); exact aP.out) Tryd.underlying51 rfl (caaz)) rfl ?_; exact ⟨caay, G.cB HB.out⟩
def spec_l1Has.l0 : Nat → Int → Int → Int → Int → List (S51) → Option (Bool)
 | 0, _, _, _, _, _ => none
 | k + 1, x1, x2, x7, a8, aH => if x7 < (aH.length : Int) then (if 0 ≤ x7 then ((spec_l1Tie.f x1 x2).bind fun a7 => (if (((rd_T51 aH x7).f0) == a7.1 && (((rd_T51 aH x7).f1) == a7.2)) = true then (some true) else (spec_l1Has.l0 k x1 x2 (wrap64 (x7 + 1)) a8 aH))) else (none)) else (some false)
def spec_l1Has.f (k : Nat) (ac : Int) (aa : List (S51)) (a1 : Int) (a2 : Int) : Option (Bool) := spec_l1Has.l0 k a1 a2 0 ac aa
def spec_l1Has.T4 : Bool × List (List Nat × List Nat) := (true, [([], []), ([0], [0]), ([], []), ([1, 2], [1, 2]), ([3], [3]), ([], []), ([], []), ([5, 6], [5, 6]), ([4, 7], [4, 7])])
def spec_l1Has.B4 : List Nat := [0, 1, 0, 7, 15, 0, 0, 96, 255]
theorem spec_l1Has.tab4 : rtab .any (opsOf Tryd.f63 4) = spec_l1Has.T4 := by kernel_rfl
theorem spec_l1Has.bits4 : waitsOk spec_l1Has.T4.2 spec_l1Has.B4 = true := by kernel_rfl
set_option maxHeartbeats 8000000 in
set_option maxRecDepth 100000 in
theorem spec_l1Has.calls (k : Nat) (ac : Int) (ai : Option Addr) (ah : Nat) (aa : List (S51)) (a1 : Int) (a2 : Int) (r : Bool) (w : World) (aw : Kd.C k51 w ai aa.length aa) (ax : aa.length ≤ ah) (h : spec_l1Has.f k ac aa a1 a2 = some r) :
  Calls Tryd.prog 63 #[.agg #[.int .i64 ac, .slice ai aa.length ah], .int .i64 a1, .int .i64 a2] w fun e w' => e = .returned (.bool r) ∧ Below w.heap.size w w' := by
 have a9 := Tryd.underlying29; have bD := Tryd.underlying51; have aD := G.m aw; have aU := G.m ax; clear aw ax; have HB := G.m (Below.refl w.heap.size w); have H : (spec_l1Has.l0 k a1 a2 0 ac aa) = some r := h; clear h; have H' := G.m H; clear H
 go_enter Tryd.func63, Tryd.ntmps63
 go_wp2_with (first | ((with_reducible refine G.h 3 rfl ?_); refine G.be 3 #[.int .i64 ac, .slice ai aa.length ah] 29 ?_; intro aG hg w4 hbox hb; have n0 := G.bs HB hb; have n1 := G.m (hbox); have n2 := G.m (caax : w.heap.size ≤ aG); have n3 := G.m (caax : w.heap.size ≤ aG); clear HB; revert n0 n1 n2 n3; intro HB ae ce cf; clear hb hbox hg))
 go_loopg [7] k (fun kq v7 w' => ∃ (ab : Int), v7 = .int .i64 ab ∧ Aside0 (spec_l1Has.l0 kq a1 a2 ab ac aa = some r) ∧ Aside0 (kq ≤ k) ∧ Aside0 (w'.heap[aG]? = some (.cells #[.int .i64 ac, (.slice ai aa.length ah)] 29 (0, 0))) ∧ Aside0 (Below w.heap.size w w'))
 case atStart => exact ⟨(0), (by first | rfl | (simp; done) | (simp [*]; done)), H', ⟨Nat.le_refl _⟩, ⟨G.cb ae.out⟩, ⟨G.cB HB.out⟩⟩
 case round =>
  clear H'; try clear p2
  obtain ⟨ab, rfl, HA, bA, ae, HB⟩ := hrel; cases gk with
  | zero => exact absurd HA.out (by simp [spec_l1Has.l0])
  | succ k1 =>
   have H := HA.out; clear HA; simp only [spec_l1Has.l0] at H
   by_cases c5 : ab < (aa.length : Int)
   ·rw [if_pos c5] at H; have bF : decide (ab < (aa.length : Int)) = true := decide_eq_true c5; clear c5
    by_cases c6 : 0 ≤ ab
    ·rw [if_pos c6] at H; have cj : decide (0 ≤ ab) = true := decide_eq_true c6; clear c6; obtain ⟨⟨au, av⟩, A7, H⟩ := G.bi H; replace H : (if (((rd_T51 aa ab).f0) == au && (((rd_T51 aa ab).f1) == av)) = true then (some true) else (spec_l1Has.l0 k1 a1 a2 (wrap64 (ab + 1)) ac aa)) = some r := H
     by_cases c8 : (((rd_T51 aa ab).f0) == au && (((rd_T51 aa ab).f1) == av)) = true
     ·rw [if_pos c8] at H; have bG : (((rd_T51 aa ab).f0) == au && (((rd_T51 aa ab).f1) == av)) = true := c8; (try (have bH : decide (((rd_T51 aa ab).f0) = au && (((rd_T51 aa ab).f1) == av)) = true := by simpa using c8)); (try (have bI : (((rd_T51 aa ab).f0) == au && (((rd_T51 aa ab).f1) == av)) = true := by simpa using c8)); clear c8; obtain rfl := Option.some.inj H; have ⟨bf, bh, bj, bk⟩ := G.d2 (w := wr) ae; try go_wp2
      have n0 := G.m (blk_drew ae.out); have n1 := G.m (below_drew1 HB.out); clear ae HB; revert n0 n1; intro ae HB; have aI : 0 ≤ (ab : Int) := of_decide_eq_true (G.asm); have aJ : ab < (aa.length : Int) := of_decide_eq_true (G.asm); obtain ⟨ap, a4, ak, al⟩ := at_T51 aD.out ab aI aJ; have aA := al; have aC := ak; cases a4; replace ak := G.hx HB ak; replace al := G.hx HB al; replace aI := eq_true aI; replace aJ := eq_true aJ; refine G.st 9 (S := fun w' => w'.cell? ⟨aG, 0, none⟩ = some (.int .i64 ac) ∧ w'.cell? ⟨aG, 1, none⟩ = some (.slice (some ap) aa.length ah) ∧ w'.cell? (ap.add ((ab).toNat * 2)) = some (.int .i64 ((rd_T51 aa ab).f0)) ∧ w'.cell? ⟨(ap.add ((ab).toNat * 2)).block, (ap.add ((ab).toNat * 2)).off + 1, none⟩ = some (.int .i64 ((rd_T51 aa ab).f1))) [] ⟨G.z ae 0, G.z ae 1, (G.hx HB aC), (G.hx HB aA)⟩ spec_l1Has.tab4 spec_l1Has.bits4 (fun hHeld HT_ HW_ => ?_); generalize wr.drew = bz at ae HB ak al hHeld ⊢; refine G.pu 0 15 1 ?_; refine G.pu 2 17 5 ?_; refine G.pu 5 20 37 ?_; refine G.pu 6 21 101 ?_; refine G.ta4 1 16 103 ?_; refine G.pu 3 18 111 ?_; refine G.ta4 4 19 127 ?_; refine G.on 7 22 255 (fun K hK => ?_); refine G.gs Tryd.func84 #[.int .i64 a1, .int .i64 a2] ?_; with_reducible refine (spec_l1Tie.calls a1 a2 au av _ A7.out).mono ?_
      rintro e cm ⟨rfl, hb⟩; refine ⟨_, rfl, ?_⟩; have n0 := G.bb ae hb; have n1 := G.bs HB hb; clear ae HB; revert n0 n1; intro ae HB; (try clear hb); refine hK.out _ _ ⟨G.z ae 0, G.z ae 1, (G.hx HB aC), (G.hx HB aA)⟩ (fun hHeld => ?_); clear hK K; refine G.no 22 ?_; refine G.pu 8 23 511 ?_; refine done_ (done_of HT_.out (caaz)) ?_; try go_wp2
      go_ret
      exact ⟨caay, G.cB HB.out⟩
     ·rw [if_neg c8] at H; have bG : (((rd_T51 aa ab).f0) == au && (((rd_T51 aa ab).f1) == av)) = false := by simpa using c8
      (try (have bH : decide (((rd_T51 aa ab).f0) = au && (((rd_T51 aa ab).f1) == av)) = false := by simpa using c8)); (try (have bI : (((rd_T51 aa ab).f0) == au && (((rd_T51 aa ab).f1) == av)) = false := by simpa using c8)); (try (have ck : ¬ (((rd_T51 aa ab).f0) = au && (((rd_T51 aa ab).f1) == av)) := by simpa using c8)); clear c8; have H' := G.m H; clear H; have ⟨bR, bS, bT, bU⟩ := G.d2 (w := wr) ae; try go_wp2
      have n0 := G.m (blk_drew ae.out); have n1 := G.m (below_drew1 HB.out); clear ae HB; revert n0 n1; intro ae HB; have aI : 0 ≤ (ab : Int) := of_decide_eq_true (G.asm); have aJ : ab < (aa.length : Int) := of_decide_eq_true (G.asm); obtain ⟨ap, a4, ak, al⟩ := at_T51 aD.out ab aI aJ; have aA := al; have aC := ak; cases a4; replace ak := G.hx HB ak; replace al := G.hx HB al; replace aI := eq_true aI; replace aJ := eq_true aJ; refine G.st 9 (S := fun w' => w'.cell? ⟨aG, 0, none⟩ = some (.int .i64 ac) ∧ w'.cell? ⟨aG, 1, none⟩ = some (.slice (some ap) aa.length ah) ∧ w'.cell? (ap.add ((ab).toNat * 2)) = some (.int .i64 ((rd_T51 aa ab).f0)) ∧ w'.cell? ⟨(ap.add ((ab).toNat * 2)).block, (ap.add ((ab).toNat * 2)).off + 1, none⟩ = some (.int .i64 ((rd_T51 aa ab).f1))) [] ⟨G.z ae 0, G.z ae 1, (G.hx HB aC), (G.hx HB aA)⟩ spec_l1Has.tab4 spec_l1Has.bits4 (fun hHeld HT_ HW_ => ?_); generalize wr.drew = cn at ae HB ak al hHeld ⊢; refine G.pu 0 15 1 ?_; refine G.pu 2 17 5 ?_; refine G.pu 5 20 37 ?_; refine G.pu 6 21 101 ?_; refine G.ta4 1 16 103 ?_; refine G.pu 3 18 111 ?_; refine G.ta4 4 19 127 ?_; refine G.on 7 22 255 (fun K hK => ?_); refine G.gs Tryd.func84 #[.int .i64 a1, .int .i64 a2] ?_; with_reducible refine (spec_l1Tie.calls a1 a2 au av _ A7.out).mono ?_
      rintro e co ⟨rfl, hb⟩; refine ⟨_, rfl, ?_⟩; have n0 := G.bb ae hb; have n1 := G.bs HB hb; clear ae HB; revert n0 n1; intro ae HB; (try clear hb); refine hK.out _ _ ⟨G.z ae 0, G.z ae 1, (G.hx HB aC), (G.hx HB aA)⟩ (fun hHeld => ?_); clear hK K; refine G.no 22 ?_; refine G.pu 8 23 511 ?_; refine done_ (done_of HT_.out (caaz)) ?_; try go_wp2
      go_roundg k1
      case measure => have := bA.out; omega
      case rel => exact ⟨(wrap64 (ab + 1)), (by first | rfl | (simp; done) | (simp [*]; done)), H', ⟨by have := bA.out; omega⟩, ⟨G.cb ae.out⟩, ⟨G.cB HB.out⟩⟩
    ·rw [if_neg c6] at H; exact absurd H (by simp)
   ·rw [if_neg c5] at H; have bF : decide (ab < (aa.length : Int)) = false := decide_eq_false c5; clear c5; obtain rfl := Option.some.inj H; have ⟨bV, bW, bX, bY⟩ := G.d2 (w := wr) ae
    go_wp2
    go_ret
    exact ⟨caay, G.cB HB.out⟩
theorem caaC {p : Prop} (h : p := by first | rfl | (simp [errW_none, errW_some] <;> rfl) | (simp [*, errW_none, errW_some] <;> rfl)) : p := h
theorem caaB {p : Prop} (h : p := by repeat (first | (with_reducible first | exact au.out | apply IsS90.alloc | apply IsS90.drewN | apply IsS90.drew | apply IsS90.set_1) | (with_reducible refine IsS90.far ?_ (Aside0.out (by assumption)) _) | exact au.out)) : p := h
theorem caaA {B : Nat} {w w1 w2 : World} (H : Below B w w1) (h : Below B w w2 := by repeat (first | (with_reducible first | exact HB.out | apply below_alloc | apply pw_below_drewN | apply below_drew1) | (with_reducible refine below_set ?_ (Aside0.out (by assumption))) | (with_reducible refine below_set ?_ (IsS90.ge au.out)) | exact HB.out)) : Below B w w2 := h
def IsS90 (w0 W : World) (g : Nat) (f0 : List Int) (f1 : Int) : Prop := ∃ A0 c0, W.heap[g]? = some (.cells #[.slice A0 f0.length c0, .int .i64 f1] 90 (0, 0)) ∧ w0.heap.size ≤ g ∧ Kd.C (Kd.int .u8) w0 A0 f0.length f0
theorem IsS90.grown {w0 W : World} {g : Nat} {f0 : List Int} {f1 : Int} {W1 : World} {row : Option Nat} (h : IsS90 w0 W g f0 f1) (hw : W.grownBy W1 row) (hne : some g ≠ row) : IsS90 w0 W1 g f0 f1 := by
 obtain ⟨A0, c0, hb, hg, ai⟩ := h; exact ⟨A0, c0, blk_grown hb hw hne, hg, ai⟩
theorem IsS90.kept {w0 W : World} {g : Nat} {f0 : List Int} {f1 : Int} {W1 : World} {S : Nat → Prop} (h : IsS90 w0 W g f0 f1) (hk : Kept W W1 S) (hne : ¬ S g) : IsS90 w0 W1 g f0 f1 := by
 obtain ⟨A0, c0, hb, hg, ai⟩ := h; exact ⟨A0, c0, blk_kept hb hk hne, hg, ai⟩
theorem IsS90.below {w0 W : World} {g : Nat} {f0 : List Int} {f1 : Int} {W1 : World} (h : IsS90 w0 W g f0 f1) (hw : Below W.heap.size W W1) : IsS90 w0 W1 g f0 f1 := h.grown (grown_of_below hw none) (by simp)
theorem IsS90.alloc {w0 W : World} {g : Nat} {f0 : List Int} {f1 : Int} (h : IsS90 w0 W g f0 f1) (o : Obj) : IsS90 w0 (W.alloc o) g f0 f1 := h.below (below_alloc (Below.refl _ _) o)
theorem IsS90.drewN {w0 W : World} {g : Nat} {f0 : List Int} {f1 : Int} (h : IsS90 w0 W g f0 f1) (m : Nat) : IsS90 w0 (W.drewN m) g f0 f1 := h
theorem IsS90.drew {w0 W : World} {g : Nat} {f0 : List Int} {f1 : Int} (h : IsS90 w0 W g f0 f1) : IsS90 w0 W.drew g f0 f1 := h
theorem IsS90.at_ {w0 W : World} {g : Nat} {f0 : List Int} {f1 : Int} {w' : World} {m : Nat} (hq : W.drewN m = w') (h : IsS90 w0 W g f0 f1) : IsS90 w0 w' g f0 f1 := by subst hq; exact IsS90.drewN h m
theorem IsS90.apart {w0 W : World} {g : Nat} {f0 : List Int} {f1 : Int} {α : Type} {d : Kd α} {e : Nat} {base : Nat} {ok : Nat → Prop} {v : Value} {xs : List α} (h : IsS90 w0 W g f0 f1) (ho : d.R e W base ok v xs) (ht : ∀ q, q ∈ e :: d.E → q ≠ 90) : d.R e W base (fun k => ok k ∧ k ≠ g) v xs := by
 obtain ⟨A0, c0, hb, hg, ai⟩ := h; exact Kd.R_types ho hb ht
theorem IsS90.own_ne {w0 W : World} {g : Nat} {f0 : List Int} {f1 : Int} {α : Type} {d : Kd α} {e : Nat} {base : Nat} {ok : Nat → Prop} {v : Value} {xs : List α} (h : IsS90 w0 W g f0 f1) (ho : d.R e W base ok v xs) (ht : e ≠ 90) : some g ≠ v.ownBlock := by
 obtain ⟨A0, c0, hb, hg, ai⟩ := h; exact Kd.R_ne ho hb ht
theorem IsS90.lt {w0 W : World} {g : Nat} {f0 : List Int} {f1 : Int} (h : IsS90 w0 W g f0 f1) : g < W.heap.size := by
 obtain ⟨A0, c0, hb, hg, ai⟩ := h; exact blk_lt hb
theorem IsS90.ge {w0 W : World} {g : Nat} {f0 : List Int} {f1 : Int} (h : IsS90 w0 W g f0 f1) : w0.heap.size ≤ g := by
 obtain ⟨A0, c0, hb, hg, ai⟩ := h; exact hg
theorem IsS90.ne_blk {w0 W : World} {g : Nat} {f0 : List Int} {f1 : Int} {a : Nat} {cs : Array Value} {t : TypeId} {fr : Nat × Nat} (h : IsS90 w0 W g f0 f1) (aT : W.heap[a]? = some (.cells cs t fr)) (ht : t ≠ 90) : g ≠ a := by
 obtain ⟨A0, c0, hb, hg, ai⟩ := h; rintro rfl; rw [hb] at aT; injection aT with aT; injection aT with _ ht2; exact ht ht2.symm
theorem IsS90.far {w0 W : World} {g : Nat} {f0 : List Int} {f1 : Int} {p : Addr} (h : IsS90 w0 W g f0 f1) (hne : g ≠ p.block) (u : Value) : IsS90 w0 (W.setCell p u) g f0 f1 := by
 obtain ⟨A0, c0, hb, hg, ai⟩ := h; exact ⟨A0, c0, blk_far hb hne u, hg, ai⟩
theorem cellS90_0 {W : World} {g : Nat} {A0 : Option Addr} {c0 : Nat} {f0 : List Int} {f1 : Int} (h : W.heap[g]? = some (.cells #[.slice A0 f0.length c0, .int .i64 f1] 90 (0, 0))) : W.cell? ⟨g, 0, none⟩ = some (.slice A0 f0.length c0) := (blk_cell h 0).trans rfl
theorem cellS90_1 {W : World} {g : Nat} {A0 : Option Addr} {c0 : Nat} {f0 : List Int} {f1 : Int} (h : W.heap[g]? = some (.cells #[.slice A0 f0.length c0, .int .i64 f1] 90 (0, 0))) : W.cell? ⟨g, 1, none⟩ = some (.int .i64 f1) := (blk_cell h 1).trans rfl
theorem IsS90.set_1 {w0 W : World} {g : Nat} {f0 : List Int} {f1 : Int} (h : IsS90 w0 W g f0 f1) (x : Int) : IsS90 w0 (W.setCell ⟨g, 1, none⟩ (.int .i64 x)) g f0 x := by
 obtain ⟨A0, c0, hb, hg, ai⟩ := h; exact ⟨A0, c0, by simpa using blk_set hb 1 (.int .i64 x), hg, ai⟩
def spec_l6Rd_pick.j0 : Nat → Int → Bool → List Int → Int → Option (Int × Int)
 | 0, _, _, _, _ => none
 | k + 1, x1, bL, ac, ae => if bL = true then (some (0, ae)) else (if (wrap64 (ae - 1)) < (ac.length : Int) then (if 0 ≤ (wrap64 (ae - 1)) then (if x1 = 0 then (none) else (some (Int.tmod (wrap64 (rd ac (wrap64 (ae - 1)))) x1, ae))) else (none)) else (if (ac.length : Int) = 0 then (none) else (if 0 ≤ (Int.tmod (wrap64 (ae - 1)) (ac.length : Int)) then (if (Int.tmod (wrap64 (ae - 1)) (ac.length : Int)) < (ac.length : Int) then (if 0 ≤ (Int.tmod (wrap64 ((wrap64 ((wrap64 (ae - 1)) * 7)) + 3)) (ac.length : Int)) then (if (Int.tmod (wrap64 ((wrap64 ((wrap64 (ae - 1)) * 7)) + 3)) (ac.length : Int)) < (ac.length : Int) then (if x1 = 0 then (none) else (some (Int.tmod (Go.bits .xor .i64 (wrap64 ((wrap64 ((wrap64 ((wrap64 ((wrap64 (rd ac (Int.tmod (wrap64 (ae - 1)) (ac.length : Int)))) * 131)) + (wrap64 ((wrap64 (rd ac (Int.tmod (wrap64 ((wrap64 ((wrap64 (ae - 1)) * 7)) + 3)) (ac.length : Int)))) * 1117)))) + (wrap64 ((wrap64 (ae - 1)) * 29)))) + (wrap64 ((wrap64 (Int.tdiv (wrap64 (ae - 1)) (ac.length : Int))) * 53)))) (wrap64 (Int.tdiv (wrap64 ((wrap64 ((wrap64 ((wrap64 ((wrap64 (rd ac (Int.tmod (wrap64 (ae - 1)) (ac.length : Int)))) * 131)) + (wrap64 ((wrap64 (rd ac (Int.tmod (wrap64 ((wrap64 ((wrap64 (ae - 1)) * 7)) + 3)) (ac.length : Int)))) * 1117)))) + (wrap64 ((wrap64 (ae - 1)) * 29)))) + (wrap64 ((wrap64 (Int.tdiv (wrap64 (ae - 1)) (ac.length : Int))) * 53)))) 64))) x1, ae))) else (none)) else (none)) else (none)) else (none))))
def spec_l6Rd_pick.f (k : Nat) (aa : List Int) (ab : Int) (a1 : Int) : Option (Int × Int) := if a1 < 1 then (spec_l6Rd_pick.j0 k a1 true aa (wrap64 (ab + 1))) else (spec_l6Rd_pick.j0 k a1 ((aa.length : Int) == 0) aa (wrap64 (ab + 1)))
set_option maxHeartbeats 8000000 in
set_option maxRecDepth 100000 in
theorem spec_l6Rd_pick.calls (k : Nat) (g : Nat) (aa : List Int) (ab : Int) (a1 : Int) (r1 : Int) (r2 : Int) (w0 w : World) (hI : IsS90 w0 w g aa ab) (hB : Below w0.heap.size w0 w) (h : spec_l6Rd_pick.f k aa ab a1 = some (r1, r2)) :
  Calls Tryd.prog 59 #[.pointer (some ⟨g, 0, none⟩), .int .i64 a1] w fun e w' => e = .returned (.int .i64 r1) ∧ IsS90 w0 w' g aa r2 ∧ Below w0.heap.size w0 w' ∧ KeepBut w w' g none := by
 have au := G.m hI; have HK := G.m (KeepBut.refl w g none); have HL := G.m hB.size; clear hI; have ci := G.m hB.size; have HB := G.m hB; clear hB; have H : (if a1 < 1 then (spec_l6Rd_pick.j0 k a1 true aa (wrap64 (ab + 1))) else (spec_l6Rd_pick.j0 k a1 ((aa.length : Int) == 0) aa (wrap64 (ab + 1)))) = some (r1, r2) := h; clear h; have a7 := G.m H; clear H; obtain ⟨bM, bN, aF, bl, bO⟩ := au.out; have a8 := cellS90_0 aF; have a9 := cellS90_1 aF; have a_ := blk_frozen aF 1; clear aF bl
 go_enter Tryd.func59, Tryd.ntmps59
 go_upto_region 2 with (fail)
 repeat (go_quiet (fail); go_upto_region 2 with (fail))
 go_cut [24] (fun bP wc => ∃ (kq : Nat) (aw : Bool), bP = .bool aw ∧ Aside0 (spec_l6Rd_pick.j0 kq a1 aw aa (wrap64 (ab + 1)) = some (r1, r2)) ∧ Aside0 (kq ≤ k) ∧ Aside0 (IsS90 w0 wc g aa (wrap64 (ab + 1))) ∧ Aside0 (KeepBut w wc g none) ∧ Aside0 (Below w0.heap.size w0 wc))
 case first =>
  have H := a7.out; clear a7
  by_cases c5 : a1 < 1
  ·rw [if_pos c5] at H; have az : decide (a1 < 1) = true := decide_eq_true c5; clear c5; (first | rw [az] | (simp only [i64_w, i32_w]; rw [az]) | skip); have H' := G.m H; clear H
   go_wp2
   repeat (go_quiet (fail); try go_wp2)
   go_meet
   case rel => exact ⟨_, (true), (by first | rfl | (simp; done) | (simp [*]; done)), H', ⟨by first | omega | exact Nat.le_refl _⟩, ⟨caaB⟩, ⟨G.cK HK.out⟩, ⟨caaA HB.out⟩⟩
  ·rw [if_neg c5] at H; have az : decide (a1 < 1) = false := decide_eq_false c5; clear c5; (first | rw [az] | (simp only [i64_w, i32_w]; rw [az]) | skip); have H' := G.m H; clear H; obtain ⟨bQ, bR, aG, bm, bS⟩ := au.out; have bT := cellS90_0 aG; have bU := cellS90_1 aG; have bV := blk_frozen aG 1; clear aG bm
   go_wp2
   repeat (go_quiet (fail); try go_wp2)
   go_meet
   case rel => exact ⟨_, (((aa.length : Int) == 0)), (by first | rfl | (simp; done) | (simp [*]; done)), H', ⟨by first | omega | exact Nat.le_refl _⟩, ⟨caaB⟩, ⟨G.cK HK.out⟩, ⟨caaA HB.out⟩⟩
 case rest =>
  clear a7; (try clear a8 a9 a_); obtain ⟨kq, aw, rfl, HA, cj, au, HK, HB⟩ := hcut; cases kq with
  | zero => exact absurd HA.out (by simp [spec_l6Rd_pick.j0])
  | succ ck =>
   have H := HA.out; clear HA; simp only [spec_l6Rd_pick.j0] at H
   by_cases c7 : aw = true
   ·subst c7; have H1 : (some (0, (wrap64 (ab + 1)))) = some (r1, r2) := by rw [if_pos rfl] at H; exact H
    clear H; have H := H1; clear H1; simp only [Option.some.injEq, Prod.mk.injEq] at H; obtain ⟨rfl, rfl⟩ := H
    go_wp2
    repeat (go_quiet (fail); try go_wp2)
    go_ret
    exact ⟨caaC, caaB, caaA HB.out, G.cK HK.out⟩
   ·replace c7 := Bool.eq_false_iff.mpr c7; subst c7; have H1 : (if (wrap64 ((wrap64 (ab + 1)) - 1)) < (aa.length : Int) then (if 0 ≤ (wrap64 ((wrap64 (ab + 1)) - 1)) then (if a1 = 0 then (none) else (some (Int.tmod (wrap64 (rd aa (wrap64 ((wrap64 (ab + 1)) - 1)))) a1, (wrap64 (ab + 1))))) else (none)) else (if (aa.length : Int) = 0 then (none) else (if 0 ≤ (Int.tmod (wrap64 ((wrap64 (ab + 1)) - 1)) (aa.length : Int)) then (if (Int.tmod (wrap64 ((wrap64 (ab + 1)) - 1)) (aa.length : Int)) < (aa.length : Int) then (if 0 ≤ (Int.tmod (wrap64 ((wrap64 ((wrap64 ((wrap64 (ab + 1)) - 1)) * 7)) + 3)) (aa.length : Int)) then (if (Int.tmod (wrap64 ((wrap64 ((wrap64 ((wrap64 (ab + 1)) - 1)) * 7)) + 3)) (aa.length : Int)) < (aa.length : Int) then (if a1 = 0 then (none) else (some (Int.tmod (Go.bits .xor .i64 (wrap64 ((wrap64 ((wrap64 ((wrap64 ((wrap64 (rd aa (Int.tmod (wrap64 ((wrap64 (ab + 1)) - 1)) (aa.length : Int)))) * 131)) + (wrap64 ((wrap64 (rd aa (Int.tmod (wrap64 ((wrap64 ((wrap64 ((wrap64 (ab + 1)) - 1)) * 7)) + 3)) (aa.length : Int)))) * 1117)))) + (wrap64 ((wrap64 ((wrap64 (ab + 1)) - 1)) * 29)))) + (wrap64 ((wrap64 (Int.tdiv (wrap64 ((wrap64 (ab + 1)) - 1)) (aa.length : Int))) * 53)))) (wrap64 (Int.tdiv (wrap64 ((wrap64 ((wrap64 ((wrap64 ((wrap64 (rd aa (Int.tmod (wrap64 ((wrap64 (ab + 1)) - 1)) (aa.length : Int)))) * 131)) + (wrap64 ((wrap64 (rd aa (Int.tmod (wrap64 ((wrap64 ((wrap64 ((wrap64 (ab + 1)) - 1)) * 7)) + 3)) (aa.length : Int)))) * 1117)))) + (wrap64 ((wrap64 ((wrap64 (ab + 1)) - 1)) * 29)))) + (wrap64 ((wrap64 (Int.tdiv (wrap64 ((wrap64 (ab + 1)) - 1)) (aa.length : Int))) * 53)))) 64))) a1, (wrap64 (ab + 1))))) else (none)) else (none)) else (none)) else (none)))) = some (r1, r2) := by rw [if_neg (show ¬ (false = true) by decide)] at H; exact H
    clear H; have H := H1; clear H1
    by_cases c8 : (wrap64 ((wrap64 (ab + 1)) - 1)) < (aa.length : Int)
    ·rw [if_pos c8] at H; have ba : decide ((wrap64 ((wrap64 (ab + 1)) - 1)) < (aa.length : Int)) = true := decide_eq_true c8; clear c8; obtain ⟨av, aA⟩ : ∃ j_ : Int, (wrap64 ((wrap64 (ab + 1)) - 1)) = j_ := ⟨_, rfl⟩; replace H : (if 0 ≤ (av) then (if a1 = 0 then (none) else (some (Int.tmod (wrap64 (rd aa (av))) a1, (wrap64 (ab + 1))))) else (none)) = some (r1, r2) := by first | (rw [aA] at H; exact H) | (simp only [aA] at H ⊢; exact H)
     (try rw [aA] at ba); have b2 : (IntKind.i64.wrap ((wrap64 (ab + 1)) - 1)) = av := (i64_w _).trans aA
     by_cases c10 : 0 ≤ (av)
     ·rw [if_pos c10] at H; have b3 : decide (0 ≤ (av)) = true := decide_eq_true c10; clear c10
      by_cases aU : a1 = 0
      ·rw [if_pos aU] at H; exact absurd H (by simp)
      ·rw [if_neg aU] at H; have b4 : (a1 == 0) = false := beq_eq_false_iff_ne.mpr aU; have b5 : (a1 != 0) = true := bne_iff_ne.mpr aU; simp only [Option.some.injEq, Prod.mk.injEq] at H; obtain ⟨rfl, rfl⟩ := H; obtain ⟨bq, br, ax, bc, a6⟩ := au.out; have bu := cellS90_0 ax; have bv := cellS90_1 ax; have bw := blk_frozen ax 1; clear ax bc; have aN : 0 ≤ ((av) : Int) := of_decide_eq_true (G.asm); have aO : (av) < (aa.length : Int) := of_decide_eq_true (G.asm); obtain ⟨b6, bn, aB⟩ := Kd.at_int a6 (av) aN aO; cases bn; replace aB := pw_cell_below HB.out aB; replace aN := eq_true aN; replace aO := eq_true aO
       go_wp2
       repeat (go_quiet (fail); try go_wp2)
       go_ret
       exact ⟨by first | rfl | (simp [errW_none, errW_some] <;> rfl) | (simp only [← aA]; first | rfl | (simp [errW_none, errW_some] <;> rfl)) | (simp [*, errW_none, errW_some] <;> rfl), caaB, caaA HB.out, G.cK HK.out⟩
     ·rw [if_neg c10] at H; exact absurd H (by simp)
    ·rw [if_neg c8] at H; have ba : decide ((wrap64 ((wrap64 (ab + 1)) - 1)) < (aa.length : Int)) = false := decide_eq_false c8; clear c8
     by_cases aM : (aa.length : Int) = 0
     ·rw [if_pos aM] at H; exact absurd H (by simp)
     ·rw [if_neg aM] at H; have b7 : ((aa.length : Int) == 0) = false := beq_eq_false_iff_ne.mpr aM; have b8 : ((aa.length : Int) != 0) = true := bne_iff_ne.mpr aM; have b9 : ¬ (aa = []) := fun h_ => aM (by rw [h_]; rfl); obtain ⟨aj, aH⟩ : ∃ j_ : Int, (Int.tmod (wrap64 ((wrap64 (ab + 1)) - 1)) (aa.length : Int)) = j_ := ⟨_, rfl⟩; replace H : (if 0 ≤ (aj) then (if (aj) < (aa.length : Int) then (if 0 ≤ (Int.tmod (wrap64 ((wrap64 ((wrap64 ((wrap64 (ab + 1)) - 1)) * 7)) + 3)) (aa.length : Int)) then (if (Int.tmod (wrap64 ((wrap64 ((wrap64 ((wrap64 (ab + 1)) - 1)) * 7)) + 3)) (aa.length : Int)) < (aa.length : Int) then (if a1 = 0 then (none) else (some (Int.tmod (Go.bits .xor .i64 (wrap64 ((wrap64 ((wrap64 ((wrap64 ((wrap64 (rd aa (aj))) * 131)) + (wrap64 ((wrap64 (rd aa (Int.tmod (wrap64 ((wrap64 ((wrap64 ((wrap64 (ab + 1)) - 1)) * 7)) + 3)) (aa.length : Int)))) * 1117)))) + (wrap64 ((wrap64 ((wrap64 (ab + 1)) - 1)) * 29)))) + (wrap64 ((wrap64 (Int.tdiv (wrap64 ((wrap64 (ab + 1)) - 1)) (aa.length : Int))) * 53)))) (wrap64 (Int.tdiv (wrap64 ((wrap64 ((wrap64 ((wrap64 ((wrap64 (rd aa (aj))) * 131)) + (wrap64 ((wrap64 (rd aa (Int.tmod (wrap64 ((wrap64 ((wrap64 ((wrap64 (ab + 1)) - 1)) * 7)) + 3)) (aa.length : Int)))) * 1117)))) + (wrap64 ((wrap64 ((wrap64 (ab + 1)) - 1)) * 29)))) + (wrap64 ((wrap64 (Int.tdiv (wrap64 ((wrap64 (ab + 1)) - 1)) (aa.length : Int))) * 53)))) 64))) a1, (wrap64 (ab + 1))))) else (none)) else (none)) else (none)) else (none)) = some (r1, r2) := by first | (rw [aH] at H; exact H) | (simp only [aH] at H ⊢; exact H)
      by_cases aV : 0 ≤ (aj)
      ·rw [if_pos aV] at H; have b_ : decide (0 ≤ (aj)) = true := decide_eq_true aV; clear aV
       by_cases aW : (aj) < (aa.length : Int)
       ·rw [if_pos aW] at H; have ca : decide ((aj) < (aa.length : Int)) = true := decide_eq_true aW; clear aW; obtain ⟨ak, aI⟩ : ∃ j_ : Int, (Int.tmod (wrap64 ((wrap64 ((wrap64 ((wrap64 (ab + 1)) - 1)) * 7)) + 3)) (aa.length : Int)) = j_ := ⟨_, rfl⟩; replace H : (if 0 ≤ (ak) then (if (ak) < (aa.length : Int) then (if a1 = 0 then (none) else (some (Int.tmod (Go.bits .xor .i64 (wrap64 ((wrap64 ((wrap64 ((wrap64 ((wrap64 (rd aa (aj))) * 131)) + (wrap64 ((wrap64 (rd aa (ak))) * 1117)))) + (wrap64 ((wrap64 ((wrap64 (ab + 1)) - 1)) * 29)))) + (wrap64 ((wrap64 (Int.tdiv (wrap64 ((wrap64 (ab + 1)) - 1)) (aa.length : Int))) * 53)))) (wrap64 (Int.tdiv (wrap64 ((wrap64 ((wrap64 ((wrap64 ((wrap64 (rd aa (aj))) * 131)) + (wrap64 ((wrap64 (rd aa (ak))) * 1117)))) + (wrap64 ((wrap64 ((wrap64 (ab + 1)) - 1)) * 29)))) + (wrap64 ((wrap64 (Int.tdiv (wrap64 ((wrap64 (ab + 1)) - 1)) (aa.length : Int))) * 53)))) 64))) a1, (wrap64 (ab + 1))))) else (none)) else (none)) = some (r1, r2) := by first | (rw [aI] at H; exact H) | (simp only [aI] at H ⊢; exact H)
        by_cases aX : 0 ≤ (ak)
        ·rw [if_pos aX] at H; have cd : decide (0 ≤ (ak)) = true := decide_eq_true aX; clear aX
         by_cases aY : (ak) < (aa.length : Int)
         ·rw [if_pos aY] at H; have ce : decide ((ak) < (aa.length : Int)) = true := decide_eq_true aY; clear aY
          by_cases aZ : a1 = 0
          ·rw [if_pos aZ] at H; exact absurd H (by simp)
          ·rw [if_neg aZ] at H; have cf : (a1 == 0) = false := beq_eq_false_iff_ne.mpr aZ; have cg : (a1 != 0) = true := bne_iff_ne.mpr aZ; simp only [Option.some.injEq, Prod.mk.injEq] at H; obtain ⟨rfl, rfl⟩ := H; obtain ⟨bx, bz, ay, bd, aC⟩ := au.out; have bA := cellS90_0 ay; have bB := cellS90_1 ay; have bC := blk_frozen ay 1; clear ay bd; have aP : 0 ≤ ((aj) : Int) := of_decide_eq_true (G.asm); have aQ : (aj) < (aa.length : Int) := of_decide_eq_true (G.asm); obtain ⟨bf, bo, aD⟩ := Kd.at_int aC (aj) aP aQ; cases bo; replace aD := pw_cell_below HB.out aD; replace aP := eq_true aP; replace aQ := eq_true aQ; have aR : 0 ≤ ((ak) : Int) := of_decide_eq_true (G.asm); have aS : (ak) < (aa.length : Int) := of_decide_eq_true (G.asm); obtain ⟨bh, bp, aE⟩ := Kd.at_int aC (ak) aR aS; obtain rfl : bf = bh := (by injection bp); replace aE := pw_cell_below HB.out aE; replace aR := eq_true aR; replace aS := eq_true aS
           go_wp2
           repeat (go_quiet (fail); try go_wp2)
           go_ret
           exact ⟨by first | rfl | (simp [errW_none, errW_some] <;> rfl) | (simp only [← aH, ← aI]; first | rfl | (simp [errW_none, errW_some] <;> rfl)) | (simp [*, errW_none, errW_some] <;> rfl), caaB, caaA HB.out, G.cK HK.out⟩
         ·rw [if_neg aY] at H; exact absurd H (by simp)
        ·rw [if_neg aX] at H; exact absurd H (by simp)
       ·rw [if_neg aW] at H; exact absurd H (by simp)
      ·rw [if_neg aV] at H; exact absurd H (by simp)
def spec_NetHas.f (k : Nat) (ah : Int) (af : List (S51)) (a1 : Int) (a2 : Int) : Option (Bool) := (spec_NetOk.f k ah af).bind fun ao => (if ao = true then ((spec_l1Has.f k ah af a1 a2).bind fun al => (some al)) else (some false))
set_option maxHeartbeats 8000000 in
set_option maxRecDepth 100000 in
theorem spec_NetHas.calls (k : Nat) (ah : Int) (ap : Option Addr) (aq : Nat) (af : List (S51)) (a1 : Int) (a2 : Int) (r : Bool) (w : World) (a4 : Kd.C k51 w ap af.length af) (a5 : af.length ≤ aq) (h : spec_NetHas.f k ah af a1 a2 = some r) :
  Calls Tryd.prog 108 #[.agg #[.int .i64 ah, .slice ap af.length aq], .int .i64 a1, .int .i64 a2] w fun e w' => e = .returned (.bool r) ∧ Below w.heap.size w w' := by
 have ch := Tryd.underlying29; have aJ := G.m a4; have aK := G.m a5; clear a4 a5; have HB := G.m (Below.refl w.heap.size w); have H : ((spec_NetOk.f k ah af).bind fun ao => (if ao = true then ((spec_l1Has.f k ah af a1 a2).bind fun al => (some al)) else (some false))) = some r := h; clear h; obtain ⟨ao, A4, H⟩ := G.bi H; replace H : (if ao = true then ((spec_l1Has.f k ah af a1 a2).bind fun al => (some al)) else (some false)) = some r := H
 by_cases c5 : ao = true
 ·subst c5; have H1 : ((spec_l1Has.f k ah af a1 a2).bind fun al => (some al)) = some r := by rw [if_pos rfl] at H; exact H
  clear H; have H := H1; clear H1; obtain ⟨al, A6, H⟩ := G.bi H; replace H : (some al) = some r := H; obtain rfl := Option.some.inj H
  go_enter Tryd.func108, Tryd.ntmps108
  go_wp2_with (first | ((with_reducible refine G.h 3 rfl ?_); refine G.be 3 #[.int .i64 ah, .slice ap af.length aq] 29 ?_; intro am hg w7 hbox hb; have n0 := G.bs HB hb; have n1 := G.m (hbox); have n2 := G.m ((by rw [hg]; exact (below_size (G.cB HB.out)) : w.heap.size ≤ am)); have n3 := G.m ((by rw [hg]; exact (below_size (G.cB HB.out)) : w.heap.size ≤ am)); clear HB; revert n0 n1 n2 n3; intro HB ag bj bk; clear hb hbox hg; have ⟨bW, bX, bY, bZ⟩ := G.d2 (w := w7) ag) | ((with_reducible refine G.f 38 rfl ?_); refine G.gL 8 Tryd.func38 #[.agg #[.int .i64 ah, .slice ap af.length aq]] ?_; (with_reducible refine (spec_NetOk.calls k ah _ _ af true _ ?side1 ?side2 A4.out).mono ?_); (case side1 => exact G.cC (Kd.C_below aJ.out HB.out)); (case side2 => exact aK.out); rintro e w9 ⟨rfl, hb⟩; refine ⟨_, rfl, ?_⟩; have n0 := G.bb ag hb; have n1 := G.bs HB hb; clear ag HB; revert n0 n1; intro ag HB; (try clear hb); have ⟨bD, bE, bF, bG⟩ := G.d2 (w := w9) ag) | (go_at_call 63; (with_reducible refine (spec_l1Has.calls k ah _ _ af a1 a2 al _ ?side1 ?side2 A6.out).mono ?_); (case side1 => exact G.cC (Kd.C_below aJ.out HB.out)); (case side2 => exact aK.out); rintro e cl ⟨rfl, hb⟩; have n0 := G.bb ag hb; have n1 := G.bs HB hb; clear ag HB; revert n0 n1; intro ag HB; (try clear hb)))
  go_ret
  exact ⟨caaC, G.cB HB.out⟩
 ·replace c5 := Bool.eq_false_iff.mpr c5; subst c5; have H1 : (some false) = some r := by rw [if_neg (show ¬ (false = true) by decide)] at H; exact H
  clear H; have H := H1; clear H1; obtain rfl := Option.some.inj H
  go_enter Tryd.func108, Tryd.ntmps108
  go_wp2_with (first | ((with_reducible refine G.h 3 rfl ?_); refine G.be 3 #[.int .i64 ah, .slice ap af.length aq] 29 ?_; intro am hg b1 hbox hb; have n0 := G.bs HB hb; have n1 := G.m (hbox); have n2 := G.m ((by rw [hg]; exact (below_size (G.cB HB.out)) : w.heap.size ≤ am)); have n3 := G.m ((by rw [hg]; exact (below_size (G.cB HB.out)) : w.heap.size ≤ am)); clear HB; revert n0 n1 n2 n3; intro HB ag bj bk; clear hb hbox hg; have ⟨bH, bI, bJ, bK⟩ := G.d2 (w := b1) ag) | ((with_reducible refine G.f 38 rfl ?_); refine G.gL 8 Tryd.func38 #[.agg #[.int .i64 ah, .slice ap af.length aq]] ?_; (with_reducible refine (spec_NetOk.calls k ah _ _ af false _ ?side1 ?side2 A4.out).mono ?_); (case side1 => exact G.cC (Kd.C_below aJ.out HB.out)); (case side2 => exact aK.out); rintro e cm ⟨rfl, hb⟩; refine ⟨_, rfl, ?_⟩; have n0 := G.bb ag hb; have n1 := G.bs HB hb; clear ag HB; revert n0 n1; intro ag HB; (try clear hb)))
  go_ret
  exact ⟨caaC, G.cB HB.out⟩
theorem caaJ {p : Prop} (h : p := by (with_reducible repeat (first | refine blk_drewN ?_ _ | refine blk_drew ?_ | refine blk_alloc ?_ _)); refine blk_put (cs := #[.int .i64 ah, aC]) ?_ 1 _ rfl; (with_reducible repeat (first | refine blk_drewN ?_ _ | refine blk_drew ?_ | refine blk_alloc ?_ _)); exact af.out) : p := h
theorem caaG {p : Prop} (h : p := by (with_reducible repeat (first | refine blk_drewN ?_ _ | refine blk_drew ?_ | refine blk_alloc ?_ _)); refine blk_far ?_ av.out _; (with_reducible repeat (first | refine blk_drewN ?_ _ | refine blk_drew ?_ | refine blk_alloc ?_ _)); exact aa.out) : p := h
theorem caaH {p : Prop} (h : p := by (with_reducible repeat (first | refine blk_drewN ?_ _ | refine blk_drew ?_ | refine blk_alloc ?_ _)); refine blk_far ?_ aw.out _; (with_reducible repeat (first | refine blk_drewN ?_ _ | refine blk_drew ?_ | refine blk_alloc ?_ _)); exact ae.out) : p := h
theorem caaI {p : Prop} (h : p := by (with_reducible repeat (first | refine blk_drewN ?_ _ | refine blk_drew ?_ | refine blk_alloc ?_ _)); refine blk_far ?_ aG.out _; (with_reducible repeat (first | refine blk_drewN ?_ _ | refine blk_drew ?_ | refine blk_alloc ?_ _)); exact ai.out) : p := h
theorem caaK {p : Prop} (h : p := by rw [hg]; exact Nat.ne_of_lt (blk_lt (g := aq) (o := .cells #[.int .i64 ah, .slice aZ ab.length aI] 29 (0, 0)) (G.cb aa.out))) : p := h
theorem caaL {p : Prop} (h : p := by rw [hg]; exact Nat.ne_of_gt (blk_lt (g := aq) (o := .cells #[.int .i64 ah, .slice aZ ab.length aI] 29 (0, 0)) (G.cb aa.out))) : p := h
theorem caaD {p : Prop} (h : p := by first | rfl | (simp; done) | (simp [*]; done)) : p := h
theorem caaF {p : Prop} (h : p := by rw [hg]; exact (below_size (G.cB HB.out))) : p := h
theorem caaE {p : Prop} (h : p := by kernel_rfl) : p := h
mutual
def spec_NetAdd.j0 : Nat → Int → Int → Bool → Int → List (S51) → Option (Int × (List (S51)) × Bool)
 | 0, _, _, _, _, _ => none
 | k + 1, x1, x2, fw, a4, az => if fw = true then (some (0, ([] : List (S51)), false)) else ((spec_l1Tie.f x1 x2).bind fun bx => (spec_NetAdd.l0 k false 0 a4 az a4 ([] : List (S51)) bx.1 bx.2))
def spec_NetAdd.l0 : Nat → Bool → Int → Int → List (S51) → Int → List (S51) → Int → Int → Option (Int × (List (S51)) × Bool)
 | 0, _, _, _, _, _, _, _, _ => none
 | k + 1, cd, a7, a4, az, ba, aM, a5, a6 => if a7 < (az.length : Int) then (if cd = true then (if 0 ≤ a7 then (if aM.length < 8796093022208 then (spec_NetAdd.l0 k cd (wrap64 (a7 + 1)) a4 az ba (aM ++ [(⟨(rd_T51 az a7).f0, (rd_T51 az a7).f1⟩ : S51)]) a5 a6) else (none)) else (none)) else (if 0 ≤ a7 then ((spec_l1Less.f a5 a6 ((rd_T51 az a7).f0) ((rd_T51 az a7).f1)).bind fun bG => (if bG = true then (if aM.length < 8796093022208 then ((some (aM ++ [(⟨a5, a6⟩ : S51)] : List (S51))).bind fun ap => (if ap.length < 8796093022208 then (spec_NetAdd.l0 k true (wrap64 (a7 + 1)) a4 az ba (ap ++ [(⟨(rd_T51 az a7).f0, (rd_T51 az a7).f1⟩ : S51)]) a5 a6) else (none))) else (none)) else (if aM.length < 8796093022208 then (spec_NetAdd.l0 k cd (wrap64 (a7 + 1)) a4 az ba (aM ++ [(⟨(rd_T51 az a7).f0, (rd_T51 az a7).f1⟩ : S51)]) a5 a6) else (none)))) else (none))) else (if cd = true then (some (ba, aM, true)) else (if aM.length < 8796093022208 then (some (ba, (aM ++ [(⟨a5, a6⟩ : S51)]), true)) else (none)))
end
def spec_NetAdd.f (k : Nat) (ah : Int) (ab : List (S51)) (a1 : Int) (a2 : Int) : Option (Int × (List (S51)) × Bool) := (spec_l1Knot.f k ah ab a1).bind fun bH => (if bH = true then ((spec_l1Knot.f k ah ab a2).bind fun a_ => (if a_ = true then (if a1 = a2 then (spec_NetAdd.j0 k a1 a2 true ah ab) else ((spec_NetHas.f k ah ab a1 a2).bind fun aT => (spec_NetAdd.j0 k a1 a2 aT ah ab))) else (spec_NetAdd.j0 k a1 a2 true ah ab))) else (spec_NetAdd.j0 k a1 a2 true ah ab))
def spec_NetAdd.T9 : Bool × List (List Nat × List Nat) := (true, [([], []), ([0], [0]), ([1], [1]), ([2], [2]), ([2], [2]), ([4, 2], [2, 4]), ([2], [2]), ([5, 6, 2], [2, 5, 6]), ([7, 2], [2, 7]), ([3, 8, 2, 2], [2, 3, 8]), ([2, 9], [2, 9])])
def spec_NetAdd.B9 : List Nat := [0, 1, 3, 7, 7, 23, 7, 119, 247, 511, 1023]
theorem spec_NetAdd.tab9 : rtab .any (opsOf Tryd.f94 9) = spec_NetAdd.T9 := by kernel_rfl
theorem spec_NetAdd.bits9 : waitsOk spec_NetAdd.T9.2 spec_NetAdd.B9 = true := by kernel_rfl
def spec_NetAdd.T12 : Bool × List (List Nat × List Nat) := (true, [([], []), ([0], [0]), ([], []), ([2], [2]), ([], []), ([3, 4], [3, 4]), ([5], [5]), ([6], [6]), ([1, 7], [1, 7]), ([0, 1, 2, 3, 4, 5, 6, 7, 8], []), ([9, 8, 8, 0, 1, 2, 3, 4, 5, 6, 7, 8], [8, 9])])
def spec_NetAdd.B12 : List Nat := [0, 1, 0, 4, 0, 28, 60, 124, 255, 511, 1023]
theorem spec_NetAdd.tab12 : rtab .any (opsOf Tryd.f94 12) = spec_NetAdd.T12 := by kernel_rfl
theorem spec_NetAdd.bits12 : waitsOk spec_NetAdd.T12.2 spec_NetAdd.B12 = true := by kernel_rfl
set_option maxHeartbeats 8000000 in
set_option maxRecDepth 100000 in
theorem spec_NetAdd.calls (k : Nat) (ah : Int) (aZ : Option Addr) (aI : Nat) (ab : List (S51)) (a1 : Int) (a2 : Int) (r1 : Int) (r2 : List (S51)) (r3 : Bool) (w : World) (ce : Kd.C k51 w aZ ab.length ab) (cf : ab.length ≤ aI) (h : spec_NetAdd.f k ah ab a1 a2 = some (r1, r2, r3)) :
  Calls Tryd.prog 94 #[.agg #[.int .i64 ah, .slice aZ ab.length aI], .int .i64 a1, .int .i64 a2] w fun e w' => ∃ dq : Value, e = .returned (.tuple #[.agg #[.int .i64 r1, dq], .bool r3]) ∧ Kd.R k51 51 w' w.heap.size (fun _ => True) dq r2 ∧ Below w.heap.size w w' := by
 have ic := Tryd.underlying29; have ie := Tryd.underlying51; have aN := G.m ce; have a8 := G.m cf; clear ce cf; have HB := G.m (Below.refl w.heap.size w); have H : ((spec_l1Knot.f k ah ab a1).bind fun bH => (if bH = true then ((spec_l1Knot.f k ah ab a2).bind fun a_ => (if a_ = true then (if a1 = a2 then (spec_NetAdd.j0 k a1 a2 true ah ab) else ((spec_NetHas.f k ah ab a1 a2).bind fun aT => (spec_NetAdd.j0 k a1 a2 aT ah ab))) else (spec_NetAdd.j0 k a1 a2 true ah ab))) else (spec_NetAdd.j0 k a1 a2 true ah ab))) = some (r1, r2, r3) := h; clear h; have cM := G.m H; clear H
 go_enter Tryd.func94, Tryd.ntmps94
 go_upto_region 1 with (first | ((with_reducible refine G.h 3 rfl ?_); refine G.be 3 #[.int .i64 ah, .slice aZ ab.length aI] 29 ?_; intro aq hg w5 hbox hb; have n0 := G.bs HB hb; have n1 := G.m (hbox); have n2 := G.m (caaF : w.heap.size ≤ aq); have n3 := G.m (caaF : w.heap.size ≤ aq); clear HB; revert n0 n1 n2 n3; intro HB aa ge gf; clear hb hbox hg) | ((with_reducible refine G.h 6 rfl ?_); refine G.be 6 #[.int .i64 0, .slice none 0 0] 29 ?_; intro au hg w6 hbox hb; have n0 := G.bb aa hb; have n1 := G.bs HB hb; have n2 := G.m (hbox); have n3 := G.m (caaF : w.heap.size ≤ au); have n4 := G.m (caaF : w.heap.size ≤ au); have n5 := G.m (caaK : aq ≠ au); have n6 := G.m (caaL : au ≠ aq); clear aa HB; revert n0 n1 n2 n3 n4 n5 n6; intro aa HB ae gg gh ax ay; clear hb hbox hg))
 (try simp only [Act.put, List.setIfInBounds_toArray, List.set_cons_zero, List.set_cons_succ])
 go_cut [32] (fun fx wc => ∃ (kq : Nat) (bL : Bool), fx = .bool bL ∧ Aside0 (spec_NetAdd.j0 kq a1 a2 bL ah ab = some (r1, r2, r3)) ∧ Aside0 (kq ≤ k) ∧ Aside0 (wc.heap[aq]? = some (.cells #[.int .i64 ah, (.slice aZ ab.length aI)] 29 (0, 0))) ∧ Aside0 (wc.heap[au]? = some (.cells #[.int .i64 0, (.slice none 0 0)] 29 (0, 0))) ∧ Aside0 (Below w.heap.size w wc))
 case first =>
  have H := cM.out; clear cM; obtain ⟨bH, A7, H⟩ := G.bi H; replace H : (if bH = true then ((spec_l1Knot.f k ah ab a2).bind fun a_ => (if a_ = true then (if a1 = a2 then (spec_NetAdd.j0 k a1 a2 true ah ab) else ((spec_NetHas.f k ah ab a1 a2).bind fun aT => (spec_NetAdd.j0 k a1 a2 aT ah ab))) else (spec_NetAdd.j0 k a1 a2 true ah ab))) else (spec_NetAdd.j0 k a1 a2 true ah ab)) = some (r1, r2, r3) := H
  by_cases c8 : bH = true
  ·subst c8; have H1 : ((spec_l1Knot.f k ah ab a2).bind fun a_ => (if a_ = true then (if a1 = a2 then (spec_NetAdd.j0 k a1 a2 true ah ab) else ((spec_NetHas.f k ah ab a1 a2).bind fun aT => (spec_NetAdd.j0 k a1 a2 aT ah ab))) else (spec_NetAdd.j0 k a1 a2 true ah ab))) = some (r1, r2, r3) := by rw [if_pos rfl] at H; exact H
   clear H; have H := H1; clear H1; obtain ⟨a_, A9, H⟩ := G.bi H; replace H : (if a_ = true then (if a1 = a2 then (spec_NetAdd.j0 k a1 a2 true ah ab) else ((spec_NetHas.f k ah ab a1 a2).bind fun aT => (spec_NetAdd.j0 k a1 a2 aT ah ab))) else (spec_NetAdd.j0 k a1 a2 true ah ab)) = some (r1, r2, r3) := H
   by_cases c10 : a_ = true
   ·subst c10; have H1 : (if a1 = a2 then (spec_NetAdd.j0 k a1 a2 true ah ab) else ((spec_NetHas.f k ah ab a1 a2).bind fun aT => (spec_NetAdd.j0 k a1 a2 aT ah ab))) = some (r1, r2, r3) := by rw [if_pos rfl] at H; exact H
    clear H; have H := H1; clear H1
    by_cases bN : a1 = a2
    ·rw [if_pos bN] at H; have bz : (a1 == a2) = true := beq_iff_eq.mpr bN; have c_ : (a1 != a2) = false := bne_eq_false_iff_eq.mpr bN; clear bN; (first | rw [bz] | (simp only [i64_w, i32_w]; rw [bz]) | skip); have H' := G.m H; clear H; have gi := ax.out; have gj := ay.out; have ⟨ea, eb, ec, ed⟩ := G.d2 (w := w6) aa
     go_wp2_with (first | ((with_reducible refine G.f 93 rfl ?_); refine G.gL 14 Tryd.func93 #[.agg #[.int .i64 ah, .slice aZ ab.length aI], .int .i64 a1] ?_; (with_reducible refine (spec_l1Knot.calls k ah _ _ ab a1 true _ ?side1 ?side2 A7.out).mono ?_); (case side1 => exact G.cC (Kd.C_below aN.out HB.out)); (case side2 => exact a8.out); rintro e fy ⟨rfl, hb⟩; refine ⟨_, rfl, ?_⟩; have n0 := G.bb aa hb; have n1 := G.bb ae hb; have n2 := G.bs HB hb; clear aa ae HB; revert n0 n1 n2; intro aa ae HB; (try clear hb); have ⟨ee, ef, eg, eh⟩ := G.d2 (w := fy) aa) | (go_at_call 93; (with_reducible refine (spec_l1Knot.calls k ah _ _ ab a2 true _ ?side1 ?side2 A9.out).mono ?_); (case side1 => exact G.cC (Kd.C_below aN.out HB.out)); (case side2 => exact a8.out); rintro e iq ⟨rfl, hb⟩; have n0 := G.bb aa hb; have n1 := G.bb ae hb; have n2 := G.bs HB hb; clear aa ae HB; revert n0 n1 n2; intro aa ae HB; (try clear hb)))
     go_meet
     case rel => exact ⟨_, (true), (caaD), H', ⟨by first | omega | exact Nat.le_refl _⟩, ⟨G.cb aa.out⟩, ⟨G.cb ae.out⟩, ⟨G.cB HB.out⟩⟩
    ·rw [if_neg bN] at H; have bz : (a1 == a2) = false := beq_eq_false_iff_ne.mpr bN; have c_ : (a1 != a2) = true := bne_iff_ne.mpr bN; (first | rw [bz] | (simp only [i64_w, i32_w]; rw [bz]) | skip); obtain ⟨aT, fz, H⟩ := G.bi H; replace H : (spec_NetAdd.j0 k a1 a2 aT ah ab) = some (r1, r2, r3) := H; have H' := G.m H; clear H; have gl := ax.out; have gm := ay.out; have ⟨ei, ej, ek, el⟩ := G.d2 (w := w6) aa
     go_wp2_with (first | ((with_reducible refine G.f 93 rfl ?_); refine G.gL 14 Tryd.func93 #[.agg #[.int .i64 ah, .slice aZ ab.length aI], .int .i64 a1] ?_; (with_reducible refine (spec_l1Knot.calls k ah _ _ ab a1 true _ ?side1 ?side2 A7.out).mono ?_); (case side1 => exact G.cC (Kd.C_below aN.out HB.out)); (case side2 => exact a8.out); rintro e fA ⟨rfl, hb⟩; refine ⟨_, rfl, ?_⟩; have n0 := G.bb aa hb; have n1 := G.bb ae hb; have n2 := G.bs HB hb; clear aa ae HB; revert n0 n1 n2; intro aa ae HB; (try clear hb); have ⟨em, en, eo, ep⟩ := G.d2 (w := fA) aa) | (go_at_call 93; (with_reducible refine (spec_l1Knot.calls k ah _ _ ab a2 true _ ?side1 ?side2 A9.out).mono ?_); (case side1 => exact G.cC (Kd.C_below aN.out HB.out)); (case side2 => exact a8.out); rintro e fB ⟨rfl, hb⟩; have n0 := G.bb aa hb; have n1 := G.bb ae hb; have n2 := G.bs HB hb; clear aa ae HB; revert n0 n1 n2; intro aa ae HB; (try clear hb); have ⟨eq, er, es, et⟩ := G.d2 (w := fB) aa) | (go_at_call 108; (with_reducible refine (spec_NetHas.calls k ah _ _ ab a1 a2 aT _ ?side1 ?side2 fz.out).mono ?_); (case side1 => exact G.cC (Kd.C_below aN.out HB.out)); (case side2 => exact a8.out); rintro e ir ⟨rfl, hb⟩; have n0 := G.bb aa hb; have n1 := G.bb ae hb; have n2 := G.bs HB hb; clear aa ae HB; revert n0 n1 n2; intro aa ae HB; (try clear hb)))
     go_meet
     case rel => exact ⟨_, (aT), (caaD), H', ⟨by first | omega | exact Nat.le_refl _⟩, ⟨G.cb aa.out⟩, ⟨G.cb ae.out⟩, ⟨G.cB HB.out⟩⟩
   ·replace c10 := Bool.eq_false_iff.mpr c10; subst c10; have H1 : (spec_NetAdd.j0 k a1 a2 true ah ab) = some (r1, r2, r3) := by rw [if_neg (show ¬ (false = true) by decide)] at H; exact H
    clear H; have H := H1; clear H1; have H' := G.m H; clear H; have gn := ax.out; have gp := ay.out; have ⟨eu, ev, ew, ex⟩ := G.d2 (w := w6) aa
    go_wp2_with (first | ((with_reducible refine G.f 93 rfl ?_); refine G.gL 14 Tryd.func93 #[.agg #[.int .i64 ah, .slice aZ ab.length aI], .int .i64 a1] ?_; (with_reducible refine (spec_l1Knot.calls k ah _ _ ab a1 true _ ?side1 ?side2 A7.out).mono ?_); (case side1 => exact G.cC (Kd.C_below aN.out HB.out)); (case side2 => exact a8.out); rintro e fC ⟨rfl, hb⟩; refine ⟨_, rfl, ?_⟩; have n0 := G.bb aa hb; have n1 := G.bb ae hb; have n2 := G.bs HB hb; clear aa ae HB; revert n0 n1 n2; intro aa ae HB; (try clear hb); have ⟨ey, ez, eA, eB⟩ := G.d2 (w := fC) aa) | (go_at_call 93; (with_reducible refine (spec_l1Knot.calls k ah _ _ ab a2 false _ ?side1 ?side2 A9.out).mono ?_); (case side1 => exact G.cC (Kd.C_below aN.out HB.out)); (case side2 => exact a8.out); rintro e iu ⟨rfl, hb⟩; have n0 := G.bb aa hb; have n1 := G.bb ae hb; have n2 := G.bs HB hb; clear aa ae HB; revert n0 n1 n2; intro aa ae HB; (try clear hb)))
    go_meet
    case rel => exact ⟨_, (true), (caaD), H', ⟨by first | omega | exact Nat.le_refl _⟩, ⟨G.cb aa.out⟩, ⟨G.cb ae.out⟩, ⟨G.cB HB.out⟩⟩
  ·replace c8 := Bool.eq_false_iff.mpr c8; subst c8; have H1 : (spec_NetAdd.j0 k a1 a2 true ah ab) = some (r1, r2, r3) := by rw [if_neg (show ¬ (false = true) by decide)] at H; exact H
   clear H; have H := H1; clear H1; have H' := G.m H; clear H; have gq := ax.out; have gr := ay.out; have ⟨eC, eD, eE, eF⟩ := G.d2 (w := w6) aa
   go_wp2_with (first | ((with_reducible refine G.f 93 rfl ?_); refine G.gL 14 Tryd.func93 #[.agg #[.int .i64 ah, .slice aZ ab.length aI], .int .i64 a1] ?_; (with_reducible refine (spec_l1Knot.calls k ah _ _ ab a1 false _ ?side1 ?side2 A7.out).mono ?_); (case side1 => exact G.cC (Kd.C_below aN.out HB.out)); (case side2 => exact a8.out); rintro e iv ⟨rfl, hb⟩; refine ⟨_, rfl, ?_⟩; have n0 := G.bb aa hb; have n1 := G.bb ae hb; have n2 := G.bs HB hb; clear aa ae HB; revert n0 n1 n2; intro aa ae HB; (try clear hb)))
   go_meet
   case rel => exact ⟨_, (true), (caaD), H', ⟨by first | omega | exact Nat.le_refl _⟩, ⟨G.cb aa.out⟩, ⟨G.cb ae.out⟩, ⟨G.cB HB.out⟩⟩
 case rest =>
  clear cM; obtain ⟨kq, bL, rfl, HA, bO, aa, ae, HB⟩ := hcut; cases kq with
  | zero => exact absurd HA.out (by simp [spec_NetAdd.j0])
  | succ cg =>
   have H := HA.out; clear HA; simp only [spec_NetAdd.j0] at H
   by_cases b1 : bL = true
   ·subst b1; have H1 : (some (0, ([] : List (S51)), false)) = some (r1, r2, r3) := by rw [if_pos rfl] at H; exact H
    clear H; have H := H1; clear H1; simp only [Option.some.injEq, Prod.mk.injEq] at H; obtain ⟨rfl, rfl, rfl⟩ := H; have gt := ay.out; have gu := ax.out; have ⟨eG, eH, eI, eJ⟩ := G.d2 (w := wc) ae
    go_wp2; refine bodyPost_ret (results_ct rfl _ _ au 29 #[.int .i64 0, .slice none 0 0] (0, 0) _ rfl (by (with_reducible repeat (first | refine blk_drewN ?_ _ | refine blk_drew ?_ | refine blk_alloc ?_ _)); refine blk_put (cs := #[.int .i64 0, .slice none 0 0]) ?_ 1 _ rfl; (with_reducible repeat (first | refine blk_drewN ?_ _ | refine blk_drew ?_ | refine blk_alloc ?_ _)); refine blk_put (cs := #[.int .i64 0, .slice none 0 0]) ?_ 0 _ rfl; (with_reducible repeat (first | refine blk_drewN ?_ _ | refine blk_drew ?_ | refine blk_alloc ?_ _)); exact ae.out) Tryd.underlying29 rfl (caaE)) rfl ?_; exact ⟨_, by first | rfl | (simp [errW_none, errW_some] <;> rfl) | (simp [*, errW_none, errW_some] <;> rfl), by first | exact Kd.R_nil _ _ _ _ _ | exact Kd.N_nil _ _ _ _ _ | exact Kd.V_nil _ _ _ _ _ | exact Kd.Q_nil _ _ _ _ _ | exact Kd.S_nil _ _ _ _ _, G.cB HB.out⟩
   ·replace b1 := Bool.eq_false_iff.mpr b1; subst b1; have H1 : ((spec_l1Tie.f a1 a2).bind fun bx => (spec_NetAdd.l0 cg false 0 ah ab ah ([] : List (S51)) bx.1 bx.2)) = some (r1, r2, r3) := by rw [if_neg (show ¬ (false = true) by decide)] at H; exact H
    clear H; have H := H1; clear H1; obtain ⟨⟨al, am⟩, fD, H⟩ := G.bi H; replace H : (spec_NetAdd.l0 cg false 0 ah ab ah ([] : List (S51)) al am) = some (r1, r2, r3) := H; have H' := G.m H; clear H; have gv := ax.out; have gw := ay.out; have ⟨cx, cy, cz, cA⟩ := G.d2 (w := wc) aa
    go_wp2_with (first | ((with_reducible refine G.h 8 rfl ?_); refine G.be 8 #[.int .i64 0, .slice none 0 0] 29 ?_; intro ak hg fE hbox hb; have n0 := G.bb aa hb; have n1 := G.bb ae hb; have n2 := G.bs HB hb; have n3 := G.m (hbox); have n4 := G.m (caaF : w.heap.size ≤ ak); have n5 := G.m (caaF : w.heap.size ≤ ak); have n6 := G.m (caaK : aq ≠ ak); have n7 := G.m (caaL : ak ≠ aq); have n8 := G.m ((by rw [hg]; exact Nat.ne_of_lt (blk_lt (g := au) (o := .cells #[.int .i64 0, .slice none 0 0] 29 (0, 0)) (G.cb ae.out)) : au ≠ ak)); have n9 := G.m ((by rw [hg]; exact Nat.ne_of_gt (blk_lt (g := au) (o := .cells #[.int .i64 0, .slice none 0 0] 29 (0, 0)) (G.cb ae.out)) : ak ≠ au)); clear aa ae HB; revert n0 n1 n2 n3 n4 n5 n6 n7 n8 n9; intro aa ae HB af gx gy av aD aw aK; clear hb hbox hg; have gz := aD.out; have gA := av.out; have gB := aK.out; have gC := aw.out; have ⟨cD, cE, cF, cG⟩ := G.d2 (w := fE) af) | ((with_reducible refine G.f 84 rfl ?_); refine G.gL 39 Tryd.func84 #[.int .i64 a1, .int .i64 a2] ?_; (with_reducible refine (spec_l1Tie.calls a1 a2 al am _ fD.out).mono ?_); rintro e iw ⟨rfl, hb⟩; refine ⟨_, rfl, ?_⟩; have n0 := G.m (blk_below (g := aq) (o := .cells #[.int .i64 ah, .slice aZ ab.length aI] 29 (0, 0)) (by (with_reducible repeat (first | refine blk_drewN ?_ _ | refine blk_drew ?_ | refine blk_alloc ?_ _)); refine blk_far ?_ av.out _; (with_reducible repeat (first | refine blk_drewN ?_ _ | refine blk_drew ?_ | refine blk_alloc ?_ _)); refine blk_far ?_ av.out _; (with_reducible repeat (first | refine blk_drewN ?_ _ | refine blk_drew ?_ | refine blk_alloc ?_ _)); exact aa.out) hb); have n1 := G.m (blk_below (g := au) (o := .cells #[.int .i64 0, .slice none 0 0] 29 (0, 0)) (by (with_reducible repeat (first | refine blk_drewN ?_ _ | refine blk_drew ?_ | refine blk_alloc ?_ _)); refine blk_far ?_ aw.out _; (with_reducible repeat (first | refine blk_drewN ?_ _ | refine blk_drew ?_ | refine blk_alloc ?_ _)); refine blk_far ?_ aw.out _; (with_reducible repeat (first | refine blk_drewN ?_ _ | refine blk_drew ?_ | refine blk_alloc ?_ _)); exact ae.out) hb); have n2 := G.m (blk_below (g := ak) (o := .cells #[.int .i64 ah, .slice none 0 0] 29 (0, 0)) (by (with_reducible repeat (first | refine blk_drewN ?_ _ | refine blk_drew ?_ | refine blk_alloc ?_ _)); refine blk_put (cs := #[.int .i64 ah, .slice none 0 0]) ?_ 1 _ rfl; (with_reducible repeat (first | refine blk_drewN ?_ _ | refine blk_drew ?_ | refine blk_alloc ?_ _)); refine blk_put (cs := #[.int .i64 0, .slice none 0 0]) ?_ 0 _ rfl; (with_reducible repeat (first | refine blk_drewN ?_ _ | refine blk_drew ?_ | refine blk_alloc ?_ _)); exact af.out) hb); have n3 := G.bs HB hb; clear aa ae af HB; revert n0 n1 n2 n3; intro aa ae af HB; (try clear hb)) | ((with_reducible refine G.h 9 rfl ?_); refine G.be 9 #[.int .i64 0, .int .i64 0] 51 ?_; intro ao hg fF hbox hb; have n0 := G.bb aa hb; have n1 := G.bb ae hb; have n2 := G.bb af hb; have n3 := G.bs HB hb; have n4 := G.m (hbox); have n5 := G.m (caaF : w.heap.size ≤ ao); have n6 := G.m (caaF : w.heap.size ≤ ao); have n7 := G.m (caaK : aq ≠ ao); have n8 := G.m (caaL : ao ≠ aq); have n9 := G.m ((by rw [hg]; exact Nat.ne_of_lt (blk_lt (g := au) (o := .cells #[.int .i64 0, .slice none 0 0] 29 (0, 0)) (G.cb ae.out)) : au ≠ ao)); have fG := G.m ((by rw [hg]; exact Nat.ne_of_gt (blk_lt (g := au) (o := .cells #[.int .i64 0, .slice none 0 0] 29 (0, 0)) (G.cb ae.out)) : ao ≠ au)); have fH := G.m ((by rw [hg]; exact Nat.ne_of_lt (blk_lt (g := ak) (o := .cells #[.int .i64 ah, .slice none 0 0] 29 (0, 0)) (G.cb af.out)) : ak ≠ ao)); have fI := G.m ((by rw [hg]; exact Nat.ne_of_gt (blk_lt (g := ak) (o := .cells #[.int .i64 ah, .slice none 0 0] 29 (0, 0)) (G.cb af.out)) : ao ≠ ak)); clear aa ae af HB; revert n0 n1 n2 n3 n4 n5 n6 n7 n8 n9 fG fH fI; intro aa ae af HB ai gD gE aH aU aV a9 aE aG; clear hb hbox hg; have gF := aU.out; have gG := aH.out; have gH := a9.out; have gI := aV.out; have gJ := aG.out; have gK := aE.out; have ⟨cH, cI, cJ, cL⟩ := G.d2 (w := fF) ai))
    go_loopg [10, 11] cg (fun kq fJ fK w' => ∃ (bA : Bool) (ac : Int) (aj : List (S51)) (aC : Value), fJ = .bool bA ∧ fK = .int .i64 ac ∧ Aside0 (spec_NetAdd.l0 kq bA ac ah ab ah aj al am = some (r1, r2, r3)) ∧ Aside0 (kq ≤ cg) ∧ Aside0 (Kd.R k51 51 w' w.heap.size (fun k_ => k_ ≠ ao) aC aj) ∧ Aside0 (w'.heap[aq]? = some (.cells #[.int .i64 ah, (.slice aZ ab.length aI)] 29 (0, 0))) ∧ Aside0 (w'.heap[au]? = some (.cells #[.int .i64 0, (.slice none 0 0)] 29 (0, 0))) ∧ Aside0 (w'.heap[ak]? = some (.cells #[.int .i64 ah, aC] 29 (0, 0))) ∧ Aside0 (w'.heap[ao]? = some (.cells #[.int .i64 al, .int .i64 am] 51 (0, 0))) ∧ Aside0 (Below w.heap.size w w'))
    case atStart => exact ⟨(false), (0), (([] : List (S51))), (.slice none 0 0), (caaD), (caaD), H', ⟨Nat.le_refl _⟩, ⟨by first | exact Kd.R_nil _ _ _ _ _ | exact Kd.N_nil _ _ _ _ _ | exact Kd.V_nil _ _ _ _ _ | exact Kd.Q_nil _ _ _ _ _ | exact Kd.S_nil _ _ _ _ _⟩, ⟨by (with_reducible repeat (first | refine blk_drewN ?_ _ | refine blk_drew ?_ | refine blk_alloc ?_ _)); refine blk_far ?_ aH.out _; (with_reducible repeat (first | refine blk_drewN ?_ _ | refine blk_drew ?_ | refine blk_alloc ?_ _)); refine blk_far ?_ aH.out _; (with_reducible repeat (first | refine blk_drewN ?_ _ | refine blk_drew ?_ | refine blk_alloc ?_ _)); exact aa.out⟩, ⟨by (with_reducible repeat (first | refine blk_drewN ?_ _ | refine blk_drew ?_ | refine blk_alloc ?_ _)); refine blk_far ?_ aV.out _; (with_reducible repeat (first | refine blk_drewN ?_ _ | refine blk_drew ?_ | refine blk_alloc ?_ _)); refine blk_far ?_ aV.out _; (with_reducible repeat (first | refine blk_drewN ?_ _ | refine blk_drew ?_ | refine blk_alloc ?_ _)); exact ae.out⟩, ⟨by (with_reducible repeat (first | refine blk_drewN ?_ _ | refine blk_drew ?_ | refine blk_alloc ?_ _)); refine blk_far ?_ aE.out _; (with_reducible repeat (first | refine blk_drewN ?_ _ | refine blk_drew ?_ | refine blk_alloc ?_ _)); refine blk_far ?_ aE.out _; (with_reducible repeat (first | refine blk_drewN ?_ _ | refine blk_drew ?_ | refine blk_alloc ?_ _)); exact af.out⟩, ⟨by (with_reducible repeat (first | refine blk_drewN ?_ _ | refine blk_drew ?_ | refine blk_alloc ?_ _)); refine blk_put (cs := #[.int .i64 al, .int .i64 0]) ?_ 1 _ rfl; (with_reducible repeat (first | refine blk_drewN ?_ _ | refine blk_drew ?_ | refine blk_alloc ?_ _)); refine blk_put (cs := #[.int .i64 0, .int .i64 0]) ?_ 0 _ rfl; (with_reducible repeat (first | refine blk_drewN ?_ _ | refine blk_drew ?_ | refine blk_alloc ?_ _)); exact ai.out⟩, ⟨G.cB HB.out⟩⟩
    case round =>
     clear H'; (try clear b1 cx cy cD cE cH cI cz cA cF cG cJ cL); obtain ⟨bA, ac, aj, aC, rfl, rfl, HA, bP, ag, aa, ae, af, ai, HB⟩ := hrel; cases gk with
     | zero => exact absurd HA.out (by simp [spec_NetAdd.l0])
     | succ k2 =>
      have H := HA.out; clear HA; simp only [spec_NetAdd.l0] at H
      by_cases bQ : ac < (ab.length : Int)
      ·rw [if_pos bQ] at H; have da : decide (ac < (ab.length : Int)) = true := decide_eq_true bQ; clear bQ
       by_cases ch : bA = true
       ·subst ch; have H1 : (if 0 ≤ ac then (if aj.length < 8796093022208 then (spec_NetAdd.l0 k2 true (wrap64 (ac + 1)) ah ab ah (aj ++ [(⟨(rd_T51 ab ac).f0, (rd_T51 ab ac).f1⟩ : S51)]) al am) else (none)) else (none)) = some (r1, r2, r3) := by rw [if_pos rfl] at H; exact H
        clear H; have H := H1; clear H1
        by_cases ci : 0 ≤ ac
        ·rw [if_pos ci] at H; have gM : decide (0 ≤ ac) = true := decide_eq_true ci; clear ci
         by_cases cj : aj.length < 8796093022208
         ·rw [if_pos cj] at H; have db := G.m cj; clear cj; obtain ⟨bR, bB⟩ : ∃ y_ : List (S51), y_ = (aj ++ [(⟨(rd_T51 ab ac).f0, (rd_T51 ab ac).f1⟩ : S51)]) := ⟨_, rfl⟩; replace H : (spec_NetAdd.l0 k2 true (wrap64 (ac + 1)) ah ab ah bR al am) = some (r1, r2, r3) := by first | (rw [bB]; with_reducible exact H) | (have aW := (Option.bind_some _ _).symm.trans H; rw [bB]; with_reducible exact aW) | (have aW := (Option.bind_some _ _).symm.trans H; with_reducible exact aW) | with_reducible exact H | (rw [bB]; exact H) | exact H
          have dc := G.m bB; clear bB; have H' := G.m H; clear H; have gN := ax.out; have gO := ay.out; have gP := av.out; have gQ := aD.out; have gR := aH.out; have gS := aU.out; have ⟨eK, eL, eM, eN⟩ := G.d2 (w := wr) aa; try go_wp2
          have n0 := G.m (Kd.R_drew ag.out); have n1 := G.m (blk_drew aa.out); have n2 := G.m (blk_drew ae.out); have n3 := G.m (blk_drew af.out); have n4 := G.m (blk_drew ai.out); have n5 := G.m (below_drew1 HB.out); clear ag aa ae af ai HB; revert n0 n1 n2 n3 n4 n5; intro ag aa ae af ai HB; refine G.st 11 (S := fun w' => True) [] trivial spec_NetAdd.tab9 spec_NetAdd.bits9 (fun hHeld HT_ HW_ => ?_); generalize wr.drew = fL at ag aa ae af ai HB hHeld ⊢; refine G.pu 0 47 1 ?_; refine G.pu 1 48 3 ?_; refine G.pu 2 49 7 ?_; refine G.pf 3 50 15 ?_; refine G.pf 4 51 31 ?_; refine G.pf 5 52 63 ?_; refine G.pf 6 53 127 ?_; refine G.pf 7 54 255 ?_; refine G.pf 8 55 511 ?_; refine G.pf 9 56 1023 ?_; refine G.pu 10 57 2047 ?_; refine done_ (done_of HT_.out (caaE)) ?_; try go_wp2
          have n0 := G.m (Kd.R_drew ag.out); have n1 := G.m (blk_drew aa.out); have n2 := G.m (blk_drew ae.out); have n3 := G.m (blk_drew af.out); have n4 := G.m (blk_drew ai.out); have n5 := G.m (below_drew1 HB.out); clear ag aa ae af ai HB; revert n0 n1 n2 n3 n4 n5; intro ag aa ae af ai HB; have b5 : 0 ≤ (ac : Int) := of_decide_eq_true (G.asm); have b6 : ac < (ab.length : Int) := of_decide_eq_true (G.asm); obtain ⟨bM, du, bf, bh⟩ := at_T51 aN.out ac b5 b6; have bj := bh; have bk := bf; cases du; replace bf := G.hx HB bf; replace bh := G.hx HB bh; replace b5 := eq_true b5; replace b6 := eq_true b6; refine G.st 11 (S := fun w' => w'.cell? ⟨ak, 0, none⟩ = some (.int .i64 ah) ∧ w'.cell? ⟨ak, 1, none⟩ = some (aC) ∧ w'.cell? ⟨aq, 0, none⟩ = some (.int .i64 ah) ∧ w'.cell? ⟨aq, 1, none⟩ = some (.slice (some bM) ab.length aI) ∧ w'.cell? (bM.add ((ac).toNat * 2)) = some (.int .i64 ((rd_T51 ab ac).f0)) ∧ w'.cell? ⟨(bM.add ((ac).toNat * 2)).block, (bM.add ((ac).toNat * 2)).off + 1, none⟩ = some (.int .i64 ((rd_T51 ab ac).f1))) [10] ⟨G.z af 0, G.z af 1, G.z aa 0, G.z aa 1, (G.hx HB bk), (G.hx HB bj)⟩ spec_NetAdd.tab12 spec_NetAdd.bits12 (fun hHeld HT_ HW_ => ?_); generalize fL.drew = ix at ag aa ae af ai HB bf bh hHeld ⊢; refine G.pu 0 64 1 ?_; refine G.pu 2 66 5 ?_; refine G.pu 4 68 21 ?_; refine G.ta6 1 65 23 ?_; refine G.ta6 3 67 31 ?_; refine G.pu 5 69 63 ?_; refine G.ta6 6 70 127 ?_; refine G.on 7 71 255 (fun K hK => ?_); refine value_ (w1 := ?_) (v := ?_) (by rfl) rfl ?_ ?_; rotate_left 2
          ·go_simp
           constructor
           ·rfl
           ·rfl
          refine hK.out _ _ ⟨(blk_cell (blk_alloc af.out _) 0).trans rfl, (blk_cell (blk_alloc af.out _) 1).trans rfl, (blk_cell (blk_alloc aa.out _) 0).trans rfl, (blk_cell (blk_alloc aa.out _) 1).trans rfl, (World.cell?_alloc_lt _ _ _ (World.block_lt_of_cell? _ _ ((G.hx HB bk)))).trans ((G.hx HB bk)), (World.cell?_alloc_lt _ _ _ (World.block_lt_of_cell? _ _ ((G.hx HB bj)))).trans ((G.hx HB bj))⟩ (fun hHeld => ?_); clear hK K; refine G.no 71 ?_; refine G.on 8 72 511 (fun K hK => ?_); refine Kd.R_append_step k51 (w0 := w) w.heap.size (by rfl) (.tmp 65) (.tmp 71) 27 51 (.agg #[(.int .i64 0), (.int .i64 0)]) 16 rfl Tryd.underlying27 info51 rfl (by decide) (by omega) aC aj (⟨(rd_T51 ab ac).f0, (rd_T51 ab ac).f1⟩ : S51) [.int .i64 ((rd_T51 ab ac).f0), .int .i64 ((rd_T51 ab ac).f1)] (fun k_ => k_ ≠ ao) (fun _ => False) rfl rfl ?aP (fun _ hk => hk.elim) ?aF ?aO ?aB ?aS ?aL ?_; (case aP => exact k51_mkM _ _ _ (⟨(rd_T51 ab ac).f0, (rd_T51 ab ac).f1⟩ : S51)); (case aB => exact (G.cB HB.out)); (case aF => exact (fun k_ hk => Kd.freshB (g := ao) (o := .cells #[.int .i64 al, .int .i64 am] 51 (0, 0)) (G.cb ai.out) k_ hk)); (case aO => exact (G.cR ag.out)); (case aS => exact (below_size (G.cB HB.out))); (case aL => have := db.out; omega); intro ig fM ho hb hg hat; rw [← dc.out] at ho; have n0 := G.bg aa hg (Kd.R_ne ag.out aa.out (by decide)); have n1 := G.bg ae hg (Kd.R_ne ag.out ae.out (by decide)); have n2 := G.bg af hg (Kd.R_ne ag.out af.out (by decide)); have n3 := G.bg ai hg (Kd.R_away ag.out (fun _ hk => hk)); have n4 := G.m (hb); have n5 := G.m (ho); clear aa ae af ai HB ag; revert n0 n1 n2 n3 n4 n5; intro aa ae af ai HB ck; clear ho hb hg hat; obtain ⟨cN, cO, cP⟩ := Kd.R_slice ck.out; (first | subst cP | (injection cP with bI b2 bJ; have b3 := bI.symm; have b4 := bJ.symm; clear bI b2 bJ; subst b3; subst b4)); refine hK.out _ _ ⟨G.z af 0, G.z af 1, G.z aa 0, G.z aa 1, (G.hx HB bk), (G.hx HB bj)⟩ (fun hHeld => ?_); clear hK K; refine G.no 72 ?_; refine G.pu 9 73 1023 ?_; refine G.la 10 (none) (G.fl 11 2047) (fun K hK => ?_); have ii : fM.cell? ⟨ak, 1, none⟩ = some (aC) := G.z af 1; have gT := blk_frozen af.out 1; have eO := av.out; have eP := aw.out; have eQ := aG.out; have eR := aD.out; have eS := aK.out; have eT := aE.out; refine skip_ (w1 := ?_) (by rfl) rfl ?_ ?_; rotate_left
          ·go_simp
           rfl
          refine hK.out _ _ ?_; clear hK K; refine done_ (done_of HT_.out (caaE)) ?_; try go_wp2
          go_roundg k2
          case measure => have := bO.out; have := bP.out; omega
          case rel => exact ⟨(true), (wrap64 (ac + 1)), (bR), (.slice cN bR.length cO), (caaD), (caaD), H', ⟨by have := bO.out; have := bP.out; omega⟩, ⟨by (with_reducible repeat (first | apply Kd.R_alloc | apply Kd.R_drewN | apply Kd.R_drew)); exact Kd.R_mono (Kd.R_far (p := ⟨ak, 1, none⟩) (Kd.R_types ck.out af.out (by decide)) (fun _ hk => hk.2) (.slice cN bR.length cO)) (fun _ hk => hk.1)⟩, ⟨caaG⟩, ⟨caaH⟩, ⟨caaJ⟩, ⟨caaI⟩, ⟨G.cB HB.out⟩⟩
         ·rw [if_neg cj] at H; exact absurd H (by simp)
        ·rw [if_neg ci] at H; exact absurd H (by simp)
       ·replace ch := Bool.eq_false_iff.mpr ch; subst ch; have H1 : (if 0 ≤ ac then ((spec_l1Less.f al am ((rd_T51 ab ac).f0) ((rd_T51 ab ac).f1)).bind fun bG => (if bG = true then (if aj.length < 8796093022208 then ((some (aj ++ [(⟨al, am⟩ : S51)] : List (S51))).bind fun ap => (if ap.length < 8796093022208 then (spec_NetAdd.l0 k2 true (wrap64 (ac + 1)) ah ab ah (ap ++ [(⟨(rd_T51 ab ac).f0, (rd_T51 ab ac).f1⟩ : S51)]) al am) else (none))) else (none)) else (if aj.length < 8796093022208 then (spec_NetAdd.l0 k2 false (wrap64 (ac + 1)) ah ab ah (aj ++ [(⟨(rd_T51 ab ac).f0, (rd_T51 ab ac).f1⟩ : S51)]) al am) else (none)))) else (none)) = some (r1, r2, r3) := by rw [if_neg (show ¬ (false = true) by decide)] at H; exact H
        clear H; have H := H1; clear H1
        by_cases cl : 0 ≤ ac
        ·rw [if_pos cl] at H; have gU : decide (0 ≤ ac) = true := decide_eq_true cl; clear cl; obtain ⟨bG, dr, H⟩ := G.bi H; replace H : (if bG = true then (if aj.length < 8796093022208 then ((some (aj ++ [(⟨al, am⟩ : S51)] : List (S51))).bind fun ap => (if ap.length < 8796093022208 then (spec_NetAdd.l0 k2 true (wrap64 (ac + 1)) ah ab ah (ap ++ [(⟨(rd_T51 ab ac).f0, (rd_T51 ab ac).f1⟩ : S51)]) al am) else (none))) else (none)) else (if aj.length < 8796093022208 then (spec_NetAdd.l0 k2 false (wrap64 (ac + 1)) ah ab ah (aj ++ [(⟨(rd_T51 ab ac).f0, (rd_T51 ab ac).f1⟩ : S51)]) al am) else (none))) = some (r1, r2, r3) := H
         by_cases cm : bG = true
         ·subst cm; have H1 : (if aj.length < 8796093022208 then ((some (aj ++ [(⟨al, am⟩ : S51)] : List (S51))).bind fun ap => (if ap.length < 8796093022208 then (spec_NetAdd.l0 k2 true (wrap64 (ac + 1)) ah ab ah (ap ++ [(⟨(rd_T51 ab ac).f0, (rd_T51 ab ac).f1⟩ : S51)]) al am) else (none))) else (none)) = some (r1, r2, r3) := by rw [if_pos rfl] at H; exact H
          clear H; have H := H1; clear H1
          by_cases cn : aj.length < 8796093022208
          ·rw [if_pos cn] at H; have dd := G.m cn; clear cn; obtain ⟨ap, bC⟩ : ∃ y_ : List (S51), y_ = (aj ++ [(⟨al, am⟩ : S51)]) := ⟨_, rfl⟩; replace H : (if ap.length < 8796093022208 then (spec_NetAdd.l0 k2 true (wrap64 (ac + 1)) ah ab ah (ap ++ [(⟨(rd_T51 ab ac).f0, (rd_T51 ab ac).f1⟩ : S51)]) al am) else (none)) = some (r1, r2, r3) := by first | (rw [bC]; with_reducible exact H) | (have aW := (Option.bind_some _ _).symm.trans H; rw [bC]; with_reducible exact aW) | (have aW := (Option.bind_some _ _).symm.trans H; with_reducible exact aW) | with_reducible exact H | (rw [bC]; exact H) | exact H
           have de := G.m bC; clear bC
           by_cases co : ap.length < 8796093022208
           ·rw [if_pos co] at H; have df := G.m co; clear co; obtain ⟨bS, bD⟩ : ∃ y_ : List (S51), y_ = (ap ++ [(⟨(rd_T51 ab ac).f0, (rd_T51 ab ac).f1⟩ : S51)]) := ⟨_, rfl⟩; replace H : (spec_NetAdd.l0 k2 true (wrap64 (ac + 1)) ah ab ah bS al am) = some (r1, r2, r3) := by first | (rw [bD]; with_reducible exact H) | (have aW := (Option.bind_some _ _).symm.trans H; rw [bD]; with_reducible exact aW) | (have aW := (Option.bind_some _ _).symm.trans H; with_reducible exact aW) | with_reducible exact H | (rw [bD]; exact H) | exact H
            have dg := G.m bD; clear bD; have H' := G.m H; clear H; have gV := ax.out; have gW := ay.out; have gX := av.out; have gY := aD.out; have gZ := aH.out; have g0 := aU.out; have ⟨eU, eV, eW, eX⟩ := G.d2 (w := wr) aa; try go_wp2
            have n0 := G.m (Kd.R_drew ag.out); have n1 := G.m (blk_drew aa.out); have n2 := G.m (blk_drew ae.out); have n3 := G.m (blk_drew af.out); have n4 := G.m (blk_drew ai.out); have n5 := G.m (below_drew1 HB.out); clear ag aa ae af ai HB; revert n0 n1 n2 n3 n4 n5; intro ag aa ae af ai HB; have bv : 0 ≤ (ac : Int) := of_decide_eq_true (G.asm); have bw : ac < (ab.length : Int) := of_decide_eq_true (G.asm); obtain ⟨aA, b7, aQ, aR⟩ := at_T51 aN.out ac bv bw; have bc := aR; have bd := aQ; cases b7; replace aQ := G.hx HB aQ; replace aR := G.hx HB aR; replace bv := eq_true bv; replace bw := eq_true bw; refine G.st 11 (S := fun w' => w'.cell? ⟨ao, 0, none⟩ = some (.int .i64 al) ∧ w'.cell? ⟨ao, 1, none⟩ = some (.int .i64 am) ∧ w'.cell? ⟨aq, 0, none⟩ = some (.int .i64 ah) ∧ w'.cell? ⟨aq, 1, none⟩ = some (.slice (some aA) ab.length aI) ∧ w'.cell? (aA.add ((ac).toNat * 2)) = some (.int .i64 ((rd_T51 ab ac).f0)) ∧ w'.cell? ⟨(aA.add ((ac).toNat * 2)).block, (aA.add ((ac).toNat * 2)).off + 1, none⟩ = some (.int .i64 ((rd_T51 ab ac).f1))) [] ⟨G.z ai 0, G.z ai 1, G.z aa 0, G.z aa 1, (G.hx HB bd), (G.hx HB bc)⟩ spec_NetAdd.tab9 spec_NetAdd.bits9 (fun hHeld HT_ HW_ => ?_); generalize wr.drew = iy at ag aa ae af ai HB aQ aR hHeld ⊢; refine G.pu 0 47 1 ?_; refine G.pu 1 48 3 ?_; refine G.pu 2 49 7 ?_; refine G.pu 4 51 23 ?_; refine G.pu 6 53 87 ?_; refine G.ta6 3 50 95 ?_; refine G.ta6 5 52 127 ?_; refine G.pu 7 54 255 ?_; refine G.ta6 8 55 511 ?_; refine G.on 9 56 1023 (fun K hK => ?_); refine G.gs Tryd.func65 #[.agg #[.int .i64 al, .int .i64 am], .agg #[.int .i64 ((rd_T51 ab ac).f0), .int .i64 ((rd_T51 ab ac).f1)]] ?_; with_reducible refine (spec_l1Less.calls al am ((rd_T51 ab ac).f0) ((rd_T51 ab ac).f1) true _ dr.out).mono ?_
            rintro e dt ⟨rfl, hb⟩; refine ⟨_, rfl, ?_⟩; have n0 := G.rb ag hb; have n1 := G.bb aa hb; have n2 := G.bb ae hb; have n3 := G.bb af hb; have n4 := G.bb ai hb; have n5 := G.bs HB hb; clear ag aa ae af ai HB; revert n0 n1 n2 n3 n4 n5; intro ag aa ae af ai HB; (try clear hb fN hk hi); refine hK.out _ _ ⟨G.z ai 0, G.z ai 1, G.z aa 0, G.z aa 1, (G.hx HB bd), (G.hx HB bc)⟩ (fun hHeld => ?_); clear hK K; refine G.no 56 ?_; refine G.pu 10 57 2047 ?_; refine done_ (done_of HT_.out (caaE)) ?_; have g2 := aK.out; have g3 := aw.out; have g4 := aE.out; have g5 := aG.out; have ⟨eY, eZ, e2, e3⟩ := G.d2 (w := dt) af; have g6 := a9.out; have g7 := aV.out; have ⟨e4, e5, e6, e7⟩ := G.d2 (w := dt) ai; try go_wp2_with (first | ((with_reducible refine gate_builtin (b := .append) (xs := #[.tmp 59, .tmp 61]) rfl ?_); at_builtin; refine Kd.R_append k51 (w0 := w) w.heap.size rfl (.tmp 59) (.tmp 61) 27 51 (.agg #[(.int .i64 0), (.int .i64 0)]) 16 rfl Tryd.underlying27 info51 rfl (by decide) (by omega) aC aj (⟨al, am⟩ : S51) [.int .i64 al, .int .i64 am] (fun k_ => k_ ≠ ao) (fun _ => False) rfl rfl ?aP (fun _ hk => hk.elim) ?aF ?aO ?aB ?aS ?aL ?_; (case aP => exact k51_mkM _ _ _ (⟨al, am⟩ : S51)); (case aB => exact (G.cB HB.out)); (case aF => exact (fun k_ hk => Kd.freshB (g := ao) (o := .cells #[.int .i64 al, .int .i64 am] 51 (0, 0)) (G.cb ai.out) k_ hk)); (case aO => exact (G.cR ag.out)); (case aS => exact (below_size (G.cB HB.out))); (case aL => have := dd.out; omega); intro ij bK ho hb hg hat; rw [← de.out] at ho; have n0 := G.bg aa hg (Kd.R_ne ag.out aa.out (by decide)); have n1 := G.bg ae hg (Kd.R_ne ag.out ae.out (by decide)); have n2 := G.bg af hg (Kd.R_ne ag.out af.out (by decide)); have n3 := G.bg ai hg (Kd.R_away ag.out (fun _ hk => hk)); have n4 := G.m (hb); have n5 := G.m (ho); clear aa ae af ai HB ag; revert n0 n1 n2 n3 n4 n5; intro aa ae af ai HB aJ; clear ho hb hg hat; obtain ⟨aX, aY, dv⟩ := Kd.R_slice aJ.out; subst dv; have ⟨e8, e9, fa, fb⟩ := G.d2 (w := bK) af))
            have n0 : Aside0 (Kd.R k51 51 (bK.setCell ⟨ak, 1, none⟩ (.slice aX ap.length aY)) w.heap.size (fun k_ => k_ ≠ ao) (.slice aX ap.length aY) ap) := ⟨by (with_reducible repeat (first | apply Kd.R_alloc | apply Kd.R_drewN | apply Kd.R_drew)); exact Kd.R_mono (Kd.R_far (p := ⟨ak, 1, none⟩) (Kd.R_types aJ.out af.out (by decide)) (fun _ hk => hk.2) (.slice aX ap.length aY)) (fun _ hk => hk.1)⟩; have n1 : Aside0 ((bK.setCell ⟨ak, 1, none⟩ (.slice aX ap.length aY)).heap[aq]? = some (.cells #[.int .i64 ah, .slice (some aA) ab.length aI] 29 (0, 0))) := ⟨caaG⟩; have n2 : Aside0 ((bK.setCell ⟨ak, 1, none⟩ (.slice aX ap.length aY)).heap[au]? = some (.cells #[.int .i64 0, .slice none 0 0] 29 (0, 0))) := ⟨caaH⟩; have n3 : Aside0 ((bK.setCell ⟨ak, 1, none⟩ (.slice aX ap.length aY)).heap[ak]? = some (.cells #[.int .i64 ah, .slice aX ap.length aY] 29 (0, 0))) := ⟨caaJ⟩; have n4 : Aside0 ((bK.setCell ⟨ak, 1, none⟩ (.slice aX ap.length aY)).heap[ao]? = some (.cells #[.int .i64 al, .int .i64 am] 51 (0, 0))) := ⟨caaI⟩; have n5 : Aside0 (Below w.heap.size w (bK.setCell ⟨ak, 1, none⟩ (.slice aX ap.length aY))) := ⟨G.cB HB.out⟩; (try clear aJ aa ae af ai HB); generalize (bK.setCell ⟨ak, 1, none⟩ (.slice aX ap.length aY)) = fO at n0 n1 n2 n3 n4 n5 ⊢; revert n0 n1 n2 n3 n4 n5; intro aJ aa ae af ai HB; have n0 := G.m (Kd.R_drew aJ.out); have n1 := G.m (blk_drew aa.out); have n2 := G.m (blk_drew ae.out); have n3 := G.m (blk_drew af.out); have n4 := G.m (blk_drew ai.out); have n5 := G.m (below_drew1 HB.out); clear aJ aa ae af ai HB; revert n0 n1 n2 n3 n4 n5; intro aJ aa ae af ai HB; have b8 : 0 ≤ (ac : Int) := of_decide_eq_true (G.asm); have b9 : ac < (ab.length : Int) := of_decide_eq_true (G.asm); obtain ⟨dh, dw, bl, bm⟩ := at_T51 aN.out ac b8 b9; have bn := bm; have bo := bl; obtain rfl : aA = dh := (by injection dw); replace bl := G.hx HB bl; replace bm := G.hx HB bm; replace b8 := eq_true b8; replace b9 := eq_true b9; refine G.st 11 (S := fun w' => w'.cell? ⟨ak, 0, none⟩ = some (.int .i64 ah) ∧ w'.cell? ⟨ak, 1, none⟩ = some (.slice aX ap.length aY) ∧ w'.cell? ⟨aq, 0, none⟩ = some (.int .i64 ah) ∧ w'.cell? ⟨aq, 1, none⟩ = some (.slice (some aA) ab.length aI) ∧ w'.cell? (aA.add ((ac).toNat * 2)) = some (.int .i64 ((rd_T51 ab ac).f0)) ∧ w'.cell? ⟨(aA.add ((ac).toNat * 2)).block, (aA.add ((ac).toNat * 2)).off + 1, none⟩ = some (.int .i64 ((rd_T51 ab ac).f1))) [10] ⟨G.z af 0, G.z af 1, G.z aa 0, G.z aa 1, (G.hx HB bo), (G.hx HB bn)⟩ spec_NetAdd.tab12 spec_NetAdd.bits12 (fun hHeld HT_ HW_ => ?_); generalize fO.drew = iz at aJ aa ae af ai HB bl bm hHeld ⊢; refine G.pu 0 64 1 ?_; refine G.pu 2 66 5 ?_; refine G.pu 4 68 21 ?_; refine G.ta6 1 65 23 ?_; refine G.ta6 3 67 31 ?_; refine G.pu 5 69 63 ?_; refine G.ta6 6 70 127 ?_; refine G.on 7 71 255 (fun K hK => ?_); refine value_ (w1 := ?_) (v := ?_) (by rfl) rfl ?_ ?_; rotate_left 2
            ·go_simp
             constructor
             ·rfl
             ·rfl
            refine hK.out _ _ ⟨(blk_cell (blk_alloc af.out _) 0).trans rfl, (blk_cell (blk_alloc af.out _) 1).trans rfl, (blk_cell (blk_alloc aa.out _) 0).trans rfl, (blk_cell (blk_alloc aa.out _) 1).trans rfl, (World.cell?_alloc_lt _ _ _ (World.block_lt_of_cell? _ _ ((G.hx HB bo)))).trans ((G.hx HB bo)), (World.cell?_alloc_lt _ _ _ (World.block_lt_of_cell? _ _ ((G.hx HB bn)))).trans ((G.hx HB bn))⟩ (fun hHeld => ?_); clear hK K; refine G.no 71 ?_; refine G.on 8 72 511 (fun K hK => ?_); refine Kd.R_append_step k51 (w0 := w) w.heap.size (by rfl) (.tmp 65) (.tmp 71) 27 51 (.agg #[(.int .i64 0), (.int .i64 0)]) 16 rfl Tryd.underlying27 info51 rfl (by decide) (by omega) (.slice aX ap.length aY) ap (⟨(rd_T51 ab ac).f0, (rd_T51 ab ac).f1⟩ : S51) [.int .i64 ((rd_T51 ab ac).f0), .int .i64 ((rd_T51 ab ac).f1)] (fun k_ => k_ ≠ ao) (fun _ => False) rfl rfl ?aP (fun _ hk => hk.elim) ?aF ?aO ?aB ?aS ?aL ?_; (case aP => exact k51_mkM _ _ _ (⟨(rd_T51 ab ac).f0, (rd_T51 ab ac).f1⟩ : S51)); (case aB => exact (G.cB HB.out)); (case aF => exact (fun k_ hk => Kd.freshB (g := ao) (o := .cells #[.int .i64 al, .int .i64 am] 51 (0, 0)) (G.cb ai.out) k_ hk)); (case aO => exact (G.cR aJ.out)); (case aS => exact (below_size (G.cB HB.out))); (case aL => have := df.out; omega); intro ik fP ho hb hg hat; rw [← dg.out] at ho; have n0 := G.bg aa hg (Kd.R_ne aJ.out aa.out (by decide)); have n1 := G.bg ae hg (Kd.R_ne aJ.out ae.out (by decide)); have n2 := G.bg af hg (Kd.R_ne aJ.out af.out (by decide)); have n3 := G.bg ai hg (Kd.R_away aJ.out (fun _ hk => hk)); have n4 := G.m (hb); have n5 := G.m (ho); clear aa ae af ai HB aJ; revert n0 n1 n2 n3 n4 n5; intro aa ae af ai HB cp; clear ho hb hg hat; obtain ⟨cQ, cS, cT⟩ := Kd.R_slice cp.out; (first | subst cT | (injection cT with bI b2 bJ; have b3 := bI.symm; have b4 := bJ.symm; clear bI b2 bJ; subst b3; subst b4)); refine hK.out _ _ ⟨G.z af 0, G.z af 1, G.z aa 0, G.z aa 1, (G.hx HB bo), (G.hx HB bn)⟩ (fun hHeld => ?_); clear hK K; refine G.no 72 ?_; refine G.pu 9 73 1023 ?_; refine G.la 10 (none) (G.fl 11 2047) (fun K hK => ?_); have il : fP.cell? ⟨ak, 1, none⟩ = some (.slice aX ap.length aY) := G.z af 1; have g8 := blk_frozen af.out 1; have fc := av.out; have fd := aw.out; have fe := aG.out; have ff := aD.out; have fg := aK.out; have fh := aE.out; refine skip_ (w1 := ?_) (by rfl) rfl ?_ ?_; rotate_left
            ·go_simp
             rfl
            refine hK.out _ _ ?_; clear hK K; refine done_ (done_of HT_.out (caaE)) ?_; try go_wp2
            go_roundg k2
            case measure => have := bO.out; have := bP.out; omega
            case rel => exact ⟨(true), (wrap64 (ac + 1)), (bS), (.slice cQ bS.length cS), (caaD), (caaD), H', ⟨by have := bO.out; have := bP.out; omega⟩, ⟨by (with_reducible repeat (first | apply Kd.R_alloc | apply Kd.R_drewN | apply Kd.R_drew)); exact Kd.R_mono (Kd.R_far (p := ⟨ak, 1, none⟩) (Kd.R_types cp.out af.out (by decide)) (fun _ hk => hk.2) (.slice cQ bS.length cS)) (fun _ hk => hk.1)⟩, ⟨caaG⟩, ⟨caaH⟩, ⟨by (with_reducible repeat (first | refine blk_drewN ?_ _ | refine blk_drew ?_ | refine blk_alloc ?_ _)); refine blk_put (cs := #[.int .i64 ah, .slice aX ap.length aY]) ?_ 1 _ rfl; (with_reducible repeat (first | refine blk_drewN ?_ _ | refine blk_drew ?_ | refine blk_alloc ?_ _)); exact af.out⟩, ⟨caaI⟩, ⟨G.cB HB.out⟩⟩
           ·rw [if_neg co] at H; exact absurd H (by simp)
          ·rw [if_neg cn] at H; exact absurd H (by simp)
         ·replace cm := Bool.eq_false_iff.mpr cm; subst cm; have H1 : (if aj.length < 8796093022208 then (spec_NetAdd.l0 k2 false (wrap64 (ac + 1)) ah ab ah (aj ++ [(⟨(rd_T51 ab ac).f0, (rd_T51 ab ac).f1⟩ : S51)]) al am) else (none)) = some (r1, r2, r3) := by rw [if_neg (show ¬ (false = true) by decide)] at H; exact H
          clear H; have H := H1; clear H1
          by_cases cq : aj.length < 8796093022208
          ·rw [if_pos cq] at H; have di := G.m cq; clear cq; obtain ⟨bT, bE⟩ : ∃ y_ : List (S51), y_ = (aj ++ [(⟨(rd_T51 ab ac).f0, (rd_T51 ab ac).f1⟩ : S51)]) := ⟨_, rfl⟩; replace H : (spec_NetAdd.l0 k2 false (wrap64 (ac + 1)) ah ab ah bT al am) = some (r1, r2, r3) := by first | (rw [bE]; with_reducible exact H) | (have aW := (Option.bind_some _ _).symm.trans H; rw [bE]; with_reducible exact aW) | (have aW := (Option.bind_some _ _).symm.trans H; with_reducible exact aW) | with_reducible exact H | (rw [bE]; exact H) | exact H
           have dj := G.m bE; clear bE; have H' := G.m H; clear H; have g9 := ax.out; have g_ := ay.out; have hD := av.out; have hJ := aD.out; have hU := aH.out; have hV := aU.out; have ⟨fi, fj, fk, fm⟩ := G.d2 (w := wr) aa; try go_wp2
           have n0 := G.m (Kd.R_drew ag.out); have n1 := G.m (blk_drew aa.out); have n2 := G.m (blk_drew ae.out); have n3 := G.m (blk_drew af.out); have n4 := G.m (blk_drew ai.out); have n5 := G.m (below_drew1 HB.out); clear ag aa ae af ai HB; revert n0 n1 n2 n3 n4 n5; intro ag aa ae af ai HB; have bv : 0 ≤ (ac : Int) := of_decide_eq_true (G.asm); have bw : ac < (ab.length : Int) := of_decide_eq_true (G.asm); obtain ⟨aA, b7, aQ, aR⟩ := at_T51 aN.out ac bv bw; have bc := aR; have bd := aQ; cases b7; replace aQ := G.hx HB aQ; replace aR := G.hx HB aR; replace bv := eq_true bv; replace bw := eq_true bw; refine G.st 11 (S := fun w' => w'.cell? ⟨ao, 0, none⟩ = some (.int .i64 al) ∧ w'.cell? ⟨ao, 1, none⟩ = some (.int .i64 am) ∧ w'.cell? ⟨aq, 0, none⟩ = some (.int .i64 ah) ∧ w'.cell? ⟨aq, 1, none⟩ = some (.slice (some aA) ab.length aI) ∧ w'.cell? (aA.add ((ac).toNat * 2)) = some (.int .i64 ((rd_T51 ab ac).f0)) ∧ w'.cell? ⟨(aA.add ((ac).toNat * 2)).block, (aA.add ((ac).toNat * 2)).off + 1, none⟩ = some (.int .i64 ((rd_T51 ab ac).f1))) [] ⟨G.z ai 0, G.z ai 1, G.z aa 0, G.z aa 1, (G.hx HB bd), (G.hx HB bc)⟩ spec_NetAdd.tab9 spec_NetAdd.bits9 (fun hHeld HT_ HW_ => ?_); generalize wr.drew = iA at ag aa ae af ai HB aQ aR hHeld ⊢; refine G.pu 0 47 1 ?_; refine G.pu 1 48 3 ?_; refine G.pu 2 49 7 ?_; refine G.pu 4 51 23 ?_; refine G.pu 6 53 87 ?_; refine G.ta6 3 50 95 ?_; refine G.ta6 5 52 127 ?_; refine G.pu 7 54 255 ?_; refine G.ta6 8 55 511 ?_; refine G.on 9 56 1023 (fun K hK => ?_); refine G.gs Tryd.func65 #[.agg #[.int .i64 al, .int .i64 am], .agg #[.int .i64 ((rd_T51 ab ac).f0), .int .i64 ((rd_T51 ab ac).f1)]] ?_; with_reducible refine (spec_l1Less.calls al am ((rd_T51 ab ac).f0) ((rd_T51 ab ac).f1) false _ dr.out).mono ?_
           rintro e fQ ⟨rfl, hb⟩; refine ⟨_, rfl, ?_⟩; have n0 := G.rb ag hb; have n1 := G.bb aa hb; have n2 := G.bb ae hb; have n3 := G.bb af hb; have n4 := G.bb ai hb; have n5 := G.bs HB hb; clear ag aa ae af ai HB; revert n0 n1 n2 n3 n4 n5; intro ag aa ae af ai HB; (try clear hb fN hk hi); refine hK.out _ _ ⟨G.z ai 0, G.z ai 1, G.z aa 0, G.z aa 1, (G.hx HB bd), (G.hx HB bc)⟩ (fun hHeld => ?_); clear hK K; refine G.no 56 ?_; refine G.pu 10 57 2047 ?_; refine done_ (done_of HT_.out (caaE)) ?_; try go_wp2
           have n0 := G.m (Kd.R_drew ag.out); have n1 := G.m (blk_drew aa.out); have n2 := G.m (blk_drew ae.out); have n3 := G.m (blk_drew af.out); have n4 := G.m (blk_drew ai.out); have n5 := G.m (below_drew1 HB.out); clear ag aa ae af ai HB; revert n0 n1 n2 n3 n4 n5; intro ag aa ae af ai HB; have b_ : 0 ≤ (ac : Int) := of_decide_eq_true (G.asm); have ca : ac < (ab.length : Int) := of_decide_eq_true (G.asm); obtain ⟨dk, dx, bp, bq⟩ := at_T51 aN.out ac b_ ca; have br := bq; have bu := bp; obtain rfl : aA = dk := (by injection dx); replace bp := G.hx HB bp; replace bq := G.hx HB bq; replace b_ := eq_true b_; replace ca := eq_true ca; refine G.st 11 (S := fun w' => w'.cell? ⟨ak, 0, none⟩ = some (.int .i64 ah) ∧ w'.cell? ⟨ak, 1, none⟩ = some (aC) ∧ w'.cell? ⟨aq, 0, none⟩ = some (.int .i64 ah) ∧ w'.cell? ⟨aq, 1, none⟩ = some (.slice (some aA) ab.length aI) ∧ w'.cell? (aA.add ((ac).toNat * 2)) = some (.int .i64 ((rd_T51 ab ac).f0)) ∧ w'.cell? ⟨(aA.add ((ac).toNat * 2)).block, (aA.add ((ac).toNat * 2)).off + 1, none⟩ = some (.int .i64 ((rd_T51 ab ac).f1))) [10] ⟨G.z af 0, G.z af 1, G.z aa 0, G.z aa 1, (G.hx HB bu), (G.hx HB br)⟩ spec_NetAdd.tab12 spec_NetAdd.bits12 (fun hHeld HT_ HW_ => ?_); generalize fQ.drew = iB at ag aa ae af ai HB bp bq hHeld ⊢; refine G.pu 0 64 1 ?_; refine G.pu 2 66 5 ?_; refine G.pu 4 68 21 ?_; refine G.ta6 1 65 23 ?_; refine G.ta6 3 67 31 ?_; refine G.pu 5 69 63 ?_; refine G.ta6 6 70 127 ?_; refine G.on 7 71 255 (fun K hK => ?_); refine value_ (w1 := ?_) (v := ?_) (by rfl) rfl ?_ ?_; rotate_left 2
           ·go_simp
            constructor
            ·rfl
            ·rfl
           refine hK.out _ _ ⟨(blk_cell (blk_alloc af.out _) 0).trans rfl, (blk_cell (blk_alloc af.out _) 1).trans rfl, (blk_cell (blk_alloc aa.out _) 0).trans rfl, (blk_cell (blk_alloc aa.out _) 1).trans rfl, (World.cell?_alloc_lt _ _ _ (World.block_lt_of_cell? _ _ ((G.hx HB bu)))).trans ((G.hx HB bu)), (World.cell?_alloc_lt _ _ _ (World.block_lt_of_cell? _ _ ((G.hx HB br)))).trans ((G.hx HB br))⟩ (fun hHeld => ?_); clear hK K; refine G.no 71 ?_; refine G.on 8 72 511 (fun K hK => ?_); refine Kd.R_append_step k51 (w0 := w) w.heap.size (by rfl) (.tmp 65) (.tmp 71) 27 51 (.agg #[(.int .i64 0), (.int .i64 0)]) 16 rfl Tryd.underlying27 info51 rfl (by decide) (by omega) aC aj (⟨(rd_T51 ab ac).f0, (rd_T51 ab ac).f1⟩ : S51) [.int .i64 ((rd_T51 ab ac).f0), .int .i64 ((rd_T51 ab ac).f1)] (fun k_ => k_ ≠ ao) (fun _ => False) rfl rfl ?aP (fun _ hk => hk.elim) ?aF ?aO ?aB ?aS ?aL ?_; (case aP => exact k51_mkM _ _ _ (⟨(rd_T51 ab ac).f0, (rd_T51 ab ac).f1⟩ : S51)); (case aB => exact (G.cB HB.out)); (case aF => exact (fun k_ hk => Kd.freshB (g := ao) (o := .cells #[.int .i64 al, .int .i64 am] 51 (0, 0)) (G.cb ai.out) k_ hk)); (case aO => exact (G.cR ag.out)); (case aS => exact (below_size (G.cB HB.out))); (case aL => have := di.out; omega); intro im fR ho hb hg hat; rw [← dj.out] at ho; have n0 := G.bg aa hg (Kd.R_ne ag.out aa.out (by decide)); have n1 := G.bg ae hg (Kd.R_ne ag.out ae.out (by decide)); have n2 := G.bg af hg (Kd.R_ne ag.out af.out (by decide)); have n3 := G.bg ai hg (Kd.R_away ag.out (fun _ hk => hk)); have n4 := G.m (hb); have n5 := G.m (ho); clear aa ae af ai HB ag; revert n0 n1 n2 n3 n4 n5; intro aa ae af ai HB cr; clear ho hb hg hat; obtain ⟨cU, cW, cX⟩ := Kd.R_slice cr.out; (first | subst cX | (injection cX with bI b2 bJ; have b3 := bI.symm; have b4 := bJ.symm; clear bI b2 bJ; subst b3; subst b4)); refine hK.out _ _ ⟨G.z af 0, G.z af 1, G.z aa 0, G.z aa 1, (G.hx HB bu), (G.hx HB br)⟩ (fun hHeld => ?_); clear hK K; refine G.no 72 ?_; refine G.pu 9 73 1023 ?_; refine G.la 10 (none) (G.fl 11 2047) (fun K hK => ?_); have io : fR.cell? ⟨ak, 1, none⟩ = some (aC) := G.z af 1; have hX := blk_frozen af.out 1; have fo := av.out; have fp := aw.out; have fq := aG.out; have ft := aD.out; have fu := aK.out; have fv := aE.out; refine skip_ (w1 := ?_) (by rfl) rfl ?_ ?_; rotate_left
           ·go_simp
            rfl
           refine hK.out _ _ ?_; clear hK K; refine done_ (done_of HT_.out (caaE)) ?_; try go_wp2
           go_roundg k2
           case measure => have := bO.out; have := bP.out; omega
           case rel => exact ⟨(false), (wrap64 (ac + 1)), (bT), (.slice cU bT.length cW), (caaD), (caaD), H', ⟨by have := bO.out; have := bP.out; omega⟩, ⟨by (with_reducible repeat (first | apply Kd.R_alloc | apply Kd.R_drewN | apply Kd.R_drew)); exact Kd.R_mono (Kd.R_far (p := ⟨ak, 1, none⟩) (Kd.R_types cr.out af.out (by decide)) (fun _ hk => hk.2) (.slice cU bT.length cW)) (fun _ hk => hk.1)⟩, ⟨caaG⟩, ⟨caaH⟩, ⟨caaJ⟩, ⟨caaI⟩, ⟨G.cB HB.out⟩⟩
          ·rw [if_neg cq] at H; exact absurd H (by simp)
        ·rw [if_neg cl] at H; exact absurd H (by simp)
      ·rw [if_neg bQ] at H; have da : decide (ac < (ab.length : Int)) = false := decide_eq_false bQ; clear bQ
       by_cases ct : bA = true
       ·subst ct; have H1 : (some (ah, aj, true)) = some (r1, r2, r3) := by rw [if_pos rfl] at H; exact H
        clear H; have H := H1; clear H1; simp only [Option.some.injEq, Prod.mk.injEq] at H; obtain ⟨rfl, rfl, rfl⟩ := H; have hY := ax.out; have hZ := ay.out; have ia := av.out; have ib := aD.out; have fS := aH.out; have fT := aU.out; have ⟨dy, dz, dA, dB⟩ := G.d2 (w := wr) aa; have fU := aK.out; have fV := aw.out; have fW := aE.out; have fX := aG.out; have ⟨dC, dD, dE, dF⟩ := G.d2 (w := wr) af; have fY := aV.out; have fZ := a9.out; have ⟨dG, dH, dI, dJ⟩ := G.d2 (w := wr) ae; obtain ⟨cu, cv, dl⟩ := Kd.R_slice ag.out; subst dl
        go_wp2; refine bodyPost_ret (results_ct rfl _ _ au 29 #[.int .i64 ah, .slice cu aj.length cv] (0, 0) _ rfl (by (with_reducible repeat (first | refine blk_drewN ?_ _ | refine blk_drew ?_ | refine blk_alloc ?_ _)); refine blk_put (cs := #[.int .i64 ah, .slice none 0 0]) ?_ 1 _ rfl; (with_reducible repeat (first | refine blk_drewN ?_ _ | refine blk_drew ?_ | refine blk_alloc ?_ _)); refine blk_put (cs := #[.int .i64 0, .slice none 0 0]) ?_ 0 _ rfl; (with_reducible repeat (first | refine blk_drewN ?_ _ | refine blk_drew ?_ | refine blk_alloc ?_ _)); exact ae.out) Tryd.underlying29 rfl (caaE)) rfl ?_; exact ⟨_, by first | rfl | (simp [errW_none, errW_some] <;> rfl) | (simp [*, errW_none, errW_some] <;> rfl), by (with_reducible repeat (first | apply Kd.R_alloc | apply Kd.R_drewN | apply Kd.R_drew)); exact Kd.R_mono (Kd.R_far (p := ⟨au, 1, none⟩) (Kd.R_far (p := ⟨au, 0, none⟩) (Kd.R_types ag.out ae.out (by decide)) (fun _ hk => hk.2) (.int .i64 ah)) (fun _ hk => hk.2) (.slice cu aj.length cv)) (fun _ hk => trivial), G.cB HB.out⟩
       ·replace ct := Bool.eq_false_iff.mpr ct; subst ct; have H1 : (if aj.length < 8796093022208 then (some (ah, (aj ++ [(⟨al, am⟩ : S51)]), true)) else (none)) = some (r1, r2, r3) := by rw [if_neg (show ¬ (false = true) by decide)] at H; exact H
        clear H; have H := H1; clear H1
        by_cases bU : aj.length < 8796093022208
        ·rw [if_pos bU] at H; have cY := G.m bU; clear bU; obtain ⟨bV, bF⟩ : ∃ y_ : List (S51), y_ = (aj ++ [(⟨al, am⟩ : S51)]) := ⟨_, rfl⟩; replace H : (some (ah, bV, true)) = some (r1, r2, r3) := by first | (rw [bF]; with_reducible exact H) | (have aW := (Option.bind_some _ _).symm.trans H; rw [bF]; with_reducible exact aW) | (have aW := (Option.bind_some _ _).symm.trans H; with_reducible exact aW) | with_reducible exact H | (rw [bF]; exact H) | exact H
         have dn := G.m bF; clear bF; simp only [Option.some.injEq, Prod.mk.injEq] at H; obtain ⟨rfl, rfl, rfl⟩ := H; have f2 := ax.out; have f3 := ay.out; have f4 := av.out; have f5 := aD.out; have f6 := aH.out; have f7 := aU.out; have ⟨dK, dL, dM, dN⟩ := G.d2 (w := wr) aa; have f8 := aK.out; have f9 := aw.out; have f_ := aE.out; have ga := aG.out; have ⟨dO, dP, dQ, dR⟩ := G.d2 (w := wr) af; have gb := a9.out; have gc := aV.out; have ⟨dS, dT, dU, dV⟩ := G.d2 (w := wr) ai
         go_wp2_with (first | ((with_reducible refine gate_builtin (b := .append) (xs := #[.tmp 77, .tmp 79]) rfl ?_); at_builtin; refine Kd.R_append k51 (w0 := w) w.heap.size rfl (.tmp 77) (.tmp 79) 27 51 (.agg #[(.int .i64 0), (.int .i64 0)]) 16 rfl Tryd.underlying27 info51 rfl (by decide) (by omega) aC aj (⟨al, am⟩ : S51) [.int .i64 al, .int .i64 am] (fun k_ => k_ ≠ ao) (fun _ => False) rfl rfl ?aP (fun _ hk => hk.elim) ?aF ?aO ?aB ?aS ?aL ?_; (case aP => exact k51_mkM _ _ _ (⟨al, am⟩ : S51)); (case aB => exact (G.cB HB.out)); (case aF => exact (fun k_ hk => Kd.freshB (g := ao) (o := .cells #[.int .i64 al, .int .i64 am] 51 (0, 0)) (G.cb ai.out) k_ hk)); (case aO => exact (G.cR ag.out)); (case aS => exact (below_size (G.cB HB.out))); (case aL => have := cY.out; omega); intro ip cZ ho hb hg hat; rw [← dn.out] at ho; have n0 := G.bg aa hg (Kd.R_ne ag.out aa.out (by decide)); have n1 := G.bg ae hg (Kd.R_ne ag.out ae.out (by decide)); have n2 := G.bg af hg (Kd.R_ne ag.out af.out (by decide)); have n3 := G.bg ai hg (Kd.R_away ag.out (fun _ hk => hk)); have n4 := G.m (hb); have n5 := G.m (ho); clear aa ae af ai HB ag; revert n0 n1 n2 n3 n4 n5; intro aa ae af ai HB cw; clear ho hb hg hat; obtain ⟨bW, bX, dp⟩ := Kd.R_slice cw.out; subst dp; have ⟨dW, dX, dY, dZ⟩ := G.d2 (w := cZ) af; have ⟨d7, d8, d9, d_⟩ := G.d2 (w := cZ) ae))
         refine bodyPost_ret (results_ct rfl _ _ au 29 #[.int .i64 ah, .slice bW bV.length bX] (0, 0) _ rfl (by (with_reducible repeat (first | refine blk_drewN ?_ _ | refine blk_drew ?_ | refine blk_alloc ?_ _)); refine blk_put (cs := #[.int .i64 ah, .slice none 0 0]) ?_ 1 _ rfl; (with_reducible repeat (first | refine blk_drewN ?_ _ | refine blk_drew ?_ | refine blk_alloc ?_ _)); refine blk_put (cs := #[.int .i64 0, .slice none 0 0]) ?_ 0 _ rfl; (with_reducible repeat (first | refine blk_drewN ?_ _ | refine blk_drew ?_ | refine blk_alloc ?_ _)); refine blk_far ?_ aw.out _; (with_reducible repeat (first | refine blk_drewN ?_ _ | refine blk_drew ?_ | refine blk_alloc ?_ _)); exact ae.out) Tryd.underlying29 rfl (caaE)) rfl ?_; exact ⟨_, by first | rfl | (simp [errW_none, errW_some] <;> rfl) | (simp [*, errW_none, errW_some] <;> rfl), by (with_reducible repeat (first | apply Kd.R_alloc | apply Kd.R_drewN | apply Kd.R_drew)); exact Kd.R_mono (Kd.R_far (p := ⟨au, 1, none⟩) (Kd.R_far (p := ⟨au, 0, none⟩) (Kd.R_far (p := ⟨ak, 1, none⟩) (Kd.R_types (Kd.R_types cw.out af.out (by decide)) ae.out (by decide)) (fun _ hk => hk.1.2) (.slice bW bV.length bX)) (fun _ hk => hk.2) (.int .i64 ah)) (fun _ hk => hk.2) (.slice bW bV.length bX)) (fun _ hk => trivial), G.cB HB.out⟩
        ·rw [if_neg bU] at H; exact absurd H (by simp)
end Go.Proofs.YtjkeagcenmmknaaDoor.P
