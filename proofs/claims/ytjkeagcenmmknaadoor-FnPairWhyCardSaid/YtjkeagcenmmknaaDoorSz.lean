/- math/bits.TrailingZeros over this program, under its table as the initialiser lays it. -/
import Derived.Test.YtjkeagcenmmknaaDoorGm
import Derived.Test.YtjkeagcenmmknaaDoorProg
import Derived.Deep.WholeRow
import Derived.Shelf.Spec.TrailingZeros
namespace Go.Proofs.YtjkeagcenmmknaaDoor.P
open Go.RowKit Go.Proofs.YtjkeagcenmmknaaDoorW.PrintWords Go.Proofs.YtjkeagcenmmknaaDoorW.PrintLast Go.Proofs.YtjkeagcenmmknaaDoorW.PrintMore Go.Proofs.YtjkeagcenmmknaaDoor.G
set_option linter.unusedSimpArgs false
set_option linter.unusedVariables false

set_option maxHeartbeats 1000000 in
theorem tz64_core (x k idx : Nat) (w : World) (hx0 : ((x : Int) == 0) = false)
    (key : IntKind.u64.wrap (bits BinOp.and IntKind.u64 (x : Int) (IntKind.u64.wrap (-(x : Int))) * 285870213051353865) / 288230376151711744 = (idx : Int))
    (hi : idx < 64) (hk : k < 64) (hcell : w.cell? ⟨1, idx, none⟩ = some (.int .u8 k)) :
    Calls Tryd.prog 91 #[.int .u64 x] w fun e w' => e = .returned (.int .i64 k) ∧ w' = w := by
  go_enter Tryd.func91, Tryd.ntmps91
  go_wp2_with (simp only [key])
  go_ret
  exact ⟨rfl, rfl⟩
theorem tz64_at (x : Nat) (hx : x < 18446744073709551616) (hx0 : x ≠ 0) (w : World) (hT : TabAt 1 Lib.deBruijn64tab w) :
    Calls Tryd.prog 91 #[.int .u64 x] w fun e w' => e = .returned (.int .i64 (Lib.ctz 64 x)) ∧ w' = w := by
  obtain ⟨hlow, hk⟩ := Lib.lowest_bit 64 x hx0 hx
  obtain ⟨hi, htab⟩ := Lib.deBruijn64_at _ hk
  have hcell := hT _ hi
  rw [htab] at hcell
  exact tz64_core x _ _ w (by simp; omega) (tz64_key x _ hx hx0 hlow) hi hk hcell
theorem tz_at (x : Nat) (hx : x < 18446744073709551616) (hx0 : x ≠ 0) (w : World) (hT : TabAt 1 Lib.deBruijn64tab w) :
    Calls Tryd.prog 74 #[.int .u64 x] w fun e w' => e = .returned (.int .i64 (Lib.ctz 64 x)) ∧ w' = w := by
  have c64 := tz64_at x hx hx0 w hT
  have hw : IntKind.u64.wrap (x : Int) = (x : Int) := by rw [IntKind.wrap_u64]; omega
  go_enter Tryd.func74, Tryd.ntmps74
  go_wp2_with (fail)
  refine c64.mono ?_
  rintro e w1 ⟨rfl, hw1⟩
  rw [hw1]
  go_wp2
  go_ret
  exact ⟨rfl, rfl⟩
/-- a tie in memory -/
def zTie : G.Tie := ⟨0, 0⟩
def kTie : Kd G.Tie := Kd.iso (Kd.pair (Kd.int .i64) (Kd.int .i64)) (fun x : G.Tie => (x.f0, x.f1))
def rdTie (xs : List G.Tie) (i : Int) : G.Tie := xs.getD i.toNat zTie
theorem kTie_open {w : World} {x : G.Tie} {cs : List Value} (h : kTie.K w x cs) : cs = [.int .i64 x.f0, .int .i64 x.f1] := by
  obtain ⟨_, _, rfl, rfl, rfl⟩ := h
  exact rfl
theorem atTie {w : World} {A : Option Addr} {n : Nat} {xs : List G.Tie} (h : Kd.C kTie w A n xs) (i : Int) (h0 : 0 ≤ i) (h1 : i < n) : ∃ ad , A = some ad ∧ w.cell? (ad.add (i.toNat * 2)) = some (.int .i64 (rdTie xs i).f0) ∧ w.cell? ⟨(ad.add (i.toNat * 2)).block, (ad.add (i.toNat * 2)).off + 1, none⟩ = some (.int .i64 (rdTie xs i).f1) := by
  obtain ⟨ad, c, e, _, hK, hc0⟩ := Kd.C_get h zTie i h0 h1
  have hc : ∀ j u, c[j]? = some u → w.cell? (ad.add (i.toNat * 2 + j)) = some u := hc0
  obtain rfl := kTie_open hK
  exact ⟨ad, e, hc 0 _ rfl, by rw [← add_field _ _ 1 (by omega)]; exact hc 1 _ rfl⟩
/-- what the table holds -/
def szCells (T : List Int) : Array Value := (T.map (Value.int .i64)).toArray
set_option maxRecDepth 100000 in
theorem sz_zero : Tryd.zeroCells83 = szCells (List.replicate 256 0) := by kernel_rfl
/-- both ends of a tie, as bits -/
def szTwo (t : G.Tie) : Nat := 2 ^ t.f0.toNat ||| 2 ^ t.f1.toNat
def szMax (a b : Int) : Int := if a < b then b else a
def szStep (s : Nat) (T : List Int) (t : G.Tie) : List Int :=
  if t.f0 = (Lib.ctz 64 s : Int) ∧ s &&& szTwo t = szTwo t then T.set s (szMax (rd T s) (wrap64 (rd T ((s ^^^ szTwo t : Nat) : Int) + 1))) else T
def szRound (l : List G.Tie) (s : Nat) (T : List Int) : List Int := l.foldl (szStep s) (T.set s (rd T ((s &&& (s - 1) : Nat) : Int)))
def szT (l : List G.Tie) : Nat → List Int
  | 0 => List.replicate 256 0
  | n + 1 => szRound l (n + 1) (szT l n)
theorem szStep_len (s : Nat) (T : List Int) (t : G.Tie) : (szStep s T t).length = T.length := by unfold szStep; split <;> simp
theorem szFold_len (s : Nat) (l : List G.Tie) : ∀ T : List Int, (l.foldl (szStep s) T).length = T.length := by
  induction l with
  | nil => intro T; rfl
  | cons t r ih => intro T; rw [List.foldl_cons, ih, szStep_len]
theorem szT_len (l : List G.Tie) : ∀ n, (szT l n).length = 256
  | 0 => List.length_replicate
  | n + 1 => by show (szRound l (n + 1) (szT l n)).length = 256; unfold szRound; rw [szFold_len, List.length_set, szT_len l n]
theorem sz_at {T : List Int} {i : Nat} (h : i < T.length) : (szCells T)[i]? = some (.int .i64 (rd T (i : Int))) := by
  unfold szCells rd
  simp [h, List.getD_eq_getElem?_getD]
theorem sz_set (T : List Int) (i : Nat) (x : Int) : (szCells T).setIfInBounds i (.int .i64 x) = szCells (T.set i x) := by
  unfold szCells
  simp [List.map_set]
theorem wraps_i64 (n : Int) (h₀ : 0 ≤ n) (h₁ : n < 2 ^ 62) : IntKind.i64.wrap n = n := by rw [IntKind.wrap_i64]; omega
theorem sz_and (a b : Nat) (ha : a < 256) (hb : b < 256) : bits .and .i64 (a : Int) (b : Int) = ((a &&& b : Nat) : Int) :=
  (bits_nat .i64 62 (by decide) wraps_i64 a b (by omega) (by omega)).1
theorem sz_or (a b : Nat) (ha : a < 256) (hb : b < 256) : bits .or .i64 (a : Int) (b : Int) = ((a ||| b : Nat) : Int) :=
  (bits_nat .i64 62 (by decide) wraps_i64 a b (by omega) (by omega)).2
theorem sz_pow (a : Int) (h0 : 0 ≤ a) (h : a < 8) : wrap64 (2 ^ a.toNat) = ((2 ^ a.toNat : Nat) : Int) ∧ 2 ^ a.toNat < 256 := by
  have e : a.toNat < 8 := by omega
  generalize a.toNat = n at e ⊢
  have h : ∀ n : Nat, n < 8 → 2 ^ n < 256 := by decide
  have hn := h n e
  refine ⟨?_, hn⟩
  rw [show ((2 : Int) ^ n) = ((2 ^ n : Nat) : Int) from by simp]
  generalize 2 ^ n = m at hn ⊢
  unfold wrap64
  omega
theorem szTwo_lt (t : G.Tie) (h : 0 ≤ t.f0 ∧ t.f0 < t.f1 ∧ t.f1 < 8) : szTwo t < 256 :=
  Nat.or_lt_two_pow (n := 8) (sz_pow t.f0 h.1 (by omega)).2 (sz_pow t.f1 (by omega) h.2.2).2
theorem sz_two (t : G.Tie) (h : 0 ≤ t.f0 ∧ t.f0 < t.f1 ∧ t.f1 < 8) : bits .or .i64 (wrap64 (2 ^ t.f0.toNat)) (wrap64 (2 ^ t.f1.toNat)) = (szTwo t : Int) := by
  obtain ⟨a1, a2⟩ := sz_pow t.f0 h.1 (by omega)
  obtain ⟨b1, b2⟩ := sz_pow t.f1 (by omega) h.2.2
  rw [a1, b1, sz_or _ _ a2 b2]
  rfl
theorem sz_andNot (a b : Nat) (ha : a < 256) (hb : b < 256) (h : a &&& b = b) : bits .andNot .i64 (a : Int) (b : Int) = ((a ^^^ b : Nat) : Int) := by
  have ea : (BitVec.ofInt 64 (a : Int)).toNat = a := by
    rw [BitVec.ofInt_natCast, BitVec.toNat_ofNat]; exact Nat.mod_eq_of_lt (by omega)
  have eb : (BitVec.ofInt 64 (b : Int)).toNat = b := by
    rw [BitVec.ofInt_natCast, BitVec.toNat_ofNat]; exact Nat.mod_eq_of_lt (by omega)
  show IntKind.i64.wrap ((BitVec.ofInt 64 (a : Int) &&& ~~~BitVec.ofInt 64 (b : Int)).toNat : Int) = _
  have e : (BitVec.ofInt 64 (a : Int) &&& ~~~BitVec.ofInt 64 (b : Int)).toNat = a ^^^ b := by
    rw [BitVec.toNat_and, BitVec.toNat_not, ea, eb]
    apply Nat.eq_of_testBit_eq
    intro j
    rw [Nat.testBit_and, show 2 ^ 64 - 1 - b = 2 ^ 64 - (b + 1) from by omega, Nat.testBit_two_pow_sub_succ (by omega), Nat.testBit_xor]
    have hj := congrArg (fun n => n.testBit j) h
    simp only [Nat.testBit_and] at hj
    by_cases q : j < 64
    · cases ha' : a.testBit j <;> cases hb' : b.testBit j <;> simp_all
    · have a0 : a.testBit j = false := Nat.testBit_lt_two_pow (Nat.lt_of_lt_of_le ha (Nat.le_trans (by decide : 256 ≤ 2 ^ 8) (Nat.pow_le_pow_right (by decide) (by omega))))
      have b0 : b.testBit j = false := Nat.testBit_lt_two_pow (Nat.lt_of_lt_of_le hb (Nat.le_trans (by decide : 256 ≤ 2 ^ 8) (Nat.pow_le_pow_right (by decide) (by omega))))
      simp [a0, b0]
  rw [e]
  have : a ^^^ b < 2 ^ 8 := Nat.xor_lt_two_pow ha hb
  exact wraps_i64 _ (by omega) (by omega)
theorem sz_xor_lt (a b : Nat) (ha : a < 256) (hb : b < 256) : a ^^^ b < 256 := Nat.xor_lt_two_pow (n := 8) ha hb
theorem sz_next (l0 : List G.Tie) (i : Nat) (hi : i < l0.length) (s : Nat) (T1 : List Int) : (l0.take (i + 1)).foldl (szStep s) T1 = szStep s ((l0.take i).foldl (szStep s) T1) l0[i] := by
  rw [List.take_add_one, List.getElem?_eq_getElem hi, List.foldl_append]
  rfl
set_option maxHeartbeats 4000000 in
set_option maxRecDepth 100000 in
theorem sz_walk (A0 : Option Addr) (c0 : Nat) (l0 : List G.Tie) (w : World) (hr0 : Kd.C kTie w A0 l0.length l0) (hc0 : l0.length ≤ c0) (hne : ((l0.length : Int) == 0) = false)
    (good : ∀ t ∈ l0, 0 ≤ t.f0 ∧ t.f0 < t.f1 ∧ t.f1 < 8) (hT0 : TabAt 1 Lib.deBruijn64tab w) :
    Calls Tryd.prog 49 #[.slice A0 l0.length c0] w fun e w' => e = .returned (.int .i64 (rd (szT l0 255) 255)) ∧ Below w.heap.size w w' := by
  have hu51 := Tryd.underlying51
  have wz : ∀ (i : Nat) (z : Int), z = (i : Int) → i < l0.length → wrap64 (z + 1) = ((i + 1 : Nat) : Int) := by
    intro i z hz hi
    have := hr0.2.1
    rw [hz]
    unfold wrap64
    omega
  have HR0 := Aside0.mk hr0
  have HC0 := Aside0.mk hc0
  clear hr0 hc0
  have HT := Aside0.mk hT0
  clear hT0
  have HB := Aside0.mk (Below.refl w.heap.size w)
  have GD := Aside0.mk good
  clear good
  go_enter Tryd.func49, Tryd.ntmps49
  have hst : (storeCells ⟨w.heap.size, 0, none⟩ Tryd.zeroCells83.toList).run Tryd.prog (w.alloc (Obj.cells Tryd.zeroCells83 83)) = .ok () (w.alloc (Obj.cells Tryd.zeroCells83 83)) :=
    run_storeCells_new w 83 Tryd.zeroCells83 Tryd.zeroCells83 (by kernel_rfl) rfl (by kernel_rfl)
  go_wp2
  clear hst
  have n0_ : Aside0 ((w.alloc (Obj.cells Tryd.zeroCells83 83)).heap[w.heap.size]? = some (.cells (szCells (szT l0 0)) 83 (0, 0))) := ⟨by rw [← show Tryd.zeroCells83 = szCells (szT l0 0) from sz_zero]; exact heap_alloc_last w _⟩
  have n1_ : Aside0 (Below w.heap.size w (w.alloc (Obj.cells Tryd.zeroCells83 83))) := ⟨G.cB HB.out⟩
  clear HB
  generalize (w.alloc (Obj.cells Tryd.zeroCells83 83)) = w1 at n0_ n1_ ⊢
  revert n0_ n1_
  intro BM HB
  go_loopg [4] 255 (fun kq v4 w' => ∃ (s : Nat) (x : Int), v4 = .int .i64 x ∧ Aside0 (x = ((s + 1 : Nat) : Int) ∧ s + kq = 255) ∧ Aside0 (w'.heap[w.heap.size]? = some (.cells (szCells (szT l0 s)) 83 (0, 0))) ∧ Aside0 (Below w.heap.size w w'))
  case atStart => exact ⟨0, 1, rfl, ⟨rfl, rfl⟩, BM, HB⟩
  case round =>
    clear BM HB
    obtain ⟨s, x, rfl, HS, BM, HB⟩ := hrel
    cases gk with
    | zero =>
      have hs : s = 255 := by have := HS.out.2; omega
      subst hs
      have hx : x = 256 := HS.out.1
      subst hx
      have hld : wr.cell? ⟨w.heap.size, 255, none⟩ = some (.int .i64 (rd (szT l0 255) 255)) := (blk_cell BM.out 255).trans (sz_at (by rw [szT_len]; decide))
      go_wp2
      go_ret
      exact ⟨rfl, HB.out⟩
    | succ k1 =>
      have hx0 : 1 ≤ x ∧ x < 256 := by have := HS.out; omega
      have lt : decide (x < 256) = true := decide_eq_true hx0.2
      have hw : IntKind.u64.wrap x = x := by rw [IntKind.wrap_u64]; omega
      go_wp2_with (fail)
      have c74 := tz_at (s + 1) (by have := HS.out; omega) (by omega) wr (fun j hj => (HB.out.cell (World.block_lt_of_cell? _ _ (HT.out j hj))).trans (HT.out j hj))
      rw [show (((s + 1 : Nat) : Int)) = x from HS.out.1.symm] at c74
      refine c74.mono ?_
      rintro e w2 ⟨rfl, hw2⟩
      rw [hw2]
      clear hw2
      obtain ⟨y, hy⟩ : ∃ y : Nat, y = (s + 1) &&& s := ⟨_, rfl⟩
      have hy1 : y < 256 := by rw [hy]; exact Nat.lt_of_le_of_lt Nat.and_le_right (by have := HS.out; omega)
      have hand : bits .and .i64 x (x - 1) = (y : Int) := by
        rw [HS.out.1, show (((s + 1 : Nat) : Int) - 1) = (s : Int) from by omega, hy]
        exact sz_and _ _ (by have := HS.out; omega) (by have := HS.out; omega)
      have hld : wr.cell? ⟨w.heap.size, y, none⟩ = some (.int .i64 (rd (szT l0 s) (y : Int))) := (blk_cell BM.out y).trans (sz_at (by rw [szT_len]; exact hy1))
      have hy1b : decide ((y : Int) < 256) = true := decide_eq_true (by omega)
      have hcl : wr.cell? ⟨w.heap.size, x.toNat, none⟩ = some (.int .i64 (rd (szT l0 s) x)) := by
        have e : x = ((x.toNat : Nat) : Int) := by omega
        have := (blk_cell BM.out x.toNat).trans (sz_at (T := szT l0 s) (i := x.toNat) (by rw [szT_len]; omega))
        rw [← e] at this
        exact this
      have hfz := blk_frozen BM.out x.toNat
      have hx0b : decide (0 ≤ x) = true := decide_eq_true (by omega)
      have HY := Aside0.mk hy
      clear hy
      go_wp2
      obtain ⟨T1, hT1⟩ : ∃ T1 : List Int, T1 = (szT l0 s).set (s + 1) (rd (szT l0 s) ((((s + 1) &&& s : Nat)) : Int)) := ⟨_, rfl⟩
      have HT1 := Aside0.mk hT1
      clear hT1
      have n0_ : Aside0 ((wr.setCell ⟨w.heap.size, x.toNat, none⟩ (.int .i64 (rd (szT l0 s) (y : Int)))).heap[w.heap.size]? = some (.cells (szCells T1) 83 (0, 0))) :=
        ⟨blk_put BM.out x.toNat _ (by rw [sz_set, HT1.out, HY.out, show x.toNat = s + 1 from by have := HS.out; omega])⟩
      have n1_ : Aside0 (Below w.heap.size w (wr.setCell ⟨w.heap.size, x.toNat, none⟩ (.int .i64 (rd (szT l0 s) (y : Int))))) := ⟨below_set HB.out (Nat.le_refl _)⟩
      clear BM HB hcl hfz hld hand hy1b HY hy1
      generalize (wr.setCell ⟨w.heap.size, x.toNat, none⟩ (.int .i64 (rd (szT l0 s) (y : Int)))) = w3 at n0_ n1_ ⊢
      revert n0_ n1_
      intro BM HB
      generalize hlw : ((Lib.ctz 64 (s + 1) : Nat) : Int) = lw
      have HL := Aside0.mk hlw
      clear hlw c74
      have TL := Aside0.mk (show T1.length = 256 from by rw [HT1.out, List.length_set, szT_len])
      go_loopg [30] l0.length (fun kq v30 w' => ∃ (i : Nat) (z : Int), v30 = .int .i64 z ∧ Aside0 (z = (i : Int) ∧ i + kq = l0.length) ∧ Aside0 (w'.heap[w.heap.size]? = some (.cells (szCells ((l0.take i).foldl (szStep (s + 1)) T1)) 83 (0, 0))) ∧ Aside0 (Below w.heap.size w w'))
      case atStart => exact ⟨0, 0, rfl, ⟨rfl, by simp⟩, BM, HB⟩
      case round =>
        clear BM HB
        obtain ⟨i, z, rfl, HI, BM, HB⟩ := hrel
        cases gk with
        | zero =>
          have hz : decide (z < (l0.length : Int)) = false := decide_eq_false (by have := HI.out; omega)
          go_wp2
          go_roundg k1
          case measure => omega
          case rel =>
            refine ⟨s + 1, _, rfl, ⟨?_, ?_⟩, ?_, HB⟩
            · rw [HS.out.1]; omega
            · have := HS.out.2; omega
            · have e : (l0.take i) = l0 := List.take_of_length_le (by have := HI.out; omega)
              have b := BM.out
              rw [e, HT1.out] at b
              exact ⟨b⟩
        | succ k2 =>
          have hlen : z < (l0.length : Int) := by have := HI.out; omega
          have hz : decide (z < (l0.length : Int)) = true := decide_eq_true hlen
          have hz0 : 0 ≤ z := by have := HI.out; omega
          have hz1 : decide (0 ≤ z) = true := decide_eq_true hz0
          obtain ⟨ad, ead, hx_0, hx_1⟩ := atTie HR0.out z hz0 hlen
          cases ead
          replace hx_0 := (HB.out.cell (World.block_lt_of_cell? w _ hx_0)).trans hx_0
          replace hx_1 := (HB.out.cell (World.block_lt_of_cell? w _ hx_1)).trans hx_1
          obtain ⟨t, ht⟩ : ∃ t, rdTie l0 z = t := ⟨_, rfl⟩
          rw [ht] at hx_0 hx_1
          have HE := Aside0.mk ht
          clear ht
          replace hz0 := eq_true hz0
          replace hlen := eq_true hlen
          go_wp2_with (first | ((with_reducible refine gate_dst (N := 7) rfl ?_); refine G.be 7 #[.int .i64 0, .int .i64 0] 51 ?_; intro gb hg w4 hbox hb; have n0_ := Aside0.mk (blk_below (G.cb BM.out) hb); have n1_ := Aside0.mk (below_step (G.cB HB.out) hb); have n2_ := Aside0.mk hbox; have n3_ : Aside0 (w.heap.size < gb) := ⟨by rw [hg]; exact blk_lt (G.cb BM.out)⟩; clear BM HB; revert n0_ n1_ n2_ n3_; intro BM HB BT GB; clear hb hbox hg; have hcz0 : w4.cell? ⟨gb, 0, none⟩ = some (.int .i64 0) := (blk_cell BT.out 0).trans rfl; have hcz1 : w4.cell? ⟨gb, 1, none⟩ = some (.int .i64 0) := (blk_cell BT.out 1).trans rfl; have hfz0 := blk_frozen BT.out 0; have hfz1 := blk_frozen BT.out 1))
          clear hcz0 hcz1 hfz0 hfz1 hx_0 hx_1
          have n0_ : Aside0 (((w4.setCell ⟨gb, 0, none⟩ (.int .i64 t.f0)).setCell ⟨gb, 1, none⟩ (.int .i64 t.f1)).heap[w.heap.size]? = some (.cells (szCells ((l0.take i).foldl (szStep (s + 1)) T1)) 83 (0, 0))) := ⟨blk_far (blk_far BM.out (by have := GB.out; simp; omega) _) (by have := GB.out; simp; omega) _⟩
          have n1_ : Aside0 (((w4.setCell ⟨gb, 0, none⟩ (.int .i64 t.f0)).setCell ⟨gb, 1, none⟩ (.int .i64 t.f1)).heap[gb]? = some (.cells #[.int .i64 t.f0, .int .i64 t.f1] 51 (0, 0))) := ⟨blk_put (cs := #[.int .i64 t.f0, .int .i64 0]) (blk_put BT.out 0 _ rfl) 1 _ rfl⟩
          have n2_ : Aside0 (Below w.heap.size w ((w4.setCell ⟨gb, 0, none⟩ (.int .i64 t.f0)).setCell ⟨gb, 1, none⟩ (.int .i64 t.f1))) := ⟨below_set (below_set HB.out (by have := GB.out; omega)) (by have := GB.out; omega)⟩
          clear BM BT HB
          generalize ((w4.setCell ⟨gb, 0, none⟩ (.int .i64 t.f0)).setCell ⟨gb, 1, none⟩ (.int .i64 t.f1)) = w5 at n0_ n1_ n2_ ⊢
          revert n0_ n1_ n2_
          intro BM BT HB
          have ft := GD.out t (by rw [← HE.out]; unfold rdTie; rw [List.getD_eq_getElem?_getD, List.getElem?_eq_getElem (by have := HI.out; omega)]; exact List.getElem_mem _)
          have ti : l0[i]'(by have := HI.out; omega) = t := by
            rw [← HE.out]
            unfold rdTie
            rw [show z.toNat = i from by have := HI.out; omega, List.getD_eq_getElem?_getD, List.getElem?_eq_getElem (by have := HI.out; omega)]
            rfl
          have h0a : decide (0 ≤ t.f0) = true := decide_eq_true ft.1
          have h0b : decide (0 ≤ t.f1) = true := decide_eq_true (by omega)
          have hcz0 : w5.cell? ⟨gb, 0, none⟩ = some (.int .i64 t.f0) := (blk_cell BT.out 0).trans rfl
          have hcz1 : w5.cell? ⟨gb, 1, none⟩ = some (.int .i64 t.f1) := (blk_cell BT.out 1).trans rfl
          go_quiet (fail)
          have hvt := sz_two t ft
          have hvl := szTwo_lt t ft
          obtain ⟨v, hv⟩ : ∃ v : Nat, v = szTwo t := ⟨_, rfl⟩
          rw [← hv] at hvt hvl
          have HV := Aside0.mk hv
          clear hv
          rw [hvt]
          clear hvt
          have n0_ := Aside0.mk (blk_drewN BM.out nq)
          have n1_ := Aside0.mk (blk_drewN BT.out nq)
          have n2_ := Aside0.mk (pw_below_drewN HB.out nq)
          clear BM BT HB hcz0 hcz1
          generalize w5.drewN nq = w6 at n0_ n1_ n2_ ⊢
          revert n0_ n1_ n2_
          intro BM BT HB
          have hcz0 : w6.cell? ⟨gb, 0, none⟩ = some (.int .i64 t.f0) := (blk_cell BT.out 0).trans rfl
          have hcz1 : w6.cell? ⟨gb, 1, none⟩ = some (.int .i64 t.f1) := (blk_cell BT.out 1).trans rfl
          have hxv : bits .and .i64 x (v : Int) = (((s + 1) &&& v : Nat) : Int) := by rw [HS.out.1]; exact sz_and _ _ (by have := HS.out; omega) hvl
          by_cases cA : t.f0 = lw
          · have cAb : (t.f0 == lw) = true := beq_iff_eq.2 cA
            by_cases cB : (s + 1) &&& v = v
            · have cBb : (bits .and .i64 x (v : Int) == (v : Int)) = true := by rw [hxv, cB]; simp
              have hxv2 := Aside0.mk hxv
              clear hxv
              have cA2 := Aside0.mk cA
              have cB2 := Aside0.mk cB
              clear cA cB
              go_wp2
              obtain ⟨T, hT⟩ : ∃ T, T = (l0.take i).foldl (szStep (s + 1)) T1 := ⟨_, rfl⟩
              rw [← hT] at BM
              have HTT := Aside0.mk hT
              clear hT
              have tl : T.length = 256 := by rw [HTT.out, szFold_len, TL.out]
              obtain ⟨u, hu⟩ : ∃ u : Nat, u = (s + 1) ^^^ v := ⟨_, rfl⟩
              have hul : u < 256 := by rw [hu]; exact sz_xor_lt _ _ (by have := HS.out; omega) hvl
              have hnot : bits .andNot .i64 x (v : Int) = (u : Int) := by rw [HS.out.1, hu]; exact sz_andNot _ _ (by have := HS.out; omega) hvl cB2.out
              have HU := Aside0.mk hu
              clear hu
              have hd0 : w6.cell? ⟨w.heap.size, u, none⟩ = some (.int .i64 (rd T (u : Int))) := (blk_cell BM.out u).trans (sz_at (by rw [tl]; exact hul))
              have hulp : ((u : Int) < 256) = True := eq_true (by omega)
              have hd1 : w6.cell? ⟨w.heap.size, x.toNat, none⟩ = some (.int .i64 (rd T x)) := by
                have e : x = ((x.toNat : Nat) : Int) := by omega
                have := (blk_cell BM.out x.toNat).trans (sz_at (T := T) (i := x.toNat) (by rw [tl]; omega))
                rw [← e] at this
                exact this
              have hfz := blk_frozen BM.out x.toNat
              have HTL := Aside0.mk tl
              clear tl
              have hx0p : (0 ≤ x) = True := eq_true (by omega)
              have hx1p : (x < 256) = True := eq_true hx0.2
              obtain ⟨q, hq⟩ : ∃ q : Int, (if rd T x < wrap64 (rd T (u : Int) + 1) then wrap64 (rd T (u : Int) + 1) else rd T x) = q := ⟨_, rfl⟩
              refine start_ (n := 13) (S := fun w' => w'.cell? ⟨w.heap.size, x.toNat, none⟩ = some (.int .i64 (rd T x)) ∧ w'.cell? ⟨w.heap.size, u, none⟩ = some (.int .i64 (rd T (u : Int)))) (ds := [12]) (G.fl 13 0) (by kernel_rfl) rfl (by kernel_rfl) ⟨hd1, hd0⟩ (fun hHeld => ?_)
              have n0_ := Aside0.mk (blk_drew BM.out)
              have n1_ := Aside0.mk (blk_drew BT.out)
              have n2_ := Aside0.mk (below_drew1 HB.out)
              have hfz7 : w6.drew.frozen? ⟨w.heap.size, x.toNat, none⟩ = false := hfz
              clear BM BT HB hcz0 hcz1 hd0 hd1 hfz
              generalize w6.drew = w7 at n0_ n1_ n2_ hfz7 hHeld ⊢
              revert n0_ n1_ n2_
              intro BM BT HB
              refine G.pu 0 52 1 ?_
              refine G.pu 1 53 3 ?_
              refine G.pu 2 54 7 ?_
              refine G.pu 4 56 23 ?_
              refine G.pu 5 57 55 ?_
              refine G.pu 6 58 119 ?_
              refine G.pu 7 59 247 ?_
              refine G.ta2 3 55 255 ?_
              refine G.ta2 8 60 511 ?_
              refine G.pu 9 61 1023 ?_
              refine G.pu 10 62 2047 ?_
              refine G.pu 11 63 4095 ?_
              refine last_ (i := 12) (N := none) (G.fl 13 8191) rfl rfl (by kernel_rfl) (by decide) (fun K hK => ?_)
              refine skip_ (w1 := ?_) (by rfl) rfl ?_ ?_
              rotate_left
              · go_simp
                rfl
              refine hK.out _ _ ?_
              clear hK K
              refine done_ (by kernel_rfl) ?_
              try go_wp2
              go_roundg k2
              case measure => omega
              case rel =>
                refine ⟨i + 1, _, rfl, ⟨?_, ?_⟩, ⟨?_⟩, ⟨below_set HB.out (Nat.le_refl _)⟩⟩
                · exact (wz i z HI.out.1 (by have := HI.out.2; omega)).trans rfl
                · have := HI.out.2; omega
                · refine blk_put BM.out x.toNat _ ?_
                  rw [sz_set, sz_next l0 i (by have := HI.out; omega), ← HTT.out, ti, show x.toNat = s + 1 from by have := HS.out; omega]
                  unfold szStep
                  rw [if_pos ⟨by rw [cA2.out]; exact HL.out.symm, by rw [← HV.out]; exact cB2.out⟩, ← HV.out, ← HU.out, ← hq]
                  unfold szMax
                  rw [HS.out.1]
            · have cBb : (bits .and .i64 x (v : Int) == (v : Int)) = false := by rw [hxv]; exact beq_eq_false_iff_ne.2 (fun e => cB (Int.ofNat_inj.1 e))
              clear hxv
              have cA2 := Aside0.mk cA
              have cB2 := Aside0.mk cB
              clear cA cB
              go_wp2
              go_roundg k2
              case measure => omega
              case rel =>
                refine ⟨i + 1, _, rfl, ⟨?_, ?_⟩, ⟨?_⟩, HB⟩
                · exact (wz i z HI.out.1 (by have := HI.out.2; omega)).trans rfl
                · have := HI.out.2; omega
                · rw [sz_next l0 i (by have := HI.out; omega), ti]
                  unfold szStep
                  rw [if_neg (by rw [← HV.out]; exact fun h => cB2.out h.2)]
                  exact BM.out
          · have cAb : (t.f0 == lw) = false := beq_eq_false_iff_ne.2 cA
            clear hxv
            have cA2 := Aside0.mk cA
            clear cA
            go_wp2
            go_roundg k2
            case measure => omega
            case rel =>
              refine ⟨i + 1, _, rfl, ⟨?_, ?_⟩, ⟨?_⟩, HB⟩
              · exact (wz i z HI.out.1 (by have := HI.out.2; omega)).trans rfl
              · have := HI.out.2; omega
              · rw [sz_next l0 i (by have := HI.out; omega), ti]
                unfold szStep
                rw [if_neg (by rw [HL.out]; exact fun h => cA2.out h.1)]
                exact BM.out
def szGood (l : List G.Tie) : Prop := ∀ t ∈ l, 0 ≤ t.f0 ∧ t.f0 < t.f1 ∧ t.f1 < 8
instance (l : List G.Tie) : Decidable (szGood l) := by unfold szGood; infer_instance
/-- How many pairs at most: what size answers. -/
def szOf (l : List G.Tie) : Option Int := if szGood l then some (rd (szT l 255) 255) else none
set_option maxRecDepth 100000 in
theorem szT_nil : rd (szT [] 255) 255 = 0 := by
  have z : ∀ n, szT [] n = List.replicate 256 0 := by
    intro n
    induction n with
    | zero => rfl
    | succ n ih =>
      show szRound [] (n + 1) (szT [] n) = _
      rw [ih]
      unfold szRound
      rw [List.foldl_nil]
      apply List.ext_getElem?
      intro i
      rw [List.getElem?_set]
      by_cases h : n + 1 = i
      · subst h
        by_cases h2 : n + 1 < 256
        · rw [if_pos rfl, if_pos (by simpa using h2), List.getElem?_replicate, if_pos h2]
          unfold rd
          rw [List.getD_eq_getElem?_getD, List.getElem?_replicate]
          split <;> rfl
        · rw [if_pos rfl, if_neg (by simpa using h2), List.getElem?_eq_none (by simp; omega)]
      · rw [if_neg h]
  rw [z]
  unfold rd
  rw [List.getD_eq_getElem?_getD, List.getElem?_replicate]
  split <;> rfl
set_option maxHeartbeats 1000000 in
theorem sz_none (A0 : Option Addr) (c0 : Nat) (w : World) : Calls Tryd.prog 49 #[.slice A0 0 c0] w fun e w' => e = .returned (.int .i64 0) ∧ Below w.heap.size w w' := by
  go_enter Tryd.func49, Tryd.ntmps49
  go_wp2
  go_ret
  exact ⟨rfl, Below.refl _ _⟩
theorem sz_calls (A0 : Option Addr) (c0 : Nat) (l0 : List G.Tie) (r : Int) (w : World) (hr0 : Kd.C kTie w A0 l0.length l0) (hc0 : l0.length ≤ c0) (h : szOf l0 = some r) (hT : TabAt 1 Lib.deBruijn64tab w) :
    Calls Tryd.prog 49 #[.slice A0 l0.length c0] w fun e w' => e = .returned (.int .i64 r) ∧ Below w.heap.size w w' := by
  unfold szOf at h
  split at h
  · rename_i hg
    injection h with h
    subst h
    by_cases e : l0 = []
    · subst e
      rw [szT_nil]
      exact sz_none A0 c0 w
    · exact sz_walk A0 c0 l0 w hr0 hc0 (by rw [beq_eq_false_iff_ne]; intro h; exact e (List.length_eq_zero_iff.1 (by omega))) hg hT
  · cases h
theorem lay {w w1 : World} (hT : TabAt 1 Lib.deBruijn64tab w) (hb : Below w.heap.size w w1) : TabAt 1 Lib.deBruijn64tab w1 :=
  fun j hj => (hb.cell (World.block_lt_of_cell? _ _ (hT j hj))).trans (hT j hj)
end Go.Proofs.YtjkeagcenmmknaaDoor.P
