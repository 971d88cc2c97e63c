/- The proof's parts ahead of the row: of no condition of their own. -/
import Derived.Test.YtjkeagcenmmknaaDoorZFnPairTie4
import Derived.Deep.Slices
import Derived.ProofKit
import Derived.Test.YtjkeagcenmmknaaDoorRows
import Derived.LaidMore
import Derived.LaidHandle
import Derived.OpenShut
import Derived.Lib.LaidTab
import Derived.Stop.LaidErr
import Derived.Stop.Joined
set_option linter.unusedVariables false
set_option linter.unusedSimpArgs false
namespace Go.Proofs.YtjkeagcenmmknaaDoor.G
def tieOf (a b : Int) : Tie := if a < b then ⟨a, b⟩ else ⟨b, a⟩
end Go.Proofs.YtjkeagcenmmknaaDoor.G
namespace Go.Proofs.YtjkeagcenmmknaaDoor.P
open Go.RowKit Go.Proofs.YtjkeagcenmmknaaDoorW.PrintWords Go.Proofs.YtjkeagcenmmknaaDoor.G
theorem rdH_mid (pre : List S51) (t : S51) (suf : List S51) : rd_T51 (pre ++ t :: suf) (pre.length : Int) = t := by
 unfold rd_T51; exact getD_mid pre t suf _
theorem l1Tie_eq (a b : Int) : spec_l1Tie.f a b = some ((tieOf a b).f0, (tieOf a b).f1) := by
 unfold spec_l1Tie.f tieOf
 by_cases h : a < b <;> simp [h]
theorem tie_beq (s t : Tie) : (s.f0 == t.f0 && (s.f1 == t.f1)) = decide (s = t) := by
 obtain ⟨a, b⟩ := s
 obtain ⟨c, d⟩ := t
 simp only [Tie.mk.injEq]
 by_cases h : a = c <;> by_cases k : b = d <;> simp [h, k]
theorem l1Has_l0 (n a b : Int) : ∀ (suf p : List S51), ((p ++ suf).length : Int) < big →
  Ev (fun k => spec_l1Has.l0 k a b (p.length : Int) n (p ++ suf)) (decide (tieOf a b ∈ suf)) := by
 intro suf
 induction suf with
 | nil =>
  intro p hb
  refine Ev.step (fun k => by simp only [spec_l1Has.l0, nlt_end, if_false] <;> exact rfl) ?_
  exact Ev.val (congrArg some (decide_eq_false (by simp)).symm)
 | cons t suf ih =>
  intro p hb
  have hp : (p.length : Int) < big := len_mid hb
  refine Ev.step (fun k => by simp only [spec_l1Has.l0, lt_mid, nn, if_true, rdH_mid, w_succ (t := t) hp, l1Tie_eq, Option.bind_some, tie_beq, decide_eq_true_eq] <;> exact rfl) ?_
  by_cases c : t = tieOf a b
  ·simp only [if_pos c]
   exact Ev.val (congrArg some (decide_eq_true (by simp [c])).symm)
  ·simp only [if_neg c]
   rw [app_one p t suf]
   refine Ev.eq (ih (p ++ [t]) (len_app hb)) ?_
   rw [decide_eq_decide]
   have : ¬ tieOf a b = t := fun e => c e.symm
   simp [this]
theorem l1Has_ev (n a b : Int) (E : List S51) (hb : (E.length : Int) < big) : Ev (fun k => spec_l1Has.f k n E a b) (decide (tieOf a b ∈ E)) := by
 unfold spec_l1Has.f
 exact l1Has_l0 n a b E [] hb
end Go.Proofs.YtjkeagcenmmknaaDoor.P
namespace Go.Proofs.YtjkeagcenmmknaaDoor.G
def cut (X : List Tie) (t : Tie) : List Tie := X.filter fun s => !decide (s = t)
def ties : List Int → List Tie
 | a :: b :: r => tieOf a b :: ties (b :: r)
 | _ => []
def cuts : List Tie → List Tie → Prop
 | _, [] => True
 | X, t :: r => t ∈ X ∧ cuts (cut X t) r
instance cuts_dec : (X T : List Tie) → Decidable (cuts X T)
 | _, [] => isTrue trivial
 | X, t :: r => by
  have := cuts_dec (cut X t) r
  unfold cuts
  infer_instance
def trailOk (n : Int) (E : List Tie) (row : List Int) : Prop := ok n E ∧ row.length = E.length + 1 ∧ (∀ v ∈ row, 0 ≤ v ∧ v < n) ∧ cuts E (ties row)
instance (n : Int) (E : List Tie) (row : List Int) : Decidable (trailOk n E row) := by unfold trailOk; infer_instance
end Go.Proofs.YtjkeagcenmmknaaDoor.G
namespace Go.Proofs.YtjkeagcenmmknaaDoor.P
open Go.RowKit Go.Proofs.YtjkeagcenmmknaaDoorW.PrintWords Go.Proofs.YtjkeagcenmmknaaDoor.G
theorem l1Knot_ev (n a : Int) (E : List S51) (hE : (E.length : Int) < big) : Ev (fun k => spec_l1Knot.f k n E a) (decide (ok n E ∧ 0 ≤ a ∧ a < n)) := by
 unfold spec_l1Knot.f
 refine Ev.bind (specOk n E hE) ?_
 by_cases c : ok n E
 ·simp only [c, decide_true, if_true, in_eq, Option.bind_some]
  rw [w64 (by have := c.1; omega) (by have := c.2.1; omega)]
  refine Ev.val (congrArg some (decide_eq_decide.2 ?_))
  exact ⟨fun h => ⟨trivial, h.1, by omega⟩, fun h => ⟨h.2.1, by omega⟩⟩
 ·simp only [c, decide_false, Bool.false_eq_true, if_false]
  exact Ev.val (congrArg some (decide_eq_false (by simp)).symm)
theorem specHas_ev (n a b : Int) (E : List S51) (hE : (E.length : Int) < big) : Ev (fun k => spec_NetHas.f k n E a b) (decide (ok n E ∧ tieOf a b ∈ E)) := by
 unfold spec_NetHas.f
 refine Ev.bind (specOk n E hE) ?_
 by_cases c : ok n E
 ·simp only [c, decide_true, if_true]
  refine Ev.bind (l1Has_ev n a b E hE) ?_
  exact Ev.val (by simp)
 ·simp only [c, decide_false, Bool.false_eq_true, if_false]
  exact Ev.val (by simp)
theorem copy_eq (n : Int) (E : List S51) (hE : (E.length : Int) ≤ 1048576) : spec_l1Copy.f n E = some (n, E) := by
 unfold spec_l1Copy.f
 have : ([] : List S51).length + E.length < 8796093022208 := by simp; omega
 simp only [Option.bind_some, this, if_true, List.nil_append]
end Go.Proofs.YtjkeagcenmmknaaDoor.P
namespace Go.Proofs.YtjkeagcenmmknaaDoor.G
open Go.RowKit Go.Proofs.YtjkeagcenmmknaaDoorW.PrintWords
def octs (l : List Int) : Prop := ∀ x ∈ l, 0 ≤ x ∧ x ≤ 255
theorem rd_byte {l : List Int} (h : octs l) (i : Int) : 0 ≤ rd l i ∧ rd l i ≤ 255 := by
 unfold rd
 by_cases c : i.toNat < l.length
 ·rw [List.getD_eq_getElem?_getD, List.getElem?_eq_getElem c]
  exact h _ (List.getElem_mem c)
 ·rw [List.getD_eq_getElem?_getD, List.getElem?_eq_none (by omega)]
  simp
theorem xor_nn {a b : Int} (h0 : 0 ≤ a) (h1 : a < 9223372036854775808) (h2 : 0 ≤ b) (h3 : b < 9223372036854775808) : 0 ≤ Go.bits .xor .i64 a b := by
 obtain ⟨x, rfl⟩ := Int.eq_ofNat_of_zero_le h0
 obtain ⟨y, rfl⟩ := Int.eq_ofNat_of_zero_le h2
 have hx : x ^^^ y < 2 ^ 63 := Nat.xor_lt_two_pow (by omega) (by omega)
 have e1 : (BitVec.ofInt 64 (x : Int)).toNat = x := by
  rw [BitVec.ofInt_natCast, BitVec.toNat_ofNat]; exact Nat.mod_eq_of_lt (by omega)
 have e2 : (BitVec.ofInt 64 (y : Int)).toNat = y := by
  rw [BitVec.ofInt_natCast, BitVec.toNat_ofNat]; exact Nat.mod_eq_of_lt (by omega)
 show 0 ≤ IntKind.i64.wrap ((BitVec.ofInt 64 (x : Int) ^^^ BitVec.ofInt 64 (y : Int)).toNat : Int)
 rw [BitVec.toNat_xor, e1, e2]
 simp [IntKind.wrap, IntKind.bits, IntKind.signed]
 omega
theorem tmod_nn {a b : Int} (h : 0 ≤ a) (hb : 0 < b) : 0 ≤ Int.tmod a b ∧ Int.tmod a b < b := by
 rw [Int.tmod_eq_emod_of_nonneg h]
 exact ⟨Int.emod_nonneg _ (by omega), Int.emod_lt_of_pos _ hb⟩
theorem tdiv_nn {a b : Int} (h : 0 ≤ a) (hb : 0 ≤ b) : 0 ≤ Int.tdiv a b ∧ Int.tdiv a b ≤ a := by
 rw [Int.tdiv_eq_ediv_of_nonneg h]
 exact ⟨Int.ediv_nonneg h hb, Int.ediv_le_self _ h⟩
def Drawn (lo hi : Int) (M : Nat) (c p : Int) (r : Int × List Tie × Int) : Prop := lo ≤ r.1 ∧ r.1 ≤ hi ∧ r.2.1.length ≤ M ∧ p ≤ r.2.2 ∧ r.2.2 ≤ p + c
end Go.Proofs.YtjkeagcenmmknaaDoor.G
namespace Go.Proofs.YtjkeagcenmmknaaDoor.P
open Go.RowKit Go.Proofs.YtjkeagcenmmknaaDoorW.PrintWords Go.Proofs.YtjkeagcenmmknaaDoor.G
theorem open_eq (l : List Int) (h : octs l) : ∃ s, spec_l6Open.f l = some (s, 0) ∧ octs s ∧ s.length ≤ 2000 := by
 unfold spec_l6Open.f
 by_cases c : (l.length : Int) > 2000
 ·have c2 : (2000 : Int) ≤ (l.length : Int) := by omega
  exact ⟨l.take 2000, by simp only [if_pos c, if_pos c2], fun x hx => h x (List.mem_of_mem_take hx), List.length_take_le _ _⟩
 ·exact ⟨l, by simp only [if_neg c], h, by omega⟩
theorem pick_ev (s : List Int) (hs : octs s) (hl : s.length ≤ 2000) (p n : Int) (h0 : 0 ≤ p) (h1 : p ≤ 100000) :
  ∃ v, Ev (fun k => spec_l6Rd_pick.f k s p n) (v, p + 1) ∧ 0 ≤ v ∧ (v < n ∨ n < 1 ∧ v = 0) := by
 unfold spec_l6Rd_pick.f
 rw [w64 (x := p + 1) (by omega) (by omega)]
 by_cases c : n < 1
 ·refine ⟨0, ?_, Int.le_refl 0, .inr ⟨c, rfl⟩⟩
  simp only [if_pos c]
  exact Ev.step (fun k => by simp only [spec_l6Rd_pick.j0, if_true] <;> exact rfl) (Ev.val rfl)
 simp only [if_neg c]
 by_cases z : (s.length : Int) = 0
 ·refine ⟨0, ?_, Int.le_refl 0, .inl (by omega)⟩
  have z' : ((s.length : Int) == 0) = true := beq_iff_eq.2 z
  exact Ev.step (fun k => by simp only [spec_l6Rd_pick.j0, z', if_true] <;> exact rfl) (Ev.val rfl)
 have z' : ((s.length : Int) == 0) = false := beq_eq_false_iff_ne.2 z
 have zp : (0 : Int) < s.length := by omega
 have e1 : wrap64 (p + 1 - 1) = p := by rw [w64 (by omega) (by omega)]; omega
 have n0 : ¬ n = 0 := by omega
 by_cases d : p < (s.length : Int)
 ·have hb := rd_byte hs p
  have t := tmod_nn hb.1 (b := n) (by omega)
  refine ⟨Int.tmod (rd s p) n, ?_, t.1, .inl t.2⟩
  refine Ev.step (fun k => by simp only [spec_l6Rd_pick.j0, z', Bool.false_eq_true, if_false, e1, if_pos d, if_pos h0, if_neg n0, w64 (x := rd s p) (by omega) (by omega)] <;> exact rfl) (Ev.val rfl)
 ·have t1 := tmod_nn h0 zp
  have w1 : wrap64 (p * 7) = p * 7 := w64 (by omega) (by omega)
  have w2 : wrap64 (p * 7 + 3) = p * 7 + 3 := w64 (by omega) (by omega)
  have t2 := tmod_nn (a := p * 7 + 3) (by omega) zp
  have b1 := rd_byte hs (Int.tmod p (s.length : Int))
  have b2 := rd_byte hs (Int.tmod (p * 7 + 3) (s.length : Int))
  have q := tdiv_nn h0 (b := (s.length : Int)) (by omega)
  generalize hu : rd s (Int.tmod p (s.length : Int)) = u at b1
  generalize hv : rd s (Int.tmod (p * 7 + 3) (s.length : Int)) = v at b2
  generalize hy : Int.tdiv p (s.length : Int) = y at q
  have hx0 : 0 ≤ u * 131 + v * 1117 + p * 29 + y * 53 := by omega
  have hx1 : u * 131 + v * 1117 + p * 29 + y * 53 < 100000000 := by omega
  have q2 := tdiv_nn hx0 (b := 64) (by omega)
  have w3 : wrap64 (wrap64 (wrap64 (wrap64 (wrap64 u * 131) + wrap64 (wrap64 v * 1117)) + wrap64 (p * 29)) + wrap64 (wrap64 y * 53)) = u * 131 + v * 1117 + p * 29 + y * 53 := by
   rw [w64 (x := u) (by omega) (by omega), w64 (x := v) (by omega) (by omega), w64 (x := y) (by omega) (by omega), w64 (x := u * 131) (by omega) (by omega), w64 (x := v * 1117) (by omega) (by omega), w64 (x := y * 53) (by omega) (by omega), w64 (x := p * 29) (by omega) (by omega), w64 (x := u * 131 + v * 1117) (by omega) (by omega), w64 (x := u * 131 + v * 1117 + p * 29) (by omega) (by omega), w64 (by omega) (by omega)]
  have w4 : wrap64 (Int.tdiv (u * 131 + v * 1117 + p * 29 + y * 53) 64) = Int.tdiv (u * 131 + v * 1117 + p * 29 + y * 53) 64 := w64 (by omega) (by omega)
  generalize hX : u * 131 + v * 1117 + p * 29 + y * 53 = X at *
  have x0 := xor_nn hx0 (by omega) q2.1 (by omega)
  have t := tmod_nn x0 (b := n) (by omega)
  refine ⟨Int.tmod (Go.bits .xor .i64 X (Int.tdiv X 64)) n, ?_, t.1, .inl t.2⟩
  refine Ev.step (fun k => by simp only [spec_l6Rd_pick.j0, z', Bool.false_eq_true, if_false, e1, if_neg d, if_neg z, w1, w2, if_pos t1.1, if_pos t1.2, if_pos t2.1, if_pos t2.2, if_neg n0, hu, hv, hy, w3, w4] <;> exact rfl) (Ev.val rfl)
theorem add_l0 (n m a b : Int) : ∀ (suf p q : List S51) (f : Bool), ((p ++ suf).length : Int) ≤ 1048576 → q.length ≤ p.length + (if f then 1 else 0) →
  ∃ E, Ev (fun k => spec_NetAdd.l0 k f (p.length : Int) n (p ++ suf) m q a b) (m, E, true) ∧ E.length ≤ (p ++ suf).length + 1 := by
 intro suf
 induction suf with
 | nil =>
  intro p q f hb hq
  have hq8 : q.length < 8796093022208 := by rw [List.length_append] at hb; split at hq <;> omega
  cases f with
  | true => exact ⟨q, Ev.step (fun k => by simp only [spec_NetAdd.l0, nlt_end, if_false, if_true] <;> exact rfl) (Ev.val rfl), by simpa using hq⟩
  | false => exact ⟨q ++ [⟨a, b⟩], Ev.step (fun k => by simp only [spec_NetAdd.l0, nlt_end, if_false, Bool.false_eq_true, if_pos hq8] <;> exact rfl) (Ev.val rfl), by simp at hq ⊢; omega⟩
 | cons t suf ih =>
  intro p q f hb hq
  have hb' : ((p ++ t :: suf).length : Int) < big := by unfold big; omega
  have hp : (p.length : Int) < big := len_mid hb'
  have hq8 : q.length + 1 < 8796093022208 := by rw [List.length_append] at hb; split at hq <;> omega
  have hq7 : q.length < 8796093022208 := by omega
  have hb2 : (((p ++ [t]) ++ suf).length : Int) ≤ 1048576 := by rw [← app_one]; exact hb
  cases f with
  | true =>
   obtain ⟨E, e1, e2⟩ := ih (p ++ [t]) (q ++ [t]) true hb2 (by simp at hq ⊢; omega)
   rw [app_one p t suf]
   refine ⟨E, Ev.step (fun k => by simp only [← app_one, spec_NetAdd.l0, lt_mid, nn, if_true, rdH_mid, w_succ (t := t) hp, if_pos hq7] <;> exact rfl) ?_, e2⟩
   rw [app_one p t suf]
   exact e1
  | false =>
   have s0 : spec_NetAdd.l0 = spec_NetAdd.l0 := rfl
   by_cases c : tlt ⟨a, b⟩ ⟨t.f0, t.f1⟩
   ·obtain ⟨E, e1, e2⟩ := ih (p ++ [t]) (q ++ [⟨a, b⟩, t]) true hb2 (by simp at hq ⊢; omega)
    have hq9 : (q ++ [(⟨a, b⟩ : S51)]).length < 8796093022208 := by simp; omega
    rw [app_one p t suf]
    refine ⟨E, Ev.step (fun k => by simp only [← app_one, spec_NetAdd.l0, lt_mid, nn, if_true, Bool.false_eq_true, if_false, rdH_mid, w_succ (t := t) hp, less_eq, Option.bind_some, decide_eq_true c, if_pos hq7, if_pos hq9] <;> exact rfl) ?_, e2⟩
    rw [app_one p t suf]
    exact e1
   ·obtain ⟨E, e1, e2⟩ := ih (p ++ [t]) (q ++ [t]) false hb2 (by simp at hq ⊢; omega)
    rw [app_one p t suf]
    refine ⟨E, Ev.step (fun k => by simp only [← app_one, spec_NetAdd.l0, lt_mid, nn, if_true, Bool.false_eq_true, if_false, rdH_mid, w_succ (t := t) hp, less_eq, Option.bind_some, decide_eq_false c, if_pos hq7] <;> exact rfl) ?_, e2⟩
    rw [app_one p t suf]
    exact e1
theorem add_ev (n a b : Int) (E : List S51) (hE : (E.length : Int) ≤ 1048576) :
  ∃ m F t, Ev (fun k => spec_NetAdd.f k n E a b) (m, F, t) ∧ F.length ≤ E.length + 1 ∧ (m = n ∨ m = 0) := by
 have hb : (E.length : Int) < big := by unfold big; omega
 have no : Ev (fun k => spec_NetAdd.j0 k a b true n E) (0, [], false) := Ev.step (fun k => by simp only [spec_NetAdd.j0, if_true] <;> exact rfl) (Ev.val rfl)
 unfold spec_NetAdd.f
 by_cases c : ok n E ∧ 0 ≤ a ∧ a < n
 ·by_cases d : ok n E ∧ 0 ≤ b ∧ b < n
  ·have h1 : ∀ v : Bool, ∃ m F t, Ev (fun k => spec_NetAdd.j0 k a b v n E) (m, F, t) ∧ F.length ≤ E.length + 1 ∧ (m = n ∨ m = 0) := by
    intro v
    cases v with
    | true => exact ⟨0, [], false, no, by simp, .inr rfl⟩
    | false =>
     obtain ⟨F, e1, e2⟩ := add_l0 n n (tieOf a b).f0 (tieOf a b).f1 E [] [] false hE (by simp)
     refine ⟨n, F, true, ?_, e2, .inl rfl⟩
     exact Ev.step (fun k => by simp only [spec_NetAdd.j0, Bool.false_eq_true, if_false, l1Tie_eq, Option.bind_some] <;> exact rfl) e1
   by_cases e : a = b
   ·obtain ⟨m, F, t, e1, e2⟩ := h1 true
    refine ⟨m, F, t, Ev.bind (l1Knot_ev n a E hb) ?_, e2⟩
    simp only [c, and_self, decide_true, if_true]
    refine Ev.bind (l1Knot_ev n b E hb) ?_
    simp only [d, and_self, decide_true, if_true, if_pos e]
    exact e1
   ·obtain ⟨m, F, t, e1, e2⟩ := h1 (decide (ok n E ∧ tieOf a b ∈ E))
    refine ⟨m, F, t, Ev.bind (l1Knot_ev n a E hb) ?_, e2⟩
    simp only [c, and_self, decide_true, if_true]
    refine Ev.bind (l1Knot_ev n b E hb) ?_
    simp only [d, and_self, decide_true, if_true, if_neg e]
    exact Ev.bind (specHas_ev n a b E hb) e1
  ·refine ⟨0, [], false, Ev.bind (l1Knot_ev n a E hb) ?_, by simp, .inr rfl⟩
   simp only [c, and_self, decide_true, if_true]
   refine Ev.bind (l1Knot_ev n b E hb) ?_
   simp only [d, decide_false, Bool.false_eq_true, if_false]
   exact no
 ·refine ⟨0, [], false, Ev.bind (l1Knot_ev n a E hb) ?_, by simp, .inr rfl⟩
  simp only [c, decide_false, Bool.false_eq_true, if_false]
  exact no
end Go.Proofs.YtjkeagcenmmknaaDoor.P
namespace Go.Proofs.YtjkeagcenmmknaaDoor.P
open Go.RowKit Go.Proofs.YtjkeagcenmmknaaDoorW.PrintWords Go.Proofs.YtjkeagcenmmknaaDoor.G
theorem dnet_l2 (s : List Int) (hs : octs s) (hl : s.length ≤ 2000) : ∀ (d : Nat) (p n : Int) (E : List S51), d ≤ 20 → 0 ≤ p → p + 2 * d ≤ 80000 → 0 ≤ n → n ≤ 8 → E.length + d ≤ 1000 →
  ∃ r, Ev (fun k => spec_l71Net.l2 k (d : Int) s p n E) r ∧ Drawn 0 8 (E.length + d) (2 * d) p r := by
 intro d
 induction d with
 | zero =>
  intro p n E hd h0 h1 n0 n1 hE
  refine ⟨(n, E, p), ?_, by simp [Drawn]; omega⟩
  have c : ¬ (0 : Int) > 0 := by omega
  refine Ev.step (fun k => by simp only [spec_l71Net.l2, Int.natCast_zero, if_neg c] <;> exact rfl) ?_
  exact Ev.step (fun k => by simp only [spec_l71Net.j4, Bool.false_eq_true, if_false] <;> exact rfl) (Ev.val rfl)
 | succ d ih =>
  intro p n E hd h0 h1 n0 n1 hE
  have c : ((d + 1 : Nat) : Int) > 0 := by omega
  have w : wrap64 (((d + 1 : Nat) : Int) - 1) = (d : Int) := by rw [w64 (by omega) (by omega)]; omega
  by_cases m : n > 1
  ·obtain ⟨v, v1, _⟩ := pick_ev s hs hl p n h0 (by omega)
   obtain ⟨u, u1, _⟩ := pick_ev s hs hl (p + 1) n (by omega) (by omega)
   obtain ⟨m', F, t, a1, a2, a3⟩ := add_ev n v u E (by omega)
   have step : ∀ r, Ev (fun k => if t = true then spec_l71Net.l2 k (d : Int) s (p + 1 + 1) m' F else spec_l71Net.l2 k (d : Int) s (p + 1 + 1) n E) r → Ev (fun k => spec_l71Net.l2 k ((d + 1 : Nat) : Int) s p n E) r := by
    intro r hr
    refine Ev.step (fun k => by simp only [spec_l71Net.l2, if_pos c, decide_eq_true m] <;> exact rfl) ?_
    refine Ev.step (fun k => by simp only [spec_l71Net.j4, if_true, w] <;> exact rfl) ?_
    exact Ev.bind v1 (Ev.bind u1 (Ev.bind a1 hr))
   cases t with
   | true =>
    obtain ⟨r, r1, r2⟩ := ih (p + 1 + 1) m' F (by omega) (by omega) (by omega) (by omega) (by omega) (by omega)
    exact ⟨r, step r (by simp only [if_true]; exact r1), by unfold Drawn at *; omega⟩
   | false =>
    obtain ⟨r, r1, r2⟩ := ih (p + 1 + 1) n E (by omega) (by omega) (by omega) (by omega) (by omega) (by omega)
    exact ⟨r, step r (by simp only [Bool.false_eq_true, if_false]; exact r1), by unfold Drawn at *; omega⟩
  ·refine ⟨(n, E, p), ?_, by simp [Drawn]; omega⟩
   refine Ev.step (fun k => by simp only [spec_l71Net.l2, if_pos c, decide_eq_false m] <;> exact rfl) ?_
   exact Ev.step (fun k => by simp only [spec_l71Net.j4, Bool.false_eq_true, if_false] <;> exact rfl) (Ev.val rfl)
theorem dnet_j2 (s : List Int) (hs : octs s) (hl : s.length ≤ 2000) (p n : Int) (E : List S51) (h0 : 0 ≤ p) (h1 : p ≤ 75000) (n0 : 0 ≤ n) (n1 : n ≤ 8) (hE : E.length ≤ 20) :
  ∃ r, Ev (fun k => spec_l71Net.j2 k s p n E) r ∧ Drawn 0 8 40 30 p r := by
 obtain ⟨v, v1, v2, v3⟩ := pick_ev s hs hl p 13 h0 (by omega)
 obtain ⟨r, r1, r2⟩ := dnet_l2 s hs hl v.toNat (p + 1) n E (by omega) (by omega) (by omega) n0 n1 (by omega)
 rw [Int.toNat_of_nonneg v2] at r1
 refine ⟨r, Ev.step (fun k => by simp only [spec_l71Net.j2] <;> exact rfl) (Ev.bind v1 r1), by unfold Drawn at *; omega⟩
theorem dnet_l0 (s : List Int) (hs : octs s) (hl : s.length ≤ 2000) : ∀ (d : Nat) (i p n : Int) (E : List S51), i + d = 9 → 0 ≤ i → 0 ≤ p → p + d ≤ 70000 → 0 ≤ n → n ≤ 8 → (E.length : Int) ≤ i →
  ∃ r, Ev (fun k => spec_l71Net.l0 k i s p n E) r ∧ Drawn 0 8 40 (30 + d) p r := by
 intro d
 induction d with
 | zero =>
  intro i p n E hi i0 h0 h1 n0 n1 hE
  obtain ⟨r, r1, r2⟩ := dnet_j2 s hs hl p n E h0 (by omega) n0 n1 (by omega)
  have c : ¬ i < n := by omega
  exact ⟨r, Ev.step (fun k => by simp only [spec_l71Net.l0, if_neg c] <;> exact rfl) r1, by unfold Drawn at *; omega⟩
 | succ d ih =>
  intro i p n E hi i0 h0 h1 n0 n1 hE
  by_cases c : i < n
  ·obtain ⟨v, v1, _⟩ := pick_ev s hs hl p i h0 (by omega)
   obtain ⟨m', F, t, a1, a2, a3⟩ := add_ev n i v E (by omega)
   obtain ⟨r, r1, r2⟩ := ih (i + 1) (p + 1) m' F (by omega) (by omega) (by omega) (by omega) (by omega) (by omega) (by omega)
   refine ⟨r, Ev.step (fun k => by simp only [spec_l71Net.l0, if_pos c, w64 (x := i + 1) (by omega) (by omega)] <;> exact rfl) (Ev.bind v1 (Ev.bind a1 r1)), by unfold Drawn at *; omega⟩
  ·obtain ⟨r, r1, r2⟩ := dnet_j2 s hs hl p n E h0 (by omega) n0 n1 (by omega)
   exact ⟨r, Ev.step (fun k => by simp only [spec_l71Net.l0, if_neg c] <;> exact rfl) r1, by unfold Drawn at *; omega⟩
theorem dnet_l1 (s : List Int) (hs : octs s) (hl : s.length ≤ 2000) : ∀ (d : Nat) (i p n : Int) (E : List S51), i + d = 9 → 0 ≤ i → 0 ≤ p → p ≤ 70000 → 0 ≤ n → n ≤ 8 → (E.length : Int) ≤ i →
  ∃ r, Ev (fun k => spec_l71Net.l1 k i s p n E) r ∧ Drawn 0 8 40 (30 + d) p r := by
 intro d
 induction d with
 | zero =>
  intro i p n E hi i0 h0 h1 n0 n1 hE
  obtain ⟨r, r1, r2⟩ := dnet_j2 s hs hl p n E h0 (by omega) n0 n1 (by omega)
  have c : ¬ i < n := by omega
  exact ⟨r, Ev.step (fun k => by simp only [spec_l71Net.l1, if_neg c] <;> exact rfl) r1, by unfold Drawn at *; omega⟩
 | succ d ih =>
  intro i p n E hi i0 h0 h1 n0 n1 hE
  by_cases c : i < n
  ·by_cases c2 : n > 2
   ·have c3 : ¬ n = 0 := by omega
    obtain ⟨m', F, t, a1, a2, a3⟩ := add_ev n i (Int.tmod (i + 1) n) E (by omega)
    obtain ⟨r, r1, r2⟩ := ih (i + 1) p m' F (by omega) (by omega) (by omega) (by omega) (by omega) (by omega) (by omega)
    refine ⟨r, Ev.step (fun k => by simp only [spec_l71Net.l1, if_pos c, if_pos c2, if_neg c3, w64 (x := i + 1) (by omega) (by omega)] <;> exact rfl) (Ev.bind a1 r1), by unfold Drawn at *; omega⟩
   ·obtain ⟨r, r1, r2⟩ := dnet_j2 s hs hl p n E h0 (by omega) n0 n1 (by omega)
    exact ⟨r, Ev.step (fun k => by simp only [spec_l71Net.l1, if_pos c, if_neg c2] <;> exact rfl) r1, by unfold Drawn at *; omega⟩
  ·obtain ⟨r, r1, r2⟩ := dnet_j2 s hs hl p n E h0 (by omega) n0 n1 (by omega)
   exact ⟨r, Ev.step (fun k => by simp only [spec_l71Net.l1, if_neg c] <;> exact rfl) r1, by unfold Drawn at *; omega⟩
theorem dnet_ev (s : List Int) (hs : octs s) (hl : s.length ≤ 2000) (p : Int) (h0 : 0 ≤ p) (h1 : p ≤ 60000) :
  ∃ r, Ev (fun k => spec_l71Net.f k s p) r ∧ Drawn 0 8 40 50 p r := by
 obtain ⟨v, v1, v2, v3⟩ := pick_ev s hs hl p 8 h0 (by omega)
 obtain ⟨u, u1, u2, u3⟩ := pick_ev s hs hl (p + 1) 6 (by omega) (by omega)
 have w : wrap64 (1 + v) = 1 + v := w64 (by omega) (by omega)
 unfold spec_l71Net.f
 by_cases c : u = 0
 ·obtain ⟨r, r1, r2⟩ := dnet_l0 s hs hl 8 1 (p + 1 + 1) (1 + v) [] (by omega) (by omega) (by omega) (by omega) (by omega) (by omega) (by simp)
  refine ⟨r, Ev.bind v1 (Ev.bind u1 ?_), by unfold Drawn at *; omega⟩
  simp only [w, if_pos c]
  exact r1
 ·by_cases d : u = 1
  ·obtain ⟨r, r1, r2⟩ := dnet_l1 s hs hl 9 0 (p + 1 + 1) (1 + v) [] (by omega) (by omega) (by omega) (by omega) (by omega) (by omega) (by simp)
   refine ⟨r, Ev.bind v1 (Ev.bind u1 ?_), by unfold Drawn at *; omega⟩
   simp only [w, if_neg c, if_pos d]
   exact r1
  ·obtain ⟨r, r1, r2⟩ := dnet_j2 s hs hl (p + 1 + 1) (1 + v) [] (by omega) (by omega) (by omega) (by omega) (by simp)
   refine ⟨r, Ev.bind v1 (Ev.bind u1 ?_), by unfold Drawn at *; omega⟩
   simp only [w, if_neg c, if_neg d]
   exact r1
theorem spoil_ev (s : List Int) (hs : octs s) (hl : s.length ≤ 2000) (p n : Int) (E : List S51) (h0 : 0 ≤ p) (h1 : p ≤ 70000) (n0 : 0 ≤ n) (n1 : n ≤ 8) (hE : E.length ≤ 40) :
  ∃ r, Ev (fun k => spec_l71Spoil.f k s p n E) r ∧ Drawn (-1) 9 50 5 p r := by
 obtain ⟨v, v1, v2, v3⟩ := pick_ev s hs hl p 6 h0 (by omega)
 have q8 : E.length < 8796093022208 := by omega
 have q9 : ([(⟨-1, 0⟩ : S51)] : List S51).length + E.length < 8796093022208 := by simp; omega
 unfold spec_l71Spoil.f
 simp only [copy_eq n E (by omega), Option.bind_some, if_pos q8, if_pos q9]
 by_cases c0 : v = 0
 ·obtain ⟨u, u1, u2, u3⟩ := pick_ev s hs hl (p + 1) 5 (by omega) (by omega)
  have g : u < ((([(-1), 0, 1, 8, 9] : List Int)).length : Int) := by show u < 5; omega
  have b : -1 ≤ rd [(-1), 0, 1, 8, 9] u ∧ rd [(-1), 0, 1, 8, 9] u ≤ 9 := by
   have : u = 0 ∨ u = 1 ∨ u = 2 ∨ u = 3 ∨ u = 4 := by omega
   rcases this with rfl | rfl | rfl | rfl | rfl <;> decide
  refine ⟨(rd [(-1), 0, 1, 8, 9] u, E, p + 1 + 1), Ev.bind v1 ?_, by simp [Drawn]; omega⟩
  simp only [if_pos c0]
  refine Ev.bind u1 ?_
  simp only [if_pos u2, if_pos g]
  exact Ev.val rfl
 by_cases c1 : v = 1
 ·obtain ⟨u, u1, u2, u3⟩ := pick_ev s hs hl (p + 1) 3 (by omega) (by omega)
  obtain ⟨t, t1, t2, t3⟩ := pick_ev s hs hl (p + 1 + 1) 3 (by omega) (by omega)
  refine ⟨(n, E ++ [⟨u, t⟩], p + 1 + 1 + 1), Ev.bind v1 ?_, by simp [Drawn]; omega⟩
  simp only [if_neg c0, if_pos c1]
  exact Ev.bind u1 (Ev.bind t1 (Ev.val rfl))
 by_cases c2 : v = 2
 ·refine ⟨(n, E ++ [⟨wrap64 (n - 1), n⟩], p + 1), Ev.bind v1 ?_, by simp [Drawn]; omega⟩
  simp only [if_neg c0, if_neg c1, if_pos c2]
  exact Ev.val rfl
 by_cases c3 : v = 3
 ·by_cases d : (E.length : Int) > 0
  ·obtain ⟨u, u1, u2, u3⟩ := pick_ev s hs hl (p + 1) (E.length : Int) (by omega) (by omega)
   have g : u < (E.length : Int) := by omega
   refine ⟨(n, E.set u.toNat ⟨(rd_T51 E u).f1, (rd_T51 E u).f0⟩, p + 1 + 1), Ev.bind v1 ?_, by simp [Drawn]; omega⟩
   simp only [if_neg c0, if_neg c1, if_neg c2, if_pos c3, if_pos d]
   refine Ev.bind u1 ?_
   simp only [if_pos u2, if_pos g]
   exact Ev.val rfl
  ·refine ⟨(n, E, p + 1), Ev.bind v1 ?_, by simp [Drawn]; omega⟩
   simp only [if_neg c0, if_neg c1, if_neg c2, if_pos c3, if_neg d]
   exact Ev.val rfl
 by_cases c4 : v = 4
 ·by_cases d : (E.length : Int) > 1
  ·have d0 : 0 < (E.length : Int) := by omega
   refine ⟨(n, E ++ [⟨(rd_T51 E 0).f0, (rd_T51 E 0).f1⟩], p + 1), Ev.bind v1 ?_, by simp [Drawn]; omega⟩
   simp only [if_neg c0, if_neg c1, if_neg c2, if_neg c3, if_pos c4, if_pos d, if_pos d0]
   exact Ev.val rfl
  ·refine ⟨(n, E, p + 1), Ev.bind v1 ?_, by simp [Drawn]; omega⟩
   simp only [if_neg c0, if_neg c1, if_neg c2, if_neg c3, if_pos c4, if_neg d]
   exact Ev.val rfl
 ·refine ⟨(n, [⟨-1, 0⟩] ++ E, p + 1), Ev.bind v1 ?_, by simp [Drawn]; omega⟩
  simp only [if_neg c0, if_neg c1, if_neg c2, if_neg c3, if_neg c4]
  exact Ev.val rfl
theorem any_ev (s : List Int) (hs : octs s) (hl : s.length ≤ 2000) (p : Int) (h0 : 0 ≤ p) (h1 : p ≤ 60000) :
  ∃ r, Ev (fun k => spec_l71Any.f k s p) r ∧ Drawn (-1) 9 50 60 p r := by
 obtain ⟨⟨n, E, q⟩, r1, r2⟩ := dnet_ev s hs hl p h0 h1
 simp only [Drawn] at r2
 obtain ⟨v, v1, v2, v3⟩ := pick_ev s hs hl q 12 (by omega) (by omega)
 unfold spec_l71Any.f
 by_cases c : v = 0
 ·obtain ⟨r, s1, s2⟩ := spoil_ev s hs hl (q + 1) n E (by omega) (by omega) (by omega) (by omega) (by omega)
  refine ⟨r, Ev.bind r1 (Ev.bind v1 ?_), by unfold Drawn at *; omega⟩
  simp only [if_pos c]
  exact Ev.bind s1 (Ev.val rfl)
 ·refine ⟨(n, E, q + 1), Ev.bind r1 (Ev.bind v1 ?_), by simp [Drawn]; omega⟩
  simp only [if_neg c]
  exact Ev.val rfl
end Go.Proofs.YtjkeagcenmmknaaDoor.P
namespace Go.Proofs.YtjkeagcenmmknaaDoor.P
open Go.RowKit Go.Proofs.YtjkeagcenmmknaaDoorW.PrintWords Go.Proofs.YtjkeagcenmmknaaDoor.G
theorem knot_ev (s : List Int) (hs : octs s) (hl : s.length ≤ 2000) (p n : Int) (E : List S51) (h0 : 0 ≤ p) (h1 : p ≤ 70000) (n0 : -1 ≤ n) (n1 : n ≤ 9) :
  ∃ a q, Ev (fun k => spec_l71Knot.f k s p n E) (a, q) ∧ -1 ≤ a ∧ a ≤ 9 ∧ p ≤ q ∧ q ≤ p + 2 := by
 have yes : ∀ p, 0 ≤ p → p ≤ 80000 → ∃ a, Ev (fun k => spec_l71Knot.j0 k true s p n E) (a, p + 1) ∧ -1 ≤ a ∧ a ≤ 9 := by
  intro p h0 h1
  obtain ⟨u, u1, u2, u3⟩ := pick_ev s hs hl p 3 h0 (by omega)
  have g : u < ((([(-1), n, 3] : List Int)).length : Int) := by show u < 3; omega
  refine ⟨rd [-1, n, 3] u, Ev.step (fun k => by simp only [spec_l71Knot.j0, if_true, Option.bind_some] <;> exact rfl) (Ev.bind u1 ?_), ?_⟩
  ·simp only [if_pos u2, if_pos g]
   exact Ev.val rfl
  ·have : u = 0 ∨ u = 1 ∨ u = 2 := by omega
   rcases this with rfl | rfl | rfl
   ·show -1 ≤ (-1 : Int) ∧ (-1 : Int) ≤ 9; omega
   ·exact ⟨n0, n1⟩
   ·show -1 ≤ (3 : Int) ∧ (3 : Int) ≤ 9; omega
 unfold spec_l71Knot.f
 by_cases c : n < 1
 ·obtain ⟨a, a1, a2⟩ := yes p h0 (by omega)
  refine ⟨a, p + 1, ?_, a2.1, a2.2, by omega, by omega⟩
  simp only [if_pos c]
  exact a1
 ·obtain ⟨v, v1, v2, v3⟩ := pick_ev s hs hl p 24 h0 (by omega)
  simp only [if_neg c]
  by_cases d : v = 0
  ·obtain ⟨a, a1, a2⟩ := yes (p + 1) (by omega) (by omega)
   refine ⟨a, p + 1 + 1, Ev.bind v1 ?_, a2.1, a2.2, by omega, by omega⟩
   simp only [d, beq_self_eq_true]
   exact a1
  ·obtain ⟨u, u1, u2, u3⟩ := pick_ev s hs hl (p + 1) n (by omega) (by omega)
   have d' : (v == 0) = false := beq_eq_false_iff_ne.2 d
   refine ⟨u, p + 1 + 1, Ev.bind v1 ?_, by omega, by omega, by omega, by omega⟩
   simp only [d']
   exact Ev.step (fun k => by simp only [spec_l71Knot.j0, Bool.false_eq_true, if_false] <;> exact rfl) (Ev.bind u1 (Ev.val rfl))
end Go.Proofs.YtjkeagcenmmknaaDoor.P
namespace Go.Proofs.YtjkeagcenmmknaaDoor.P
open Go.RowKit Go.Proofs.YtjkeagcenmmknaaDoorW.PrintWords Go.Proofs.YtjkeagcenmmknaaDoor.G
theorem drawNetAdd_ev (l : List Int) (h : octs l) : ∃ n E a b, Ev (fun k => spec_DrawNetAdd.f k l) (n, E, a, b) ∧ E.length ≤ 50 := by
 obtain ⟨s, o1, o2, o3⟩ := open_eq l h
 obtain ⟨⟨n, E, q⟩, r1, r2⟩ := any_ev s o2 o3 0 (by omega) (by omega)
 simp only [Drawn] at r2
 obtain ⟨a, q1, a1, a2, a3, a4, a5⟩ := knot_ev s o2 o3 q n E (by omega) (by omega) (by omega) (by omega)
 obtain ⟨b, q2, b1, b2, b3, b4, b5⟩ := knot_ev s o2 o3 q1 n E (by omega) (by omega) (by omega) (by omega)
 have main : ∃ b' q', Ev (fun k => spec_l71Pair.f k s 0) (n, E, a, b', q') := by
  unfold spec_l71Pair.f
  by_cases c : a = b
  ·by_cases d : n > 1
   ·obtain ⟨v, v1, v2, v3⟩ := pick_ev s o2 o3 q2 8 (by omega) (by omega)
    have n0 : ¬ n = 0 := by omega
    by_cases e : v > 0
    ·exact ⟨_, _, Ev.bind r1 (Ev.bind a1 (Ev.bind b1 (by simp only [if_pos c, if_pos d]; exact Ev.bind v1 (by simp only [if_pos e, if_neg n0]; exact Ev.val rfl))))⟩
    ·exact ⟨_, _, Ev.bind r1 (Ev.bind a1 (Ev.bind b1 (by simp only [if_pos c, if_pos d]; exact Ev.bind v1 (by simp only [if_neg e]; exact Ev.val rfl))))⟩
   ·exact ⟨_, _, Ev.bind r1 (Ev.bind a1 (Ev.bind b1 (by simp only [if_pos c, if_neg d]; exact Ev.val rfl)))⟩
  ·exact ⟨_, _, Ev.bind r1 (Ev.bind a1 (Ev.bind b1 (by simp only [if_neg c]; exact Ev.val rfl)))⟩
 obtain ⟨b', q', m⟩ := main
 refine ⟨n, E, a, b', ?_, by omega⟩
 unfold spec_DrawNetAdd.f
 simp only [o1, Option.bind_some]
 exact Ev.bind m (Ev.val rfl)
end Go.Proofs.YtjkeagcenmmknaaDoor.P
namespace Go.Proofs.YtjkeagcenmmknaaDoor.G
open Go.RowKit Go.Proofs.YtjkeagcenmmknaaDoorW.PrintWords
def verts (L : List Tie) : List Int := L.flatMap fun t => [t.f0, t.f1]
def flags (n : Int) (vs : List Int) : List Bool := (List.range n.toNat).map fun (i : Nat) => decide ((i : Int) ∈ vs)
theorem flags_len (n : Int) (vs : List Int) (h : 0 ≤ n) : ((flags n vs).length : Int) = n := by simp [flags]; omega
theorem flags_rd {n : Int} {vs : List Int} {v : Int} (h0 : 0 ≤ v) (h1 : v < n) : rdOf false (flags n vs) v = decide (v ∈ vs) := by
 unfold rdOf flags
 rw [List.getD_eq_getElem?_getD, List.getElem?_map, List.getElem?_range (by omega)]
 simp [Int.toNat_of_nonneg h0]
theorem flags_set {n : Int} {vs : List Int} {v : Int} (h0 : 0 ≤ v) (h1 : v < n) : (flags n vs).set v.toNat true = flags n (v :: vs) := by
 apply List.ext_getElem?
 intro i
 unfold flags
 rw [List.getElem?_set]
 by_cases hi : v.toNat = i
 ·subst hi
  rw [if_pos rfl, if_pos (by simp; omega), List.getElem?_map, List.getElem?_range (by omega)]
  simp [Int.toNat_of_nonneg h0]
 ·rw [if_neg hi]
  rw [List.getElem?_map, List.getElem?_map]
  by_cases h : i < n.toNat
  ·rw [List.getElem?_range h]
   have : ¬ (i : Int) = v := by omega
   simp [this]
  ·rw [List.getElem?_eq_none (by simp; omega)]
   rfl
theorem flags_none (n : Int) : List.replicate n.toNat false = flags n [] := by
 apply List.ext_getElem?
 intro i
 unfold flags
 by_cases h : i < n.toNat
 ·rw [List.getElem?_map, List.getElem?_range h]; simp [h]
 ·rw [List.getElem?_eq_none (by simp; omega), List.getElem?_eq_none (by simp; omega)]
end Go.Proofs.YtjkeagcenmmknaaDoor.G
namespace Go.Proofs.YtjkeagcenmmknaaDoor.G
open Go.RowKit Go.Proofs.YtjkeagcenmmknaaDoorW.PrintWords
def most : List Tie → List Int → Nat
 | [], _ => 0
 | t :: r, vs => if t.f0 ∈ vs ∨ t.f1 ∈ vs then most r vs else max (most r vs) (1 + most r (t.f1 :: t.f0 :: vs))
def fits (E : List Tie) (vs : List Int) (L : List Tie) : Prop := (∀ t ∈ L, t ∈ E) ∧ (verts L).Nodup ∧ ∀ v ∈ verts L, v ∉ vs
theorem verts_cons (t : Tie) (L : List Tie) : verts (t :: L) = t.f0 :: t.f1 :: verts L := rfl
theorem mem_verts {L : List Tie} {v : Int} : v ∈ verts L ↔ ∃ t ∈ L, v = t.f0 ∨ v = t.f1 := by
 unfold verts
 simp only [List.mem_flatMap, List.mem_cons, List.not_mem_nil, or_false]
theorem verts_perm {L M : List Tie} (h : L.Perm M) : (verts L).Perm (verts M) := h.flatMap_right _
theorem fits_erase {E : List Tie} {vs : List Int} {L : List Tie} {t : Tie} (h : fits E vs L) (ht : t ∈ L) :
  t.f0 ∉ vs ∧ t.f1 ∉ vs ∧ t.f0 ≠ t.f1 ∧ L.length = (L.erase t).length + 1 ∧ (∀ s ∈ L.erase t, s ∈ L ∧ s ≠ t) ∧ (verts (L.erase t)).Nodup ∧ ∀ v ∈ verts (L.erase t), v ∉ vs ∧ v ≠ t.f0 ∧ v ≠ t.f1 := by
 have p := List.perm_cons_erase ht
 have q := verts_perm p
 rw [verts_cons] at q
 have nd := q.nodup_iff.1 h.2.1
 rw [List.nodup_cons, List.nodup_cons] at nd
 obtain ⟨n1, n2, n3⟩ := nd
 refine ⟨h.2.2 _ (q.mem_iff.2 (by simp)), h.2.2 _ (q.mem_iff.2 (by simp)), fun e => n1 (by rw [e]; simp), by have := p.length_eq; simpa using this, fun s hs => ⟨List.mem_of_mem_erase hs, fun e => ?_⟩, n3, fun v hv => ⟨h.2.2 _ (q.mem_iff.2 (by simp [hv])), fun e => ?_, fun e => ?_⟩⟩
 ·subst e
  exact n2 (mem_verts.2 ⟨s, hs, Or.inr rfl⟩)
 ·subst e; exact n1 (by simp [hv])
 ·subst e; exact n2 hv
theorem most_le : ∀ (E : List Tie) (vs : List Int) (L : List Tie), fits E vs L → L.length ≤ most E vs
 | [], vs, L, h => by
  cases L with
  | nil => simp
  | cons t r => exact absurd (h.1 t (by simp)) (by simp)
 | t :: r, vs, L, h => by
  unfold most
  by_cases ht : t ∈ L
  ·obtain ⟨a, b, c, d, e, f, g⟩ := fits_erase h ht
   rw [if_neg (by intro o; rcases o with o | o; exact a o; exact b o)]
   have := most_le r (t.f1 :: t.f0 :: vs) (L.erase t) ⟨fun s hs => by
    have := h.1 s (e s hs).1
    rcases List.mem_cons.1 this with q | q
    ·exact absurd q (e s hs).2
    ·exact q, f, fun v hv => by
    have := g v hv
    simp only [List.mem_cons, not_or]
    exact ⟨this.2.2, this.2.1, this.1⟩⟩
   omega
  ·have := most_le r vs L ⟨fun s hs => by
    rcases List.mem_cons.1 (h.1 s hs) with q | q
    ·subst q; exact absurd hs ht
    ·exact q, h.2⟩
   split <;> omega
theorem most_ex : ∀ (E : List Tie) (vs : List Int), (∀ t ∈ E, t.f0 ≠ t.f1) → ∃ L, L.Sublist E ∧ fits E vs L ∧ L.length = most E vs
 | [], vs, _ => ⟨[], List.Sublist.refl _, ⟨by simp, by simp [verts], by simp [verts]⟩, rfl⟩
 | t :: r, vs, hne => by
  unfold most
  have hr := fun s hs => hne s (List.mem_cons_of_mem _ hs)
  have lift : ∀ L, L.Sublist r → fits r vs L → L.Sublist (t :: r) ∧ fits (t :: r) vs L := fun L s f => ⟨s.cons _, fun x hx => List.mem_cons_of_mem _ (f.1 x hx), f.2⟩
  obtain ⟨L, s, f, e⟩ := most_ex r vs hr
  split
  ·exact ⟨L, (lift L s f).1, (lift L s f).2, e⟩
  ·rename_i hn
   obtain ⟨L2, s2, f2, e2⟩ := most_ex r (t.f1 :: t.f0 :: vs) hr
   by_cases c : most r vs ≤ 1 + most r (t.f1 :: t.f0 :: vs)
   ·refine ⟨t :: L2, s2.cons_cons _, ⟨fun x hx => ?_, ?_, ?_⟩, by simp; omega⟩
    ·rcases List.mem_cons.1 hx with rfl | hx
     ·simp
     ·exact List.mem_cons_of_mem _ (f2.1 x hx)
    ·rw [verts_cons, List.nodup_cons, List.nodup_cons]
     refine ⟨fun hm => ?_, fun hm => (f2.2.2 _ hm) (by simp), f2.2.1⟩
     rcases List.mem_cons.1 hm with q | q
     ·exact hne t (by simp) q
     ·exact (f2.2.2 _ q) (by simp)
    ·intro v hv
     rw [verts_cons] at hv
     rcases List.mem_cons.1 hv with rfl | hv
     ·exact fun o => hn (Or.inl o)
     ·rcases List.mem_cons.1 hv with rfl | hv
      ·exact fun o => hn (Or.inr o)
      ·exact fun o => f2.2.2 v hv (by simp [o])
   ·exact ⟨L, (lift L s f).1, (lift L s f).2, by omega⟩
theorem most_eq {E : List Tie} {vs : List Int} {k : Nat} (hne : ∀ t ∈ E, t.f0 ≠ t.f1) (h1 : ∃ L, fits E vs L ∧ L.length = k) (h2 : ∀ L, fits E vs L → L.length ≤ k) : k = most E vs := by
 obtain ⟨L, f, e⟩ := h1
 obtain ⟨L2, _, f2, e2⟩ := most_ex E vs hne
 have := most_le E vs L f
 have := h2 L2 f2
 omega
theorem most_len : ∀ (E : List Tie) (vs : List Int), most E vs ≤ E.length
 | [], _ => Nat.le_refl _
 | t :: r, vs => by
  unfold most
  have := most_len r vs
  have := most_len r (t.f1 :: t.f0 :: vs)
  simp only [List.length_cons]
  split <;> omega
end Go.Proofs.YtjkeagcenmmknaaDoor.G
namespace Go.Proofs.YtjkeagcenmmknaaDoor.P
open Go.RowKit Go.Proofs.YtjkeagcenmmknaaDoorW.PrintWords Go.Proofs.YtjkeagcenmmknaaDoor.G
def outs (s : Nat) : List Int := ((List.range 8).filter fun v => !s.testBit v).map fun (v : Nat) => (v : Int)
theorem mem_outs {s : Nat} {v : Int} : v ∈ outs s ↔ ∃ n : Nat, n < 8 ∧ s.testBit n = false ∧ v = (n : Int) := by
 unfold outs
 simp only [List.mem_map, List.mem_filter, List.mem_range, Bool.not_eq_true', and_assoc]
 constructor
 ·rintro ⟨a, h1, h2, rfl⟩; exact ⟨a, h1, h2, rfl⟩
 ·rintro ⟨a, h1, h2, rfl⟩; exact ⟨a, h1, h2, rfl⟩
theorem out_iff {s : Nat} {v : Int} (h0 : 0 ≤ v) (h1 : v < 8) : v ∈ outs s ↔ s.testBit v.toNat = false := by
 rw [mem_outs]
 constructor
 ·rintro ⟨n, a, b, rfl⟩; simpa using b
 ·intro h; exact ⟨v.toNat, by omega, h, by omega⟩
theorem low_facts : ∀ s : Nat, s < 256 → s ≠ 0 → Lib.ctz 64 s < 8 ∧ s.testBit (Lib.ctz 64 s) = true ∧ (∀ v, v < 8 → (v < Lib.ctz 64 s → s.testBit v = false) ∧ (s &&& (s - 1)).testBit v = (s.testBit v && v != Lib.ctz 64 s)) ∧ s &&& (s - 1) < s := by decide +kernel
theorem xor_lt : ∀ s : Nat, s < 256 → ∀ t : Nat, t < 256 → s &&& t = t → t ≠ 0 → s ^^^ t < s := by decide +kernel
theorem two_bit {t : Tie} (h : 0 ≤ t.f0 ∧ t.f0 < t.f1 ∧ t.f1 < 8) (v : Nat) : (szTwo t).testBit v = (decide (v = t.f0.toNat) || decide (v = t.f1.toNat)) := by
 unfold szTwo
 rw [Nat.testBit_or, Nat.testBit_two_pow, Nat.testBit_two_pow]
 congr 1 <;> exact decide_eq_decide.2 ⟨fun e => e.symm, fun e => e.symm⟩
theorem two_ne {t : Tie} (h : 0 ≤ t.f0 ∧ t.f0 < t.f1 ∧ t.f1 < 8) : szTwo t ≠ 0 := by
 intro e
 have := two_bit h t.f0.toNat
 rw [e] at this
 simp at this
theorem two_in {s : Nat} {t : Tie} (h : 0 ≤ t.f0 ∧ t.f0 < t.f1 ∧ t.f1 < 8) : s &&& szTwo t = szTwo t ↔ s.testBit t.f0.toNat = true ∧ s.testBit t.f1.toNat = true := by
 constructor
 ·intro e
  have a := congrArg (fun n => n.testBit t.f0.toNat) e
  have b := congrArg (fun n => n.testBit t.f1.toNat) e
  simp only [Nat.testBit_and, two_bit h] at a b
  simpa using And.intro a b
 ·rintro ⟨a, b⟩
  apply Nat.eq_of_testBit_eq
  intro i
  rw [Nat.testBit_and, two_bit h]
  by_cases c : i = t.f0.toNat
  ·subst c; simp [a]
  ·by_cases d : i = t.f1.toNat
   ·subst d; simp [b]
   ·simp [c, d]
theorem xor_bit {s t : Nat} (h : s &&& t = t) (v : Nat) : (s ^^^ t).testBit v = (s.testBit v && !t.testBit v) := by
 rw [Nat.testBit_xor]
 have := congrArg (fun n => n.testBit v) h
 simp only [Nat.testBit_and] at this
 cases a : s.testBit v <;> cases b : t.testBit v <;> simp_all
def pickMax (s : Nat) (f : Nat → Int) (m : Int) (t : Tie) : Int := if t.f0 = (Lib.ctz 64 s : Int) ∧ s &&& szTwo t = szTwo t then szMax m (wrap64 (f (s ^^^ szTwo t) + 1)) else m
theorem rd_set_eq {T : List Int} {s : Nat} (x : Int) (h : s < T.length) : rd (T.set s x) (s : Int) = x := by
 unfold rd; simp [List.getD_eq_getElem?_getD, h]
theorem rd_set_ne {T : List Int} {s j : Nat} (x : Int) (h : j ≠ s) : rd (T.set s x) (j : Int) = rd T (j : Int) := by
 unfold rd
 simp only [Int.toNat_natCast, List.getD_eq_getElem?_getD]
 rw [List.getElem?_set_ne (fun e => h e.symm)]
theorem fold_table (s : Nat) (T : List Int) (hs : s < T.length) (hs2 : s < 256) : ∀ (l : List Tie) (m : Int), szGood l → l.foldl (szStep s) (T.set s m) = T.set s (l.foldl (pickMax s fun j => rd T (j : Int)) m)
 | [], m, _ => rfl
 | t :: r, m, h => by
  have ht := h t (by simp)
  rw [List.foldl_cons, List.foldl_cons]
  have e : szStep s (T.set s m) t = T.set s (pickMax s (fun j => rd T (j : Int)) m t) := by
   unfold szStep pickMax
   split
   ·rename_i c
    have lt := xor_lt s hs2 (szTwo t) (szTwo_lt t ht) c.2 (two_ne ht)
    rw [rd_set_eq m hs, rd_set_ne m (by omega), List.set_set]
   ·rfl
  rw [e]
  exact fold_table s T hs hs2 r _ (fun x hx => h x (List.mem_cons_of_mem _ hx))
theorem szMax_le {a b : Int} : a ≤ szMax a b ∧ b ≤ szMax a b := by unfold szMax; split <;> omega
theorem szMax_or (a b : Int) : szMax a b = a ∨ szMax a b = b := by unfold szMax; split <;> simp
theorem fold_ge (s : Nat) (f : Nat → Int) : ∀ (l : List Tie) (m : Int), m ≤ l.foldl (pickMax s f) m ∧ ∀ t ∈ l, t.f0 = (Lib.ctz 64 s : Int) → s &&& szTwo t = szTwo t → wrap64 (f (s ^^^ szTwo t) + 1) ≤ l.foldl (pickMax s f) m
 | [], m => ⟨Int.le_refl _, fun t ht => absurd ht (by simp)⟩
 | t :: r, m => by
  rw [List.foldl_cons]
  obtain ⟨a, b⟩ := fold_ge s f r (pickMax s f m t)
  have h1 : m ≤ pickMax s f m t := by unfold pickMax; split; exact szMax_le.1; exact Int.le_refl _
  refine ⟨by omega, fun x hx c d => ?_⟩
  rcases List.mem_cons.1 hx with rfl | hx
  ·have : wrap64 (f (s ^^^ szTwo x) + 1) ≤ pickMax s f m x := by unfold pickMax; rw [if_pos ⟨c, d⟩]; exact szMax_le.2
   omega
  ·exact b x hx c d
theorem fold_is (s : Nat) (f : Nat → Int) : ∀ (l : List Tie) (m : Int), l.foldl (pickMax s f) m = m ∨ ∃ t ∈ l, t.f0 = (Lib.ctz 64 s : Int) ∧ s &&& szTwo t = szTwo t ∧ l.foldl (pickMax s f) m = wrap64 (f (s ^^^ szTwo t) + 1)
 | [], m => Or.inl rfl
 | t :: r, m => by
  rw [List.foldl_cons]
  rcases fold_is s f r (pickMax s f m t) with e | ⟨x, hx, c, d, e⟩
  ·rw [e]
   unfold pickMax
   split
   ·rename_i c
    rcases szMax_or m (wrap64 (f (s ^^^ szTwo t) + 1)) with q | q
    ·exact Or.inl q
    ·exact Or.inr ⟨t, by simp, c.1, c.2, q⟩
   ·exact Or.inl rfl
  ·exact Or.inr ⟨x, List.mem_cons_of_mem _ hx, c, d, e⟩
theorem set_step (l : List Tie) (hl : (l.length : Int) < big) (g : szGood l) (s : Nat) (h0 : s ≠ 0) (h1 : s < 256) (f : Nat → Int) (hf : ∀ j, j < s → f j = (most l (outs j) : Int)) :
  l.foldl (pickMax s f) (f (s &&& (s - 1))) = (most l (outs s) : Int) := by
 obtain ⟨lw8, lwin, lwf, lwlt⟩ := low_facts s h1 h0
 have hne : ∀ t ∈ l, t.f0 ≠ t.f1 := fun t ht => by have := g t ht; omega
 have val : ∀ t ∈ l, s &&& szTwo t = szTwo t → wrap64 (f (s ^^^ szTwo t) + 1) = ((most l (outs (s ^^^ szTwo t)) + 1 : Nat) : Int) := fun t ht c => by
  rw [hf _ (xor_lt s h1 _ (szTwo_lt t (g t ht)) c (two_ne (g t ht)))]
  have := most_len l (outs (s ^^^ szTwo t))
  rw [w64 (by omega) (by unfold big at hl; omega)]
  omega
 obtain ⟨ge1, ge2⟩ := fold_ge s f l (f (s &&& (s - 1)))
 -- a natural number it is
 obtain ⟨k, hk, kx⟩ : ∃ k : Nat, l.foldl (pickMax s f) (f (s &&& (s - 1))) = (k : Int) ∧ (k = most l (outs (s &&& (s - 1))) ∨ ∃ t ∈ l, t.f0 = (Lib.ctz 64 s : Int) ∧ s &&& szTwo t = szTwo t ∧ k = most l (outs (s ^^^ szTwo t)) + 1) := by
  rcases fold_is s f l (f (s &&& (s - 1))) with e | ⟨t, ht, c, d, e⟩
  ·exact ⟨_, e.trans (hf _ lwlt), Or.inl rfl⟩
  ·exact ⟨_, e.trans (val t ht d), Or.inr ⟨t, ht, c, d, rfl⟩⟩
 rw [hk]
 congr 1
 refine most_eq hne ?_ ?_
 ·rcases kx with e | ⟨t, ht, c, d, e⟩
  ·obtain ⟨L, _, fL, eL⟩ := most_ex l (outs (s &&& (s - 1))) hne
   refine ⟨L, ⟨fL.1, fL.2.1, fun v hv o => fL.2.2 v hv ?_⟩, by omega⟩
   obtain ⟨n, n8, nb, rfl⟩ := mem_outs.1 o
   exact mem_outs.2 ⟨n, n8, by rw [(lwf n n8).2, nb]; rfl, rfl⟩
  ·obtain ⟨L, _, fL, eL⟩ := most_ex l (outs (s ^^^ szTwo t)) hne
   have gt := g t ht
   obtain ⟨b0, b1⟩ := (two_in gt).1 d
   have tin : ∀ v : Int, (v = t.f0 ∨ v = t.f1) → v ∈ outs (s ^^^ szTwo t) := fun v o => by
    rw [out_iff (by rcases o with e | e <;> omega) (by rcases o with e | e <;> omega), xor_bit d, two_bit gt]
    rcases o with rfl | rfl <;> simp
   refine ⟨t :: L, ⟨fun x hx => ?_, ?_, fun v hv o => ?_⟩, by simp; omega⟩
   ·rcases List.mem_cons.1 hx with rfl | hx
    ·exact ht
    ·exact fL.1 x hx
   ·rw [verts_cons, List.nodup_cons, List.nodup_cons]
    refine ⟨fun hm => ?_, fun hm => fL.2.2 _ hm (tin _ (Or.inr rfl)), fL.2.1⟩
    rcases List.mem_cons.1 hm with q | q
    ·omega
    ·exact fL.2.2 _ q (tin _ (Or.inl rfl))
   ·rw [verts_cons] at hv
    rcases List.mem_cons.1 hv with rfl | hv
    ·rw [out_iff (by omega) (by omega)] at o; rw [o] at b0; cases b0
    ·rcases List.mem_cons.1 hv with rfl | hv
     ·rw [out_iff (by omega) (by omega)] at o; rw [o] at b1; cases b1
     ·refine fL.2.2 v hv ?_
      obtain ⟨n, n8, nb, rfl⟩ := mem_outs.1 o
      exact mem_outs.2 ⟨n, n8, by rw [xor_bit d, nb]; rfl, rfl⟩
 ·intro L fL
  have inn : ∀ t ∈ L, s.testBit t.f0.toNat = true ∧ s.testBit t.f1.toNat = true := fun t ht => by
   have gt := g t (fL.1 t ht)
   have a := fL.2.2 t.f0 (mem_verts.2 ⟨t, ht, Or.inl rfl⟩)
   have b := fL.2.2 t.f1 (mem_verts.2 ⟨t, ht, Or.inr rfl⟩)
   rw [out_iff (by omega) (by omega)] at a b
   exact ⟨by simpa using a, by simpa using b⟩
  by_cases c : ((Lib.ctz 64 s : Nat) : Int) ∈ verts L
  ·obtain ⟨t, ht, o⟩ := mem_verts.1 c
   have gt := g t (fL.1 t ht)
   obtain ⟨b0, b1⟩ := inn t ht
   have e0 : t.f0 = (Lib.ctz 64 s : Int) := by
    rcases o with o | o
    ·exact o.symm
    ·have := (lwf t.f0.toNat (by omega)).1 (by omega)
     rw [this] at b0; cases b0
   have d := (two_in gt).2 ⟨b0, b1⟩
   have := ge2 t (fL.1 t ht) e0 d
   rw [val t (fL.1 t ht) d, hk] at this
   obtain ⟨_, _, _, el, es, nd, nv⟩ := fits_erase fL ht
   have le := most_le l (outs (s ^^^ szTwo t)) (L.erase t) ⟨fun x hx => fL.1 x (es x hx).1, nd, fun v hv o2 => by
    obtain ⟨n, n8, nb, rfl⟩ := mem_outs.1 o2
    rw [xor_bit d, two_bit gt] at nb
    obtain ⟨q1, q2, q3⟩ := nv _ hv
    have : s.testBit n = true := by
     have := fun z => q1 (mem_outs.2 ⟨n, n8, z, rfl⟩)
     simpa using this
    rw [this] at nb
    simp at nb
    have := gt
    by_cases c1 : n = t.f0.toNat
    ·exact q2 (by omega)
    ·exact q3 (by have := nb c1; omega)⟩
   omega
  ·have := most_le l (outs (s &&& (s - 1))) L ⟨fL.1, fL.2.1, fun v hv o => by
    obtain ⟨n, n8, nb, rfl⟩ := mem_outs.1 o
    rw [(lwf n n8).2] at nb
    have : s.testBit n = true := by
     have := fun z => fL.2.2 _ hv (mem_outs.2 ⟨n, n8, z, rfl⟩)
     simpa using this
    rw [this] at nb
    simp at nb
    subst nb
    exact c hv⟩
   rw [hk, hf _ lwlt] at ge1
   omega
theorem szT_is (l : List Tie) (hl : (l.length : Int) < big) (g : szGood l) : ∀ n, n < 256 → ∀ j, j ≤ n → rd (szT l n) (j : Int) = (most l (outs j) : Int)
 | 0, _, j, hj => by
  obtain rfl : j = 0 := by omega
  have z : rd (szT l 0) ((0 : Nat) : Int) = 0 := by
   show rd (List.replicate 256 0) 0 = 0
   unfold rd
   rw [List.getD_eq_getElem?_getD, List.getElem?_replicate]
   split <;> rfl
  rw [z]
  have : most l (outs 0) = 0 := by
   have hne : ∀ t ∈ l, t.f0 ≠ t.f1 := fun t ht => by have := g t ht; omega
   refine (most_eq hne ⟨[], ⟨by simp, by simp [verts], by simp [verts]⟩, rfl⟩ (fun L fL => ?_)).symm
   cases L with
   | nil => simp
   | cons t r =>
    have gt := g t (fL.1 t (by simp))
    exact absurd ((out_iff (s := 0) (v := t.f0) (by omega) (by omega)).2 (by simp)) (fL.2.2 _ (by rw [verts_cons]; simp))
  omega
 | n + 1, hn, j, hj => by
  have ih := szT_is l hl g n (by omega)
  show rd (szRound l (n + 1) (szT l n)) (j : Int) = _
  unfold szRound
  obtain ⟨_, _, _, lwlt⟩ := low_facts (n + 1) (by omega) (by omega)
  rw [fold_table (n + 1) (szT l n) (by rw [szT_len]; omega) (by omega) l _ g]
  by_cases e : j = n + 1
  ·subst e
   rw [rd_set_eq _ (by rw [szT_len]; omega)]
   exact set_step l hl g (n + 1) (by omega) (by omega) (fun j => rd (szT l n) (j : Int)) (fun j hj => ih j (by omega))
  ·rw [rd_set_ne _ e]
   exact ih j (by omega)
theorem szOf_eq (l : List Tie) (hl : (l.length : Int) < big) (g : szGood l) : szOf l = some (most l [] : Int) := by
 unfold szOf
 rw [if_pos g]
 have := szT_is l hl g 255 (by omega) 255 (by omega)
 rw [show ((255 : Nat) : Int) = 255 from rfl] at this
 rw [this]
 rw [show outs 255 = [] from by kernel_rfl]
end Go.Proofs.YtjkeagcenmmknaaDoor.P
namespace Go.Proofs.YtjkeagcenmmknaaDoor.P
open Go.RowKit Go.Proofs.YtjkeagcenmmknaaDoorW.PrintWords Go.Proofs.YtjkeagcenmmknaaDoor.G
def sizeOf (n : Int) (E : List Tie) : Int := if ok n E then (most E [] : Int) else -1
theorem ok_good {n : Int} {E : List Tie} (h : ok n E) : szGood E := fun t ht => by have := h.2.2.1 t ht; have := h.2.1; unfold inr at *; omega
theorem size_eq {n : Int} {E : List S51} (h : ok n E) : impl_size.f E = some (most E [] : Int) := szOf_eq E (by have := ok_len h; unfold big; omega) (ok_good h)
theorem sizeImpl (n : Int) (E : List S51) (hb : (E.length : Int) < big) : Ev (fun k => impl_PairSize.f k n E) (sizeOf n E) := by
 unfold impl_PairSize.f sizeOf
 refine Ev.bind (implOk n E hb) ?_
 by_cases h : ok n E
 ·simp only [decide_eq_true h, if_true, if_pos h, size_eq h, Option.bind_some]
  exact Ev.val rfl
 ·simp only [decide_eq_false h, Bool.false_eq_true, if_false, if_neg h]
  exact Ev.val rfl
theorem l24_ev (n : Int) (E : List S51) (hok : ok n E) : ∀ (suf pre : List S51) (vs : List Int), E = pre ++ suf → Ev (fun k => spec_l24Most.f k n E (pre.length : Int) (flags n vs)) (most suf vs : Int) := by
 intro suf
 induction suf with
 | nil =>
  intro pre vs he
  have c : (pre.length : Int) ≥ (E.length : Int) := by rw [he]; simp
  refine Ev.step (fun k => by simp only [spec_l24Most.f, if_pos c] <;> exact rfl) ?_
  exact Ev.val rfl
 | cons t suf ih =>
  intro pre vs he
  have h64 := ok_len hok
  have ht := hok.2.2.1 t (by rw [he]; simp)
  unfold inr at ht
  have n8 := hok.2.1
  have el : E.length = pre.length + suf.length + 1 := by rw [he]; simp; omega
  have c : ¬ (pre.length : Int) ≥ (E.length : Int) := by omega
  have c1 : (pre.length : Int) < (E.length : Int) := by omega
  have e1 : E = (pre ++ [t]) ++ suf := by rw [he]; simp
  have w1 : wrap64 ((pre.length : Int) + 1) = ((pre ++ [t]).length : Int) := w_succ (by unfold big; omega)
  have rt : rd_T51 E (pre.length : Int) = t := by rw [he]; exact rdI_mid pre t suf
  have fl : ((flags n vs).length : Int) = n := flags_len n vs (by omega)
  have f0 : t.f0 < ((flags n vs).length : Int) := by omega
  have f1 : t.f1 < ((flags n vs).length : Int) := by omega
  have r0 : rdOf false (flags n vs) t.f0 = decide (t.f0 ∈ vs) := flags_rd (by omega) (by omega)
  have r1 : rdOf false (flags n vs) t.f1 = decide (t.f1 ∈ vs) := flags_rd (by omega) (by omega)
  have p0 : 0 ≤ t.f0 := ht.1
  have p1 : 0 ≤ t.f1 := by omega
  refine Ev.step (fun k => by simp only [spec_l24Most.f, if_neg c, w1, nn, if_true, if_pos c1, rt, if_pos p0, if_pos p1, if_pos f0, if_pos f1, r0, r1] <;> exact rfl) ?_
  refine Ev.bind (ih (pre ++ [t]) vs e1) ?_
  have stop : t.f0 ∈ vs ∨ t.f1 ∈ vs → Ev (fun k => spec_l24Most.j0 k (pre.length : Int) (flags n vs) (most suf vs : Int) true n E t.f0 t.f1) (most (t :: suf) vs : Int) := fun o => by
   refine Ev.step (fun k => by simp only [spec_l24Most.j0, if_true] <;> exact rfl) (Ev.val ?_)
   rw [show most (t :: suf) vs = (if t.f0 ∈ vs ∨ t.f1 ∈ vs then most suf vs else max (most suf vs) (1 + most suf (t.f1 :: t.f0 :: vs))) from rfl, if_pos o]
  by_cases a : t.f0 ∈ vs
  ·simp only [decide_eq_true a, if_true]
   exact stop (Or.inl a)
  simp only [decide_eq_false a, Bool.false_eq_true, if_false]
  by_cases b : t.f1 ∈ vs
  ·simp only [decide_eq_true b]
   exact stop (Or.inr b)
  simp only [decide_eq_false b]
  have z : ([] : List Bool).length + (flags n vs).length < 140737488355328 := by simp only [List.length_nil]; omega
  have fl2 : (([] : List Bool) ++ flags n vs).length = (flags n vs).length := by simp
  have g0 : t.f0 < ((([] : List Bool) ++ flags n vs).length : Int) := by rw [fl2]; omega
  have g1 : t.f1 < ((([] : List Bool) ++ flags n vs).length : Int) := by rw [fl2]; omega
  have mk : ((([] : List Bool) ++ flags n vs).set t.f0.toNat true).set t.f1.toNat true = flags n (t.f1 :: t.f0 :: vs) := by
   rw [List.nil_append, flags_set (by omega) (by omega), flags_set (by omega) (by omega)]
  have ml := most_len suf (t.f1 :: t.f0 :: vs)
  have w2 : wrap64 (1 + (most suf (t.f1 :: t.f0 :: vs) : Int)) = 1 + (most suf (t.f1 :: t.f0 :: vs) : Int) := w64 (by omega) (by omega)
  refine Ev.step (fun k => by simp only [spec_l24Most.j0, Bool.false_eq_true, if_false, Option.bind_some, if_pos z, if_pos p0, if_pos p1, if_pos g0, if_pos g1, mk, w1] <;> exact rfl) ?_
  refine Ev.bind (ih (pre ++ [t]) (t.f1 :: t.f0 :: vs) e1) ?_
  simp only [w2]
  have un : most (t :: suf) vs = max (most suf vs) (1 + most suf (t.f1 :: t.f0 :: vs)) := by
   show (if t.f0 ∈ vs ∨ t.f1 ∈ vs then most suf vs else max (most suf vs) (1 + most suf (t.f1 :: t.f0 :: vs))) = _
   rw [if_neg (by intro o; rcases o with o | o; exact a o; exact b o)]
  rw [un]
  generalize most suf (t.f1 :: t.f0 :: vs) = a2
  generalize most suf vs = b2
  by_cases d : 1 + (a2 : Int) > (b2 : Int)
  ·simp only [if_pos d]
   have e : 1 + (a2 : Int) = ((max b2 (1 + a2) : Nat) : Int) := by omega
   exact Ev.val (by rw [e])
  ·simp only [if_neg d]
   have e : (b2 : Int) = ((max b2 (1 + a2) : Nat) : Int) := by omega
   exact Ev.val (by rw [← e])
theorem sizeSpec (n : Int) (E : List S51) (hb : (E.length : Int) < big) : Ev (fun k => spec_PairSize.f k n E) (sizeOf n E) := by
 unfold spec_PairSize.f sizeOf
 refine Ev.bind (specOk n E hb) ?_
 by_cases h : ok n E
 ·have n0 := h.1
  have n8 := h.2.1
  have z : n.toNat ≤ 281474976710656 := by omega
  simp only [decide_eq_true h, if_true, if_pos h, if_pos n0, if_pos z, flags_none]
  exact Ev.bind (l24_ev n E h E [] [] rfl) (Ev.val rfl)
 ·simp only [decide_eq_false h, Bool.false_eq_true, if_false, if_neg h]
  exact Ev.val rfl
theorem sizeOf_range (n : Int) (E : List Tie) : -1 ≤ sizeOf n E ∧ sizeOf n E ≤ 64 := by
 unfold sizeOf
 split
 ·rename_i h
  have := ok_len h
  have := most_len E []
  omega
 ·omega
end Go.Proofs.YtjkeagcenmmknaaDoor.P
namespace Go.Proofs.YtjkeagcenmmknaaDoor.P
open Go.RowKit Go.Proofs.YtjkeagcenmmknaaDoorW.PrintWords Go.Proofs.YtjkeagcenmmknaaDoor.G
theorem rdC_mid (pre : List S51) (t : S51) (suf : List S51) : rd_T51 (pre ++ t :: suf) (pre.length : Int) = t := by
 unfold rd_T51; exact getD_mid pre t suf _
theorem tie_beq2 (a b : Int) (t : Tie) : (a == t.f0 && (b == t.f1)) = decide ((⟨a, b⟩ : Tie) = t) := by
 obtain ⟨c, d⟩ := t
 simp only [Tie.mk.injEq]
 by_cases h : a = c <;> by_cases k : b = d <;> simp [h, k]
theorem indexTie_l0 (a b : Int) : ∀ (suf p : List S51), ((p ++ suf).length : Int) < big →
  ∃ r, Ev (fun k => slices_Index_impl_Tie_impl_Tie.l0 k (p ++ suf) ((p ++ suf).length : Int) (p.length : Int) a b) r ∧ (r ≥ 0 ↔ (⟨a, b⟩ : Tie) ∈ suf) := by
 intro suf
 induction suf with
 | nil =>
  intro p hb
  refine ⟨-1, Ev.step (fun k => by simp only [slices_Index_impl_Tie_impl_Tie.l0, nlt_end, if_false] <;> exact rfl) (Ev.val rfl), by simp⟩
 | cons t suf ih =>
  intro p hb
  have hp : (p.length : Int) < big := len_mid hb
  by_cases c : (⟨a, b⟩ : Tie) = t
  ·refine ⟨p.length, ?_, ?_⟩
   ·refine Ev.step (fun k => by simp only [slices_Index_impl_Tie_impl_Tie.l0, lt_mid, nn, if_true, rdC_mid, w_succ (t := t) hp, tie_beq2, decide_eq_true_eq, if_pos c] <;> exact rfl) ?_
    exact Ev.val rfl
   ·simp [c]
  ·obtain ⟨r, hr, hi⟩ := ih (p ++ [t]) (len_app hb)
   refine ⟨r, ?_, ?_⟩
   ·refine Ev.step (fun k => by simp only [slices_Index_impl_Tie_impl_Tie.l0, lt_mid, nn, if_true, rdC_mid, w_succ (t := t) hp, tie_beq2, decide_eq_true_eq, if_neg c] <;> exact rfl) ?_
    rw [app_one p t suf]
    exact hr
   ·rw [hi]; simp [c]
theorem containsTie_ev (E : List S51) (a b : Int) (hb : (E.length : Int) < big) : Ev (fun k => slices_Contains_impl_Tie_impl_Tie.f k E a b) (decide ((⟨a, b⟩ : Tie) ∈ E)) := by
 unfold slices_Contains_impl_Tie_impl_Tie.f slices_Index_impl_Tie_impl_Tie.f
 obtain ⟨r, hr, hi⟩ := indexTie_l0 a b E [] hb
 refine Ev.bind hr (Ev.val ?_)
 exact congrArg some (decide_eq_decide.2 hi)
end Go.Proofs.YtjkeagcenmmknaaDoor.P
namespace Go.Proofs.YtjkeagcenmmknaaDoor.P
open Go.RowKit Go.Proofs.YtjkeagcenmmknaaDoorW.PrintWords Go.Proofs.YtjkeagcenmmknaaDoor.G
theorem knot_eq (n a : Int) (E : List S51) : impl_Net_knot.f n E a = some (decide (0 ≤ a ∧ a < n)) := by
 unfold impl_Net_knot.f
 by_cases h : 0 ≤ a <;> simp [h]
theorem tie_eq (a b : Int) : impl_tie.f a b = some ((tieOf a b).f0, (tieOf a b).f1) := by
 unfold impl_tie.f tieOf mn mx
 rcases Int.lt_trichotomy a b with h | h | h
 ·simp [h]; omega
 ·subst h; simp
 ·have : ¬ a < b := by omega
  simp [this, h]
theorem has_ev (n a b : Int) (E : List S51) (hE : (E.length : Int) < big) : Ev (fun k => impl_Net_has.f k n E a b) (decide (tieOf a b ∈ E)) := by
 unfold impl_Net_has.f
 simp only [tie_eq, Option.bind_some]
 exact Ev.bind (containsTie_ev E _ _ hE) (Ev.val rfl)
end Go.Proofs.YtjkeagcenmmknaaDoor.P
namespace Go.Proofs.YtjkeagcenmmknaaDoor.P
open Go.RowKit Go.Proofs.YtjkeagcenmmknaaDoorW.PrintWords Go.Proofs.YtjkeagcenmmknaaDoor.G
def canAdd (n : Int) (E : List Tie) (a b : Int) : Prop := ok n E ∧ (0 ≤ a ∧ a < n) ∧ (0 ≤ b ∧ b < n) ∧ a ≠ b ∧ tieOf a b ∉ E
instance (n : Int) (E : List Tie) (a b : Int) : Decidable (canAdd n E a b) := by unfold canAdd; infer_instance
def addT (E : List Tie) (a b : Int) : List Tie := sortT (E ++ [tieOf a b])
theorem netAdd_ev (n a b : Int) (E : List S51) (hE : (E.length : Int) ≤ 1048576) : Ev (fun k => impl_NetAdd.f k n E a b) (if canAdd n E a b then (n, addT E a b, true) else (0, [], false)) := by
 have hb : (E.length : Int) < big := by unfold big; omega
 unfold impl_NetAdd.f
 have l1 : (([] : List S51)).length + E.length < 8796093022208 := by simp; omega
 have l2 : (([] : List S51) ++ E).length + ([(⟨(tieOf a b).f0, (tieOf a b).f1⟩ : S51)] : List S51).length < 8796093022208 := by simp; omega
 by_cases c1 : ok n E
 ·refine Ev.bind (implOk n E hb) ?_
  simp only [decide_eq_true c1, if_true, knot_eq, Option.bind_some]
  by_cases c2 : 0 ≤ a ∧ a < n
  ·simp only [decide_eq_true c2, if_true]
   by_cases c3 : 0 ≤ b ∧ b < n
   ·simp only [decide_eq_true c3, if_true]
    by_cases c4 : a = b
    ·simp only [if_pos c4]
     rw [if_neg (fun h => h.2.2.2.1 c4)]
     exact Ev.val rfl
    ·simp only [if_neg c4]
     refine Ev.bind (has_ev n a b E hb) ?_
     by_cases c5 : tieOf a b ∈ E
     ·simp only [decide_eq_true c5, if_true]
      rw [if_neg (fun h => h.2.2.2.2 c5)]
      exact Ev.val rfl
     ·simp only [decide_eq_false c5, Bool.false_eq_true, if_false, Option.bind_some, if_pos l1, tie_eq, if_pos l2]
      rw [if_pos (show canAdd n E a b from ⟨c1, c2, c3, c4, c5⟩)]
      exact Ev.val (by simp [addT])
   ·simp only [decide_eq_false c3, Bool.false_eq_true, if_false]
    rw [if_neg (fun h => c3 h.2.2.1)]
    exact Ev.val rfl
  ·simp only [decide_eq_false c2, Bool.false_eq_true, if_false]
   rw [if_neg (fun h => c2 h.2.1)]
   exact Ev.val rfl
 ·refine Ev.bind (implOk n E hb) ?_
  simp only [decide_eq_false c1, Bool.false_eq_true, if_false]
  rw [if_neg (fun h => c1 h.1)]
  exact Ev.val rfl
theorem addT_perm (E : List Tie) (a b : Int) : (addT E a b).Perm (E ++ [tieOf a b]) := sortT_perm _
theorem mem_addT {E : List Tie} {a b : Int} {t : Tie} : t ∈ addT E a b ↔ t ∈ E ∨ t = tieOf a b := by
 rw [(addT_perm E a b).mem_iff]; simp
theorem addT_ok {n : Int} {E : List Tie} {a b : Int} (h : canAdd n E a b) : ok n (addT E a b) := by
 obtain ⟨c1, c2, c3, c4, c5⟩ := h
 refine ⟨c1.1, c1.2.1, fun t ht => ?_, ?_⟩
 ·rcases mem_addT.1 ht with q | rfl
  ·exact c1.2.2.1 t q
  ·unfold inr tieOf
   split
   ·exact ⟨c2.1, by assumption, c3.2⟩
   ·exact ⟨c3.1, by show b < a; omega, c2.2⟩
 ·rw [asc_pairwise]
  have s := sortT_sorted (E ++ [tieOf a b])
  have nd : (addT E a b).Nodup := (addT_perm E a b).nodup_iff.2 (by
   rw [List.nodup_append]
   exact ⟨asc_nodup c1.2.2.2, by simp, fun x hx y hy e => by simp at hy; subst hy; subst e; exact c5 hx⟩)
  refine (List.Pairwise.and s nd).imp (fun {x y} h => ?_)
  rcases tlt_tri x y with q | q | q
  ·exact q
  ·exact absurd q h.2
  ·exact absurd q h.1
end Go.Proofs.YtjkeagcenmmknaaDoor.P
namespace Go.Proofs.YtjkeagcenmmknaaDoor.P
open Go.RowKit Go.Proofs.YtjkeagcenmmknaaDoorW.PrintWords Go.Proofs.YtjkeagcenmmknaaDoor.G
theorem most_add {n : Int} {E : List Tie} {a b : Int} (h : canAdd n E a b) : most E [] ≤ most (addT E a b) [] ∧ most (addT E a b) [] ≤ most E [] + 1 := by
 have h2 := addT_ok h
 have n1 : ∀ t ∈ E, t.f0 ≠ t.f1 := fun t ht e => by have := h.1.2.2.1 t ht; unfold inr at this; omega
 have n2 : ∀ t ∈ addT E a b, t.f0 ≠ t.f1 := fun t ht e => by have := h2.2.2.1 t ht; unfold inr at this; omega
 constructor
 ·obtain ⟨L, _, l2, l3⟩ := most_ex E [] n1
  rw [← l3]
  exact most_le _ _ _ ⟨fun t ht => mem_addT.2 (.inl (l2.1 t ht)), l2.2⟩
 ·obtain ⟨L, _, l2, l3⟩ := most_ex (addT E a b) [] n2
  rw [← l3]
  by_cases c : tieOf a b ∈ L
  ·obtain ⟨_, _, _, q1, q2, q3, q4⟩ := fits_erase l2 c
   rw [q1]
   refine Nat.add_le_add_right (most_le _ _ _ ⟨fun t ht => ?_, q3, fun v hv => by simp⟩) 1
   rcases mem_addT.1 (l2.1 t (q2 t ht).1) with x | x
   ·exact x
   ·exact absurd x (q2 t ht).2
  ·refine Nat.le_succ_of_le (most_le _ _ _ ⟨fun t ht => ?_, l2.2⟩)
   rcases mem_addT.1 (l2.1 t ht) with x | x
   ·exact x
   ·subst x; exact absurd ht c
theorem tie_same (n z : Int) (E : List S51) (n2 : Int) (E2 : List S51) (hE : (E.length : Int) < big) (hz : z = sizeOf n E) : Ev (fun k => laws_FnPairTie.j0 k z true n E n2 E2) true := by
 refine Ev.step (fun k => by simp only [laws_FnPairTie.j0, if_true] <;> exact rfl) ?_
 refine Ev.bind (sizeSpec n E hE) ?_
 rw [hz]
 exact Ev.val (by simp)
theorem FnPairTie_pure (l : List Int) (_hl : l.length ≤ 9223372036854775807) (h : ∀ x ∈ l, 0 ≤ x ∧ x ≤ 255) : ∃ k, laws_FnPairTie.f k l = some true := by
 refine Ev.rounds ?_
 unfold laws_FnPairTie.f
 by_cases d : (l.length : Int) > 1048576
 ·simp only [if_pos d]; exact Ev.val rfl
 simp only [if_neg d]
 obtain ⟨n, E, a, b, d1, hE⟩ := drawNetAdd_ev l h
 have hEb : (E.length : Int) < big := by unfold big; omega
 refine Ev.bind d1 (Ev.bind (sizeImpl n E hEb) (Ev.bind (netAdd_ev n a b E (by omega)) (Ev.bind (sizeSpec n E hEb) ?_)))
 simp only [if_true]
 by_cases c : canAdd n E a b
 ·simp only [if_pos c, Bool.not_true]
  have ho := addT_ok c
  have hs : sizeOf n E = (most E [] : Int) := by unfold sizeOf; rw [if_pos c.1]
  have hs2 : sizeOf n (addT E a b) = (most (addT E a b) [] : Int) := by unfold sizeOf; rw [if_pos ho]
  have m64 := sizeOf_range n E
  obtain ⟨m1, m2⟩ := most_add c
  refine Ev.step (fun k => by simp only [laws_FnPairTie.j0, Bool.false_eq_true, if_false] <;> exact rfl) ?_
  refine Ev.bind (sizeImpl n (addT E a b) (by have := ok_len ho; unfold big; omega)) ?_
  rw [hs2]
  rw [hs] at m64 ⊢
  by_cases e : (most (addT E a b) [] : Int) = (most E [] : Int)
  ·simp only [if_pos e]; exact Ev.val rfl
  ·simp only [if_neg e, w64 (x := (most E [] : Int) + 1) (by omega) (by omega)]
   exact Ev.val (by congr 1; rw [beq_iff_eq]; omega)
 ·simp only [if_neg c, Bool.not_false]
  exact tie_same n _ E _ _ hEb rfl
end Go.Proofs.YtjkeagcenmmknaaDoor.P
namespace Go.Proofs.YtjkeagcenmmknaaDoor.P
open Go.RowKit Go.Proofs.YtjkeagcenmmknaaDoorW.PrintWords Go.ChangeShapes Go.WideShapes Go.Deep
theorem read_ints {H : Type} {enc : TypeId × Value → H} {Pr : Program} {t e : TypeId} {k : IntKind} (ht : Pr.underlying t = some (.slice e)) (he : Pr.underlying e = some (.int k)) (hc : Pr.cellsOf e = 1) {w : World} {base : Nat} {spare : Nat → Bool} {held : Bool} {fuel : Nat} {cs : List Value} {x : DataW H × List MemPlace}
  (h : DataW.trod enc Pr w base spare held fuel t cs = some x) :
  ∃ (A : Option Addr) (c : Nat) (l : List Int), cs = [.slice A l.length c] ∧ l.length ≤ c ∧ Kd.C (Kd.int k) w A l.length l ∧ ∀ n ∈ l, (Lit.int k n).wf = true := by
 rcases open_slice1 ht hc h with ⟨rfl, _⟩ | ⟨a, len, cap, m, n, V, D, Pl, rfl, hb, hl, hm, hmm, hx, hi⟩
 ·exact ⟨none, 0, [], rfl, Nat.le_refl _, ⟨rfl, by simp, fun h => by simp at h⟩, fun t ht => by simp at ht⟩
 ·have hlm : len ≤ m := by rw [hmm]; split <;> omega
  have key : ∀ i, i < len → ∃ z : Int, w.cell? (a.add i) = some (.int k z) ∧ (Lit.int k z).wf = true := by
   intro i hil
   obtain ⟨h0, r0⟩ := hi i (by omega)
   obtain ⟨n0, e0, _, w0⟩ := DataW.trod_int he r0
   simp only [List.cons.injEq, and_true] at e0
   exact ⟨n0, by rw [h0, e0], w0⟩
  obtain ⟨f, hf⟩ := choose_lt key
  refine ⟨some a, cap, (List.range len).map f, by simp, by simpa using hl, ⟨by simp, ?_, fun _ => ⟨a, rfl, fun j p hj => ?_⟩⟩, fun t ht => ?_⟩
  ·unfold maxLen at hm; simp; omega
  ·obtain ⟨hj1, hj2⟩ := List.getElem?_eq_some_iff.1 hj
   simp at hj1 hj2
   subst hj2
   refine ⟨[.int k (f j)], rfl, rfl, fun i u hu => ?_⟩
   match i, hu with
   | 0, hu =>
    simp at hu; subst hu
    have : j * (Kd.int k).sz + 0 = j := Nat.mul_one j
    rw [this]
    exact (hf j hj1).1
  ·simp at ht
   obtain ⟨i, hil, rfl⟩ := ht
   exact (hf i hil).2
end Go.Proofs.YtjkeagcenmmknaaDoor.P
namespace Go.Proofs.YtjkeagcenmmknaaDoor.P
open Go.RowKit Go.ChangeShapes Go.WideShapes Go.ChangeAt
abbrev laidAll : List (String × DataW Unit) := [("math/bits.deBruijn32tab", Rows.laid_math_bits_deBruijn32tab), ("math/bits.deBruijn64tab", Rows.laid_math_bits_deBruijn64tab)]
theorem gNamed : Tryd.prog.globalNamed "math/bits.deBruijn64tab" = some 1 := by kernel_rfl
theorem gType : (Tryd.prog.globals[1]?).map (·.type) = some 112 := by kernel_rfl
theorem lay_of {W : World} (h : laidMetH Tryd.prog laidAll W) : TabAt 1 Lib.deBruijn64tab W := by
 rw [MakeChecks.laidMetH_plain _ _ _ (by kernel_rfl)] at h
 have hT : Lib.TabIs Tryd.prog W "math/bits.deBruijn64tab" .u8 (Lib.deBruijn64tab.map Int.ofNat) :=
  Lib.tabIs_of_head gNamed gType Tryd.underlying112 Tryd.underlying5 (by kernel_rfl) (by kernel_rfl) (laidMet.tail h)
 intro j hj
 have := hT.cell gNamed j (by simpa using hj)
 rw [this]
 congr 2
 simp [List.getD_eq_getElem?_getD, List.getElem?_map]
 cases Lib.deBruijn64tab[j]? <;> rfl
theorem door_met (os : Os) (args : Array Value) : laidMetH Tryd.prog laidAll ((World.doorLaid Tryd.prog 19 os).forCall (fun _ _ => 0) ⟨#[], args, []⟩).memory :=
 laidMetH_of_parts3 (fuel := 8) (laidMet_of_run' 8 (by kernel_rfl) (by kernel_rfl)) (by kernel_rfl) (by kernel_rfl)
end Go.Proofs.YtjkeagcenmmknaaDoor.P
