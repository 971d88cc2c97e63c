/- The draws: whatever bytes come, a net comes that is not large. -/
import Derived.Test.YtjkeagcenmmknaaDoorBks
import Derived.Test.YtjkeagcenmmknaaDoorF7
import Derived.Test.YtjkeagcenmmknaaDoorF8
import Derived.Test.YtjkeagcenmmknaaDoorF11
namespace Go.Proofs.YtjkeagcenmmknaaDoor.G
set_option linter.unusedSimpArgs false
set_option linter.unusedVariables false
open Go.RowKit Go.Proofs.YtjkeagcenmmknaaDoorW.PrintWords
def octs (l : List Int) : Prop := ∀ x ∈ l, 0 ≤ x ∧ x ≤ 255
theorem rd_byte {l : List Int} (h : octs l) (i : Int) : 0 ≤ rd l i ∧ rd l i ≤ 255 := by
  unfold rd
  by_cases c : i.toNat < l.length
  · rw [List.getD_eq_getElem?_getD, List.getElem?_eq_getElem c]
    exact h _ (List.getElem_mem c)
  · rw [List.getD_eq_getElem?_getD, List.getElem?_eq_none (by omega)]
    simp
theorem xor_nn {a b : Int} (h0 : 0 ≤ a) (h1 : a < 9223372036854775808) (h2 : 0 ≤ b) (h3 : b < 9223372036854775808) : 0 ≤ Go.bits .xor .i64 a b := by
  obtain ⟨x, rfl⟩ := Int.eq_ofNat_of_zero_le h0
  obtain ⟨y, rfl⟩ := Int.eq_ofNat_of_zero_le h2
  have hx : x ^^^ y < 2 ^ 63 := Nat.xor_lt_two_pow (by omega) (by omega)
  have e1 : (BitVec.ofInt 64 (x : Int)).toNat = x := by
    rw [BitVec.ofInt_natCast, BitVec.toNat_ofNat]; exact Nat.mod_eq_of_lt (by omega)
  have e2 : (BitVec.ofInt 64 (y : Int)).toNat = y := by
    rw [BitVec.ofInt_natCast, BitVec.toNat_ofNat]; exact Nat.mod_eq_of_lt (by omega)
  show 0 ≤ IntKind.i64.wrap ((BitVec.ofInt 64 (x : Int) ^^^ BitVec.ofInt 64 (y : Int)).toNat : Int)
  rw [BitVec.toNat_xor, e1, e2]
  simp [IntKind.wrap, IntKind.bits, IntKind.signed]
  omega
theorem tmod_nn {a b : Int} (h : 0 ≤ a) (hb : 0 < b) : 0 ≤ Int.tmod a b ∧ Int.tmod a b < b := by
  rw [Int.tmod_eq_emod_of_nonneg h]
  exact ⟨Int.emod_nonneg _ (by omega), Int.emod_lt_of_pos _ hb⟩
theorem tdiv_nn {a b : Int} (h : 0 ≤ a) (hb : 0 ≤ b) : 0 ≤ Int.tdiv a b ∧ Int.tdiv a b ≤ a := by
  rw [Int.tdiv_eq_ediv_of_nonneg h]
  exact ⟨Int.ediv_nonneg h hb, Int.ediv_le_self _ h⟩
/-- what a draw of a net comes to -/
def Drawn (lo hi : Int) (M : Nat) (c p : Int) (r : Int × List Tie × Int) : Prop := lo ≤ r.1 ∧ r.1 ≤ hi ∧ r.2.1.length ≤ M ∧ p ≤ r.2.2 ∧ r.2.2 ≤ p + c
end Go.Proofs.YtjkeagcenmmknaaDoor.G
namespace Go.Proofs.YtjkeagcenmmknaaDoor.P
set_option linter.unusedSimpArgs false
set_option linter.unusedVariables false
open Go.RowKit Go.Proofs.YtjkeagcenmmknaaDoorW.PrintWords Go.Proofs.YtjkeagcenmmknaaDoor.G
theorem open_eq (l : List Int) (h : octs l) : ∃ s, spec_l6Open.f l = some (s, 0) ∧ octs s ∧ s.length ≤ 2000 := by
  unfold spec_l6Open.f
  by_cases c : (l.length : Int) > 2000
  · have c2 : (2000 : Int) ≤ (l.length : Int) := by omega
    exact ⟨l.take 2000, by simp only [if_pos c, if_pos c2], fun x hx => h x (List.mem_of_mem_take hx), List.length_take_le _ _⟩
  · exact ⟨l, by simp only [if_neg c], h, by omega⟩
theorem pick_ev (s : List Int) (hs : octs s) (hl : s.length ≤ 2000) (p n : Int) (h0 : 0 ≤ p) (h1 : p ≤ 100000) :
    ∃ v, Ev (fun k => spec_l6Rd_pick.f k s p n) (v, p + 1) ∧ 0 ≤ v ∧ (v < n ∨ n < 1 ∧ v = 0) := by
  unfold spec_l6Rd_pick.f
  rw [w64 (x := p + 1) (by omega) (by omega)]
  by_cases c : n < 1
  · refine ⟨0, ?_, Int.le_refl 0, .inr ⟨c, rfl⟩⟩
    simp only [if_pos c]
    exact Ev.step (fun k => by simp only [spec_l6Rd_pick.j0, if_true] <;> exact rfl) (Ev.val rfl)
  simp only [if_neg c]
  by_cases z : (s.length : Int) = 0
  · refine ⟨0, ?_, Int.le_refl 0, .inl (by omega)⟩
    have z' : ((s.length : Int) == 0) = true := beq_iff_eq.2 z
    exact Ev.step (fun k => by simp only [spec_l6Rd_pick.j0, z', if_true] <;> exact rfl) (Ev.val rfl)
  have z' : ((s.length : Int) == 0) = false := beq_eq_false_iff_ne.2 z
  have zp : (0 : Int) < s.length := by omega
  have e1 : wrap64 (p + 1 - 1) = p := by rw [w64 (by omega) (by omega)]; omega
  have n0 : ¬ n = 0 := by omega
  by_cases d : p < (s.length : Int)
  · have hb := rd_byte hs p
    have t := tmod_nn hb.1 (b := n) (by omega)
    refine ⟨Int.tmod (rd s p) n, ?_, t.1, .inl t.2⟩
    refine Ev.step (fun k => by simp only [spec_l6Rd_pick.j0, z', Bool.false_eq_true, if_false, e1, if_pos d, if_pos h0, if_neg n0, w64 (x := rd s p) (by omega) (by omega)] <;> exact rfl) (Ev.val rfl)
  · have t1 := tmod_nn h0 zp
    have w1 : wrap64 (p * 7) = p * 7 := w64 (by omega) (by omega)
    have w2 : wrap64 (p * 7 + 3) = p * 7 + 3 := w64 (by omega) (by omega)
    have t2 := tmod_nn (a := p * 7 + 3) (by omega) zp
    have b1 := rd_byte hs (Int.tmod p (s.length : Int))
    have b2 := rd_byte hs (Int.tmod (p * 7 + 3) (s.length : Int))
    have q := tdiv_nn h0 (b := (s.length : Int)) (by omega)
    generalize hu : rd s (Int.tmod p (s.length : Int)) = u at b1
    generalize hv : rd s (Int.tmod (p * 7 + 3) (s.length : Int)) = v at b2
    generalize hy : Int.tdiv p (s.length : Int) = y at q
    have hx0 : 0 ≤ u * 131 + v * 1117 + p * 29 + y * 53 := by omega
    have hx1 : u * 131 + v * 1117 + p * 29 + y * 53 < 100000000 := by omega
    have q2 := tdiv_nn hx0 (b := 64) (by omega)
    have w3 : wrap64 (wrap64 (wrap64 (wrap64 (wrap64 u * 131) + wrap64 (wrap64 v * 1117)) + wrap64 (p * 29)) + wrap64 (wrap64 y * 53)) = u * 131 + v * 1117 + p * 29 + y * 53 := by
      rw [w64 (x := u) (by omega) (by omega), w64 (x := v) (by omega) (by omega), w64 (x := y) (by omega) (by omega), w64 (x := u * 131) (by omega) (by omega), w64 (x := v * 1117) (by omega) (by omega), w64 (x := y * 53) (by omega) (by omega), w64 (x := p * 29) (by omega) (by omega), w64 (x := u * 131 + v * 1117) (by omega) (by omega), w64 (x := u * 131 + v * 1117 + p * 29) (by omega) (by omega), w64 (by omega) (by omega)]
    have w4 : wrap64 (Int.tdiv (u * 131 + v * 1117 + p * 29 + y * 53) 64) = Int.tdiv (u * 131 + v * 1117 + p * 29 + y * 53) 64 := w64 (by omega) (by omega)
    generalize hX : u * 131 + v * 1117 + p * 29 + y * 53 = X at *
    have x0 := xor_nn hx0 (by omega) q2.1 (by omega)
    have t := tmod_nn x0 (b := n) (by omega)
    refine ⟨Int.tmod (Go.bits .xor .i64 X (Int.tdiv X 64)) n, ?_, t.1, .inl t.2⟩
    refine Ev.step (fun k => by simp only [spec_l6Rd_pick.j0, z', Bool.false_eq_true, if_false, e1, if_neg d, if_neg z, w1, w2, if_pos t1.1, if_pos t1.2, if_pos t2.1, if_pos t2.2, if_neg n0, hu, hv, hy, w3, w4] <;> exact rfl) (Ev.val rfl)
theorem add_l0 (n m a b : Int) : ∀ (suf p q : List S51) (f : Bool), ((p ++ suf).length : Int) ≤ 1048576 → q.length ≤ p.length + (if f then 1 else 0) →
    ∃ E, Ev (fun k => spec_NetAdd.l0 k f (p.length : Int) n (p ++ suf) m q a b) (m, E, true) ∧ E.length ≤ (p ++ suf).length + 1 := by
  intro suf
  induction suf with
  | nil =>
    intro p q f hb hq
    have hq8 : q.length < 8796093022208 := by rw [List.length_append] at hb; split at hq <;> omega
    cases f with
    | true => exact ⟨q, Ev.step (fun k => by simp only [spec_NetAdd.l0, nlt_end, if_false, if_true] <;> exact rfl) (Ev.val rfl), by simpa using hq⟩
    | false => exact ⟨q ++ [⟨a, b⟩], Ev.step (fun k => by simp only [spec_NetAdd.l0, nlt_end, if_false, Bool.false_eq_true, if_pos hq8] <;> exact rfl) (Ev.val rfl), by simp at hq ⊢; omega⟩
  | cons t suf ih =>
    intro p q f hb hq
    have hb' : ((p ++ t :: suf).length : Int) < big := by unfold big; omega
    have hp : (p.length : Int) < big := len_mid hb'
    have hq8 : q.length + 1 < 8796093022208 := by rw [List.length_append] at hb; split at hq <;> omega
    have hq7 : q.length < 8796093022208 := by omega
    have hb2 : (((p ++ [t]) ++ suf).length : Int) ≤ 1048576 := by rw [← app_one]; exact hb
    cases f with
    | true =>
      obtain ⟨E, e1, e2⟩ := ih (p ++ [t]) (q ++ [t]) true hb2 (by simp at hq ⊢; omega)
      rw [app_one p t suf]
      refine ⟨E, Ev.step (fun k => by simp only [← app_one, spec_NetAdd.l0, lt_mid, nn, if_true, rdH_mid, w_succ (t := t) hp, if_pos hq7] <;> exact rfl) ?_, e2⟩
      rw [app_one p t suf]
      exact e1
    | false =>
      have s0 : spec_NetAdd.l0 = spec_NetAdd.l0 := rfl
      by_cases c : tlt ⟨a, b⟩ ⟨t.f0, t.f1⟩
      · obtain ⟨E, e1, e2⟩ := ih (p ++ [t]) (q ++ [⟨a, b⟩, t]) true hb2 (by simp at hq ⊢; omega)
        have hq9 : (q ++ [(⟨a, b⟩ : S51)]).length < 8796093022208 := by simp; omega
        rw [app_one p t suf]
        refine ⟨E, Ev.step (fun k => by simp only [← app_one, spec_NetAdd.l0, lt_mid, nn, if_true, Bool.false_eq_true, if_false, rdH_mid, w_succ (t := t) hp, less_eq, Option.bind_some, decide_eq_true c, if_pos hq7, if_pos hq9] <;> exact rfl) ?_, e2⟩
        rw [app_one p t suf]
        exact e1
      · obtain ⟨E, e1, e2⟩ := ih (p ++ [t]) (q ++ [t]) false hb2 (by simp at hq ⊢; omega)
        rw [app_one p t suf]
        refine ⟨E, Ev.step (fun k => by simp only [← app_one, spec_NetAdd.l0, lt_mid, nn, if_true, Bool.false_eq_true, if_false, rdH_mid, w_succ (t := t) hp, less_eq, Option.bind_some, decide_eq_false c, if_pos hq7] <;> exact rfl) ?_, e2⟩
        rw [app_one p t suf]
        exact e1
/-- a tie more, or no net -/
theorem add_ev (n a b : Int) (E : List S51) (hE : (E.length : Int) ≤ 1048576) :
    ∃ m F t, Ev (fun k => spec_NetAdd.f k n E a b) (m, F, t) ∧ F.length ≤ E.length + 1 ∧ (m = n ∨ m = 0) := by
  have hb : (E.length : Int) < big := by unfold big; omega
  have no : Ev (fun k => spec_NetAdd.j0 k a b true n E) (0, [], false) := Ev.step (fun k => by simp only [spec_NetAdd.j0, if_true] <;> exact rfl) (Ev.val rfl)
  unfold spec_NetAdd.f
  by_cases c : ok n E ∧ 0 ≤ a ∧ a < n
  · by_cases d : ok n E ∧ 0 ≤ b ∧ b < n
    · have h1 : ∀ v : Bool, ∃ m F t, Ev (fun k => spec_NetAdd.j0 k a b v n E) (m, F, t) ∧ F.length ≤ E.length + 1 ∧ (m = n ∨ m = 0) := by
        intro v
        cases v with
        | true => exact ⟨0, [], false, no, by simp, .inr rfl⟩
        | false =>
          obtain ⟨F, e1, e2⟩ := add_l0 n n (tieOf a b).f0 (tieOf a b).f1 E [] [] false hE (by simp)
          refine ⟨n, F, true, ?_, e2, .inl rfl⟩
          exact Ev.step (fun k => by simp only [spec_NetAdd.j0, Bool.false_eq_true, if_false, l1Tie_eq, Option.bind_some] <;> exact rfl) e1
      by_cases e : a = b
      · obtain ⟨m, F, t, e1, e2⟩ := h1 true
        refine ⟨m, F, t, Ev.bind (l1Knot_ev n a E hb) ?_, e2⟩
        simp only [c, and_self, decide_true, if_true]
        refine Ev.bind (l1Knot_ev n b E hb) ?_
        simp only [d, and_self, decide_true, if_true, if_pos e]
        exact e1
      · obtain ⟨m, F, t, e1, e2⟩ := h1 (decide (ok n E ∧ tieOf a b ∈ E))
        refine ⟨m, F, t, Ev.bind (l1Knot_ev n a E hb) ?_, e2⟩
        simp only [c, and_self, decide_true, if_true]
        refine Ev.bind (l1Knot_ev n b E hb) ?_
        simp only [d, and_self, decide_true, if_true, if_neg e]
        exact Ev.bind (specHas_ev n a b E hb) e1
    · refine ⟨0, [], false, Ev.bind (l1Knot_ev n a E hb) ?_, by simp, .inr rfl⟩
      simp only [c, and_self, decide_true, if_true]
      refine Ev.bind (l1Knot_ev n b E hb) ?_
      simp only [d, decide_false, Bool.false_eq_true, if_false]
      exact no
  · refine ⟨0, [], false, Ev.bind (l1Knot_ev n a E hb) ?_, by simp, .inr rfl⟩
    simp only [c, decide_false, Bool.false_eq_true, if_false]
    exact no
end Go.Proofs.YtjkeagcenmmknaaDoor.P
