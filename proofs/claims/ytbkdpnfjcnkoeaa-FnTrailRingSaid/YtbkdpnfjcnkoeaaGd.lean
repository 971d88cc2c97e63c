/- How many ties knots have, and how many of these numbers are odd: plain facts. -/
import Derived.Test.YtbkdpnfjcnkoeaaGc
namespace Go.Proofs.Ytbkdpnfjcnkoeaa.G
set_option linter.unusedSimpArgs false
set_option linter.unusedVariables false
open Go.RowKit Go.Proofs.YtbkdpnfjcnkoeaaW.PrintWords
theorem deg_snoc (p : List Tie) (t : Tie) (v : Int) : deg (p ++ [t]) v = deg p v + if t.f0 = v ∨ t.f1 = v then 1 else 0 := by
  unfold deg
  rw [List.filter_append, List.length_append]
  by_cases c : t.f0 = v ∨ t.f1 = v
  · simp [c]
  · simp [c]
theorem deg_pos {E : List Tie} {v : Int} : 0 < deg E v ↔ ∃ t ∈ E, t.f0 = v ∨ t.f1 = v := by
  unfold deg
  rw [List.length_pos_iff_exists_mem]
  constructor
  · rintro ⟨t, ht⟩
    rw [List.mem_filter, decide_eq_true_eq] at ht
    exact ⟨t, ht.1, ht.2⟩
  · rintro ⟨t, ht, h⟩
    exact ⟨t, List.mem_filter.2 ⟨ht, decide_eq_true h⟩⟩
theorem deg_le (E : List Tie) (v : Int) : deg E v ≤ E.length := List.length_filter_le _ _
/-- how many of the first knots have an odd number of ties -/
def odds (E : List Tie) (i : Int) : Nat := ((knots i).map fun v => deg E v % 2).sum
theorem odds_succ {E : List Tie} {i : Int} (h : 0 ≤ i) : odds E (i + 1) = odds E i + deg E i % 2 := by
  unfold odds
  rw [knots_succ h, List.map_append, List.sum_append]
  simp
theorem odds_le (E : List Tie) : ∀ (d : Nat), odds E d ≤ d := by
  intro d
  induction d with
  | zero => simp [odds, knots]
  | succ d ih =>
    have := odds_succ (E := E) (i := (d : Int)) (by omega)
    have e : ((d + 1 : Nat) : Int) = (d : Int) + 1 := by omega
    rw [e, this]
    omega
/-- the numbers of ties let one go over all of them from a knot -/
def evenly (n : Int) (E : List Tie) (a : Int) : Prop := odds E n = 0 ∨ odds E n = 2 ∧ deg E a % 2 = 1
def trailCan (n : Int) (E : List Tie) (a : Int) : Prop := ok n E ∧ (0 ≤ a ∧ a < n) ∧ (∀ t ∈ E, Conn E a t.f0) ∧ evenly n E a
theorem all_conn {n a : Int} {E : List Tie} (hE : ∀ t ∈ E, inr n t) : (∀ v, 0 ≤ v → v < n → 0 < deg E v → Conn E a v) ↔ ∀ t ∈ E, Conn E a t.f0 := by
  constructor
  · intro h t ht
    have := hE t ht
    unfold inr at this
    exact h t.f0 (by omega) (by omega) (deg_pos.2 ⟨t, ht, .inl rfl⟩)
  · intro h v h0 h1 hd
    obtain ⟨t, ht, e⟩ := deg_pos.1 hd
    have hr := hE t ht
    rcases e with e | e
    · rw [← e]; exact h t ht
    · rw [← e]; exact (h t ht).trans (Conn.tie ht hr.2.1)
theorem ext_knots {n : Int} {f : List Int} {g : Int → Int} (hl : (f.length : Int) = n) (h : ∀ v, 0 ≤ v → v < n → rd f v = g v) : f = (knots n).map g := by
  apply List.ext_getElem?
  intro i
  by_cases hi : i < f.length
  · have e := h i (by omega) (by omega)
    unfold rd at e
    rw [List.getD_eq_getElem?_getD, Int.toNat_natCast, List.getElem?_eq_getElem hi] at e
    unfold knots
    rw [List.getElem?_map, List.getElem?_map, List.getElem?_range (by omega), List.getElem?_eq_getElem hi]
    simp at e ⊢
    exact e
  · rw [List.getElem?_eq_none (by omega), List.getElem?_eq_none (by rw [List.length_map, knots_len]; omega)]
theorem rd_map_knots {n v : Int} (g : Int → Int) (h0 : 0 ≤ v) (h1 : v < n) : rd ((knots n).map g) v = g v := by
  unfold rd knots
  rw [List.getD_eq_getElem?_getD, List.getElem?_map, List.getElem?_map, List.getElem?_range (by omega)]
  simp [Int.toNat_of_nonneg h0]
/-- of each knot: how many ties -/
def degs (n : Int) (p : List Tie) : List Int := (knots n).map fun v => (deg p v : Int)
theorem degs_len (n : Int) (p : List Tie) (h : 0 ≤ n) : ((degs n p).length : Int) = n := by
  unfold degs; rw [List.length_map, knots_len]; omega
end Go.Proofs.Ytbkdpnfjcnkoeaa.G
