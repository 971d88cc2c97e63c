/- Whether one can go over all ties: what the reference comes to. -/
import Derived.Test.YtbkdpnfjcnkoeaaBok
import Derived.Test.YtbkdpnfjcnkoeaaBreach
import Derived.Test.YtbkdpnfjcnkoeaaGd
import Derived.Test.YtbkdpnfjcnkoeaaF5
namespace Go.Proofs.Ytbkdpnfjcnkoeaa.P
set_option linter.unusedSimpArgs false
set_option linter.unusedVariables false
open Go.RowKit Go.Proofs.YtbkdpnfjcnkoeaaW.PrintWords Go.Proofs.Ytbkdpnfjcnkoeaa.G
theorem tcanSpec_l0 (n a : Int) (E : List S63) (hE : ok n E) (f : List Bool) (hf : (f.length : Int) = n) (hfc : ∀ v, 0 ≤ v → v < n → (rdOf false f v = true ↔ Conn E a v)) : ∀ (d : Nat) (i : Int), 0 ≤ i → i + d = n →
    EvP (fun k => spec_TrailCan.l0 k a f (odds E i : Int) i n E) ((∀ v, i ≤ v → v < n → 0 < deg E v → Conn E a v) ∧ evenly n E a) := by
  have h8 := hE.2.1
  intro d
  induction d with
  | zero =>
    intro i h0 hi
    have hi' : i = n := by omega
    subst hi'
    have c : ¬ i < i := by omega
    refine EvP.step (fun k => by simp only [spec_TrailCan.l0, c, if_false] <;> exact rfl) ?_
    by_cases e0 : (odds E i : Int) = 0
    · simp only [if_pos e0]
      exact EvP.true_ ⟨fun v h1 h2 => by omega, .inl (by omega)⟩
    · simp only [if_neg e0]
      by_cases e2 : (odds E i : Int) = 2
      · simp only [if_pos e2]
        refine EvP.bind (next_ev i a E hE) ⟨_, Ev.val rfl, ?_⟩
        rw [next_len hE, beq_iff_eq]
        unfold evenly
        constructor
        · intro h; exact ⟨fun v h1 h2 => by omega, .inr ⟨by omega, by omega⟩⟩
        · rintro ⟨_, h | h⟩ <;> omega
      · simp only [if_neg e2]
        refine EvP.false_ ?_
        rintro ⟨_, h | h⟩ <;> omega
  | succ d ih =>
    intro i h0 hi
    have c : i < n := by omega
    have c1 : i < (f.length : Int) := by omega
    have w : wrap64 (i + 1) = i + 1 := w64 (by omega) (by omega)
    have hol := odds_le E i.toNat
    rw [Int.toNat_of_nonneg h0] at hol
    have w2 : wrap64 ((odds E i : Int) + (((next n E i).length : Int) % 2)) = (odds E (i + 1) : Int) := by
      rw [next_len hE, odds_succ h0, w64 (by omega) (by omega)]
      omega
    refine EvP.step (fun k => by simp only [spec_TrailCan.l0, c, if_true, h0, c1, w] <;> exact rfl) ?_
    refine EvP.bind (next_ev n i E hE) ?_
    simp only [w2]
    have e := ih (i + 1) (by omega) (by omega)
    have hsplit : (∀ v, i ≤ v → v < n → 0 < deg E v → Conn E a v) ↔ (0 < deg E i → Conn E a i) ∧ ∀ v, i + 1 ≤ v → v < n → 0 < deg E v → Conn E a v := by
      constructor
      · exact fun h => ⟨h i (by omega) c, fun v h1 => h v (by omega)⟩
      · rintro ⟨h1, h2⟩ v h3 h4
        by_cases q : v = i
        · subst q; exact h1
        · exact h2 v (by omega) h4
    by_cases g : ((next n E i).length : Int) > 0
    · simp only [if_pos g]
      have gd : 0 < deg E i := by rw [next_len hE] at g; omega
      by_cases r : rdOf false f i = true
      · simp only [if_pos r]
        refine e.iff ?_
        rw [hsplit]
        have := (hfc i h0 c).1 r
        exact ⟨fun h => ⟨⟨fun _ => this, h.1⟩, h.2⟩, fun h => ⟨h.1.2, h.2⟩⟩
      · simp only [if_neg r]
        refine EvP.false_ ?_
        rintro ⟨h, _⟩
        exact r ((hfc i h0 c).2 (h i (Int.le_refl _) c gd))
    · simp only [if_neg g]
      have gd : ¬ 0 < deg E i := by rw [next_len hE] at g; omega
      refine e.iff ?_
      rw [hsplit]
      exact ⟨fun h => ⟨⟨fun q => absurd q gd, h.1⟩, h.2⟩, fun h => ⟨h.1.2, h.2⟩⟩
theorem tcanSpec (n a : Int) (E : List S63) (hE : (E.length : Int) < big) : EvP (fun k => spec_TrailCan.f k n E a) (trailCan n E a) := by
  unfold spec_TrailCan.f
  refine EvP.test (EvP.of (l1Knot_ev n a E hE)) (fun h => ?_) (fun h => ?_)
  · obtain ⟨hok, h0, h1⟩ := h
    obtain ⟨f, f1, f2, f3⟩ := reach_ev n E a hok h0 h1
    simp only [if_true]
    refine EvP.bind f1 ?_
    have z : ((odds E 0 : Nat) : Int) = 0 := by simp [odds, knots]
    have e := tcanSpec_l0 n a E hok f f2 f3 n.toNat 0 (Int.le_refl 0) (by omega)
    rw [z] at e
    refine e.iff ?_
    rw [all_conn hok.2.2.1]
    unfold trailCan
    exact ⟨fun h => ⟨hok, ⟨h0, h1⟩, h.1, h.2⟩, fun h => ⟨h.2.2.1, h.2.2.2⟩⟩
  · simp only [Bool.false_eq_true, if_false]
    exact EvP.false_ (fun q => h ⟨q.1, q.2.1.1, q.2.1.2⟩)
end Go.Proofs.Ytbkdpnfjcnkoeaa.P
