/- The program's parts of a net: of each knot the least one of its part. -/
import Derived.Test.YtbkdpnfjcnkoeaaBki
import Derived.Test.YtbkdpnfjcnkoeaaGc
import Derived.Test.YtbkdpnfjcnkoeaaF8
namespace Go.Proofs.Ytbkdpnfjcnkoeaa.G
set_option linter.unusedSimpArgs false
set_option linter.unusedVariables false
open Go.RowKit Go.Proofs.YtbkdpnfjcnkoeaaW.PrintWords
theorem rd_set {f : List Int} {u v x : Int} (hu : 0 ≤ u) (hu2 : u < (f.length : Int)) (hv : 0 ≤ v) : rd (f.set u.toNat x) v = if u = v then x else rd f v := by
  unfold rd
  rw [List.getD_eq_getElem?_getD, List.getD_eq_getElem?_getD, List.getElem?_set]
  by_cases c : u = v
  · subst c
    rw [if_pos rfl, if_pos (by omega), if_pos rfl]; rfl
  · rw [if_neg (by omega), if_neg c]
/-- the sum of the labels -/
def tot (f : List Int) : Nat := (f.map Int.toNat).sum
theorem tot_set : ∀ {f : List Int} {i : Nat} {x : Int}, i < f.length → 0 ≤ x → 0 ≤ f.getD i 0 → (tot (f.set i x) : Int) = tot f - f.getD i 0 + x
  | [], i, _, h, _, _ => absurd h (Nat.not_lt_zero _)
  | b :: f, 0, x, h, hx, hb => by
    have hb' : 0 ≤ b := hb
    simp [tot]
    omega
  | b :: f, i + 1, x, h, hx, hb => by
    have ih := tot_set (f := f) (i := i) (x := x) (by simpa using h) hx (by simpa using hb)
    rw [List.set_cons_succ]
    simp [tot] at ih ⊢
    omega
/-- what the labels are like at every time -/
structure Lab (n : Int) (E : List Tie) (f : List Int) : Prop where
  len : (f.length : Int) = n
  low : ∀ v, 0 ≤ v → v < n → 0 ≤ rd f v ∧ rd f v ≤ v
  conn : ∀ v, 0 ≤ v → v < n → Conn E v (rd f v)
/-- of each knot the least one of its part -/
structure Parts (n : Int) (E : List Tie) (f : List Int) : Prop where
  len : (f.length : Int) = n
  low : ∀ v, 0 ≤ v → v < n → 0 ≤ rd f v ∧ rd f v ≤ v
  conn : ∀ v, 0 ≤ v → v < n → Conn E v (rd f v)
  same : ∀ u v, 0 ≤ u → u < n → 0 ≤ v → v < n → Conn E u v → rd f u = rd f v
theorem Parts.iff {n : Int} {E : List Tie} {f : List Int} (h : Parts n E f) {u v : Int} (hu : 0 ≤ u ∧ u < n) (hv : 0 ≤ v ∧ v < n) : rd f u = rd f v ↔ Conn E u v :=
  ⟨fun e => (h.conn u hu.1 hu.2).trans (e ▸ (h.conn v hv.1 hv.2).symm), h.same u v hu.1 hu.2 hv.1 hv.2⟩
theorem Parts.least {n : Int} {E : List Tie} {f : List Int} (h : Parts n E f) {u v : Int} (hu : 0 ≤ u ∧ u < n) (hv : 0 ≤ v ∧ v < n) (hc : Conn E u v) : rd f u ≤ v := by
  rw [h.same u v hu.1 hu.2 hv.1 hv.2 hc]
  exact (h.low v hv.1 hv.2).2
theorem Parts.unique {n : Int} {E : List Tie} {f g : List Int} (h : Parts n E f) (k : Parts n E g) : f = g := by
  apply List.ext_getElem?
  intro i
  have hf := h.len
  have hg := k.len
  by_cases hi : i < f.length
  · have e : rd f i = rd g i := by
      have h0 : (0 : Int) ≤ (i : Int) := by omega
      have h1 : (i : Int) < n := by omega
      have a := h.low i h0 h1
      have b := k.low i h0 h1
      have c := h.least ⟨h0, h1⟩ ⟨b.1, by omega⟩ (k.conn i h0 h1)
      have d := k.least ⟨h0, h1⟩ ⟨a.1, by omega⟩ (h.conn i h0 h1)
      omega
    unfold rd at e
    rw [List.getD_eq_getElem?_getD, List.getD_eq_getElem?_getD, Int.toNat_natCast, List.getElem?_eq_getElem hi, List.getElem?_eq_getElem (by omega)] at e
    rw [List.getElem?_eq_getElem hi, List.getElem?_eq_getElem (by omega)]
    simpa using e
  · rw [List.getElem?_eq_none (by omega), List.getElem?_eq_none (by omega)]
theorem Lab.parts {n : Int} {E : List Tie} {f : List Int} (h : Lab n E f) (hE : ∀ t ∈ E, inr n t) (he : ∀ t ∈ E, rd f t.f0 = rd f t.f1) : Parts n E f := by
  refine ⟨h.len, h.low, h.conn, fun u v hu hu1 hv hv1 hc => ?_⟩
  refine hc.closed (fun x => rd f u = rd f x) rfl (fun x y hx ht => ?_)
  have hr := hE _ ht
  have e := he _ ht
  rw [hx]
  unfold tieOf at e
  by_cases c : x < y
  · rw [if_pos c] at e; exact e
  · rw [if_neg c] at e; exact e.symm
end Go.Proofs.Ytbkdpnfjcnkoeaa.G
namespace Go.Proofs.Ytbkdpnfjcnkoeaa.P
set_option linter.unusedSimpArgs false
set_option linter.unusedVariables false
open Go.RowKit Go.Proofs.YtbkdpnfjcnkoeaaW.PrintWords Go.Proofs.Ytbkdpnfjcnkoeaa.G
theorem mn_eq (a b : Int) : mn a b = if b < a then b else a := rfl
theorem parts_l2 (n : Int) (E : List S63) (hE : ok n E) : ∀ (suf p : List S63) (f : List Int) (b : Bool), p ++ suf = E → Lab n E f →
    ∃ f' b', Lab n E f' ∧ tot f' ≤ tot f ∧ (b' = false → b = false ∧ f' = f ∧ ∀ t ∈ suf, rd f t.f0 = rd f t.f1) ∧ (b' = true → b = true ∨ tot f' < tot f) ∧
      ∀ r, Ev (fun k => impl_Net_parts.l1 k f' b' n E) r → Ev (fun k => impl_Net_parts.l2 k f b (p ++ suf) ((p ++ suf).length : Int) (p.length : Int) n E) r := by
  intro suf
  have hEb : (E.length : Int) < big := by have := ok_len hE; unfold big; omega
  induction suf with
  | nil =>
    intro p f b he hL
    refine ⟨f, b, hL, Nat.le_refl _, fun h => ⟨h, rfl, by simp⟩, fun h => .inl h, fun r hr => ?_⟩
    refine Ev.step (fun k => by simp only [impl_Net_parts.l2, nlt_end, if_false] <;> exact rfl) hr
  | cons t suf ih =>
    intro p f b he hL
    have hp : (p.length : Int) < big := len_mid (by rw [he]; exact hEb)
    have ht : t ∈ E := by rw [← he]; simp
    have hr := hE.2.2.1 t ht
    unfold inr at hr
    have b1 : 0 ≤ t.f0 := hr.1
    have b2 : t.f0 < (f.length : Int) := by rw [hL.len]; omega
    have b3 : 0 ≤ t.f1 := by omega
    have b4 : t.f1 < (f.length : Int) := by rw [hL.len]; omega
    by_cases c : rd f t.f0 = rd f t.f1
    · obtain ⟨f', b', h1, h2, h3, h4, h5⟩ := ih (p ++ [t]) f b (by rw [← he]; simp) hL
      refine ⟨f', b', h1, h2, fun e => ?_, h4, fun r hr => ?_⟩
      · obtain ⟨x, y, z⟩ := h3 e
        refine ⟨x, y, fun s hs => ?_⟩
        rcases List.mem_cons.1 hs with rfl | hs
        · exact c
        · exact z s hs
      · refine Ev.step (fun k => by simp only [impl_Net_parts.l2, lt_mid, nn, if_true, rdC_mid, w_succ (t := t) hp, b1, b2, b3, b4, if_pos c] <;> exact rfl) ?_
        rw [app_one p t suf]
        exact h5 r hr
    · have lo0 := hL.low t.f0 b1 (by omega)
      have lo1 := hL.low t.f1 b3 (by omega)
      have hm : 0 ≤ mn (rd f t.f0) (rd f t.f1) ∧ mn (rd f t.f0) (rd f t.f1) ≤ rd f t.f0 ∧ mn (rd f t.f0) (rd f t.f1) ≤ rd f t.f1 ∧ (mn (rd f t.f0) (rd f t.f1) = rd f t.f0 ∨ mn (rd f t.f0) (rd f t.f1) = rd f t.f1) := by
        rw [mn_eq]; split <;> omega
      generalize hg : mn (rd f t.f0) (rd f t.f1) = m at hm
      have hs : ∀ v, 0 ≤ v → rd ((f.set t.f0.toNat m).set t.f1.toNat m) v = if t.f1 = v then m else if t.f0 = v then m else rd f v := fun v hv => by
        rw [rd_set b3 (by rw [List.length_set]; exact b4) hv, rd_set b1 b2 hv]
      have hconn01 : Conn E t.f0 t.f1 := Conn.tie ht hr.2.1
      have hc0 := hL.conn t.f0 b1 (by omega)
      have hc1 := hL.conn t.f1 b3 (by omega)
      have hcm : Conn E t.f0 m ∧ Conn E t.f1 m := by
        rcases hm.2.2.2 with e | e
        · rw [e]; exact ⟨hc0, hconn01.symm.trans hc0⟩
        · rw [e]; exact ⟨hconn01.trans hc1, hc1⟩
      have hL' : Lab n E ((f.set t.f0.toNat m).set t.f1.toNat m) := by
        refine ⟨by rw [List.length_set, List.length_set]; exact hL.len, fun v h0 h1 => ?_, fun v h0 h1 => ?_⟩
        · rw [hs v h0]
          have := hL.low v h0 h1
          split
          · subst_vars; omega
          · split
            · subst_vars; omega
            · exact this
        · rw [hs v h0]
          split
          · subst_vars; exact hcm.2
          · split
            · subst_vars; exact hcm.1
            · exact hL.conn v h0 h1
      have t0 : (tot (f.set t.f0.toNat m) : Int) = tot f - rd f t.f0 + m := tot_set (by omega) hm.1 lo0.1
      have e1 : (f.set t.f0.toNat m).getD t.f1.toNat 0 = rd f t.f1 := by
        have := rd_set (f := f) (u := t.f0) (v := t.f1) (x := m) b1 b2 b3
        rw [if_neg (by omega)] at this
        exact this
      have t1 : (tot ((f.set t.f0.toNat m).set t.f1.toNat m) : Int) = tot (f.set t.f0.toNat m) - rd f t.f1 + m := by
        have := tot_set (f := f.set t.f0.toNat m) (i := t.f1.toNat) (x := m) (by rw [List.length_set]; omega) hm.1 (by rw [e1]; exact lo1.1)
        rw [e1] at this
        exact this
      have hlt : tot ((f.set t.f0.toNat m).set t.f1.toNat m) < tot f := by omega
      obtain ⟨f', b', h1, h2, h3, h4, h5⟩ := ih (p ++ [t]) ((f.set t.f0.toNat m).set t.f1.toNat m) true (by rw [← he]; simp) hL'
      refine ⟨f', b', h1, by omega, fun e => ?_, fun _ => .inr (by omega), fun r hr => ?_⟩
      · have := (h3 e).1
        simp at this
      · refine Ev.step (fun k => by simp only [impl_Net_parts.l2, lt_mid, nn, if_true, rdC_mid, w_succ (t := t) hp, b1, b2, b3, b4, if_neg c, hg] <;> exact rfl) ?_
        rw [app_one p t suf]
        exact h5 r hr
theorem parts_l1 (n : Int) (E : List S63) (hE : ok n E) : ∀ (m : Nat) (f : List Int), tot f ≤ m → Lab n E f → ∃ f', Ev (fun k => impl_Net_parts.l1 k f true n E) f' ∧ Parts n E f' := by
  intro m
  induction m with
  | zero =>
    intro f hm hL
    obtain ⟨f', b', h1, h2, h3, h4, h5⟩ := parts_l2 n E hE E [] f false rfl hL
    cases b' with
    | true => rcases h4 rfl with h | h
              · simp at h
              · omega
    | false =>
      obtain ⟨_, rfl, h⟩ := h3 rfl
      refine ⟨f', ?_, h1.parts hE.2.2.1 h⟩
      refine Ev.step (fun k => by simp only [impl_Net_parts.l1, if_true] <;> exact rfl) ?_
      refine h5 f' ?_
      refine Ev.step (fun k => by simp only [impl_Net_parts.l1, Bool.false_eq_true, if_false] <;> exact rfl) ?_
      exact Ev.val rfl
  | succ m ih =>
    intro f hm hL
    obtain ⟨f', b', h1, h2, h3, h4, h5⟩ := parts_l2 n E hE E [] f false rfl hL
    cases b' with
    | true =>
      rcases h4 rfl with h | h
      · simp at h
      · obtain ⟨f2, e2, p2⟩ := ih f' (by omega) h1
        refine ⟨f2, ?_, p2⟩
        refine Ev.step (fun k => by simp only [impl_Net_parts.l1, if_true] <;> exact rfl) ?_
        exact h5 f2 e2
    | false =>
      obtain ⟨_, rfl, h⟩ := h3 rfl
      refine ⟨f', ?_, h1.parts hE.2.2.1 h⟩
      refine Ev.step (fun k => by simp only [impl_Net_parts.l1, if_true] <;> exact rfl) ?_
      refine h5 f' ?_
      refine Ev.step (fun k => by simp only [impl_Net_parts.l1, Bool.false_eq_true, if_false] <;> exact rfl) ?_
      exact Ev.val rfl
theorem rd_knots {n v : Int} (h0 : 0 ≤ v) (h1 : v < n) : rd (knots n) v = v := by
  unfold rd knots
  rw [List.getD_eq_getElem?_getD, List.getElem?_map, List.getElem?_range (by omega)]
  simp [Int.toNat_of_nonneg h0]
theorem parts_l0 (n : Int) (E : List S63) (h8 : n ≤ 8) : ∀ (d : Nat) (i : Int), 0 ≤ i → i + d = n → ∀ r, Ev (fun k => impl_Net_parts.l1 k (knots n) true n E) r →
    Ev (fun k => impl_Net_parts.l0 k (knots i) n i n E) r := by
  intro d
  induction d with
  | zero =>
    intro i h0 hi r hr
    have hi' : i = n := by omega
    subst hi'
    have c : ¬ i < i := by omega
    exact Ev.step (fun k => by simp only [impl_Net_parts.l0, c, if_false] <;> exact rfl) hr
  | succ d ih =>
    intro i h0 hi r hr
    have c : i < n := by omega
    have w : wrap64 (i + 1) = i + 1 := w64 (by omega) (by omega)
    have hl : (knots i).length < 17592186044416 := by rw [knots_len]; omega
    refine Ev.step (fun k => by simp only [impl_Net_parts.l0, c, if_true, w, hl, ← knots_succ h0] <;> exact rfl) ?_
    exact ih (i + 1) (by omega) (by omega) r hr
theorem parts_ev (n : Int) (E : List S63) (hE : ok n E) : ∃ f, Ev (fun k => impl_Net_parts.f k n E) f ∧ Parts n E f := by
  have hL : Lab n E (knots n) := by
    have h0 := hE.1
    refine ⟨by rw [knots_len]; omega, fun v h0 h1 => ?_, fun v h0 h1 => ?_⟩
    · rw [rd_knots h0 h1]; exact ⟨h0, Int.le_refl _⟩
    · rw [rd_knots h0 h1]; exact .refl _
  obtain ⟨f, h1, h2⟩ := parts_l1 n E hE _ (knots n) (Nat.le_refl _) hL
  refine ⟨f, ?_, h2⟩
  unfold impl_Net_parts.f
  have h0 := hE.1
  exact parts_l0 n E hE.2.1 n.toNat 0 (Int.le_refl 0) (by omega) f h1
theorem joined_ev (n : Int) (E : List S63) (hE : ok n E) (a b : Int) (ha : 0 ≤ a ∧ a < n) (hb : 0 ≤ b ∧ b < n) : EvP (fun k => impl_Net_joined.f k n E a b) (Conn E a b) := by
  obtain ⟨f, h1, h2⟩ := parts_ev n E hE
  unfold impl_Net_joined.f
  refine EvP.bind h1 ?_
  have a1 : a < (f.length : Int) := by rw [h2.len]; exact ha.2
  have b1 : b < (f.length : Int) := by rw [h2.len]; exact hb.2
  simp only [ha.1, a1, hb.1, b1, if_true]
  refine ⟨_, Ev.val rfl, ?_⟩
  rw [beq_iff_eq]
  exact h2.iff ha hb
end Go.Proofs.Ytbkdpnfjcnkoeaa.P
