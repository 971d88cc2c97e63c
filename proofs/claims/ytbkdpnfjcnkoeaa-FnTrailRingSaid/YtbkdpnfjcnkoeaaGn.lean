/- What a trail over all ties tells of the numbers of ties: plain facts. -/
import Derived.Test.YtbkdpnfjcnkoeaaGr
import Derived.Test.YtbkdpnfjcnkoeaaGe
namespace Go.Proofs.Ytbkdpnfjcnkoeaa.G
set_option linter.unusedSimpArgs false
set_option linter.unusedVariables false
/-- the last of a row that begins so -/
def lastOf : Int → List Int → Int
  | a, [] => a
  | _, b :: r => lastOf b r
theorem deg_ties {n : Int} (v : Int) : ∀ (r : List Int) (a : Int), (∀ t ∈ ties (a :: r), inr n t) → deg (ties (a :: r)) v % 2 = ((if a = v then 1 else 0) + (if lastOf a r = v then 1 else 0)) % 2
  | [], a, _ => by
    by_cases c : a = v <;> simp [ties, lastOf, deg, c]
  | b :: r, a, h => by
    have ih := deg_ties v r b (fun t ht => h t (by simp [ties, ht]))
    have hab := (tieOf_ends (h (tieOf a b) (by simp [ties]))).2.2
    have e : ties (a :: b :: r) = tieOf a b :: ties (b :: r) := rfl
    rw [e, deg_cons]
    have el : lastOf a (b :: r) = lastOf b r := rfl
    rw [el]
    simp only [ends_of]
    generalize (if lastOf b r = v then 1 else 0) = x at ih ⊢
    by_cases c : a = v
    · have c2 : ¬ b = v := by omega
      simp only [c, c2, true_or, if_true, if_false] at *
      omega
    · by_cases c2 : b = v
      · simp only [c, c2, or_true, if_true, if_false] at *
        omega
      · simp only [c, c2, or_self, if_false] at *
        omega
theorem ties_all {n : Int} {E : List Tie} {row : List Int} (h : trailOk n E row) : ∀ t, t ∈ E ↔ t ∈ ties row := by
  obtain ⟨h1, h2, h3, h4⟩ := h
  obtain ⟨h5, h6⟩ := cuts_iff.1 h4
  have hl := ties_len row
  intro t
  refine ⟨fun ht => ?_, h5 t⟩
  by_cases c : t ∈ ties row
  · exact c
  · have : (t :: ties row).length ≤ E.length := nodup_len_le (List.nodup_cons.2 ⟨c, h6⟩) (fun x hx => by
      rcases List.mem_cons.1 hx with rfl | hx
      · exact ht
      · exact h5 x hx)
    rw [List.length_cons] at this
    omega
theorem deg_trail {n : Int} {E : List Tie} {a : Int} {r : List Int} (h : trailOk n E (a :: r)) (v : Int) : deg E v % 2 = ((if a = v then 1 else 0) + (if lastOf a r = v then 1 else 0)) % 2 := by
  have h6 := (cuts_iff.1 h.2.2.2).2
  have e : deg E v = deg (ties (a :: r)) v := by
    unfold deg
    refine nodup_len_eq ((asc_nodup h.1.2.2.2).sublist List.filter_sublist) (h6.sublist List.filter_sublist) (fun t => ?_)
    rw [List.mem_filter, List.mem_filter, ties_all h]
  rw [e]
  exact deg_ties v r a (fun t ht => h.1.2.2.1 t ((ties_all h t).2 ht))
theorem lastOf_mem : ∀ (r : List Int) (a : Int), lastOf a r ∈ a :: r
  | [], a => by simp [lastOf]
  | b :: r, a => List.mem_cons_of_mem _ (lastOf_mem r b)
theorem walk_conn {E : List Tie} : ∀ (r : List Int) (a : Int), (∀ t ∈ ties (a :: r), t ∈ E) → ∀ v ∈ a :: r, Conn E a v
  | [], a, _ => by
    intro v hv
    rw [List.mem_singleton] at hv
    subst hv
    exact .refl _
  | b :: r, a, h => by
    intro v hv
    rcases List.mem_cons.1 hv with rfl | hv
    · exact .refl _
    · exact (Conn.one (h (tieOf a b) (by simp [ties]))).trans (walk_conn r b (fun t ht => h t (by simp [ties, ht])) v hv)
theorem ends_mem : ∀ (r : List Int) (a : Int) (t : Tie), t ∈ ties (a :: r) → t.f0 ∈ a :: r
  | [], a, t, h => by simp [ties] at h
  | b :: r, a, t, h => by
    have e : ties (a :: b :: r) = tieOf a b :: ties (b :: r) := rfl
    rw [e] at h
    rcases List.mem_cons.1 h with rfl | h
    · unfold tieOf
      split <;> simp
    · exact List.mem_cons_of_mem _ (ends_mem r b t h)
theorem trail_conn {n : Int} {E : List Tie} {a : Int} {r : List Int} (h : trailOk n E (a :: r)) : ∀ t ∈ E, Conn E a t.f0 := fun t ht =>
  walk_conn r a (fun s hs => (ties_all h s).2 hs) t.f0 (ends_mem r a t ((ties_all h t).1 ht))
theorem trail_even {n : Int} {E : List Tie} {a : Int} {r : List Int} (h : trailOk n E (a :: r)) (e : a = lastOf a r) (v : Int) : deg E v % 2 = 0 := by
  rw [deg_trail h v, ← e]
  split <;> omega
theorem trail_odds {n : Int} {E : List Tie} {a : Int} {r : List Int} (h : trailOk n E (a :: r)) : (odds E n = 0 ↔ a = lastOf a r) ∧ (a ≠ lastOf a r → odds E n = 2) := by
  by_cases e : a = lastOf a r
  · refine ⟨⟨fun _ => e, fun _ => ?_⟩, fun q => absurd e q⟩
    rw [odds_eq, List.length_eq_zero_iff, List.eq_nil_iff_forall_not_mem]
    intro v hv
    have := (mem_oddl.1 hv).2
    have := trail_even h e v
    omega
  · have two : odds E n = 2 := by
      rw [odds_eq]
      have hm : [a, lastOf a r].Nodup := by
        rw [List.nodup_cons]
        exact ⟨by rw [List.mem_singleton]; exact e, by simp⟩
      have := nodup_len_eq (oddl_nodup n E) hm (fun v => ?_)
      · rw [this]; rfl
      · rw [mem_oddl, deg_trail h v]
        simp only [List.mem_cons, List.not_mem_nil, or_false]
        constructor
        · rintro ⟨_, q⟩
          by_cases c : a = v
          · exact .inl c.symm
          · by_cases d : lastOf a r = v
            · exact .inr d.symm
            · simp only [if_neg c, if_neg d] at q
              omega
        · rintro (rfl | rfl)
          · have c : ¬ lastOf v r = v := fun q => e q.symm
            exact ⟨h.2.2.1 v List.mem_cons_self, by simp [c]⟩
          · exact ⟨h.2.2.1 _ (lastOf_mem r a), by simp [e]⟩
    exact ⟨⟨fun q => by omega, fun q => absurd q e⟩, fun _ => two⟩
/-- who goes over each tie once can -/
theorem trail_can {n : Int} {E : List Tie} {a : Int} {r : List Int} (h : trailOk n E (a :: r)) : trailCan n E a := by
  refine ⟨h.1, h.2.2.1 a List.mem_cons_self, trail_conn h, ?_⟩
  by_cases e : a = lastOf a r
  · exact .inl ((trail_odds h).1.2 e)
  · refine .inr ⟨(trail_odds h).2 e, ?_⟩
    have c : ¬ lastOf a r = a := fun q => e q.symm
    rw [deg_trail h a]
    simp [c]
theorem trail_ring {n : Int} {E : List Tie} {a : Int} {r : List Int} (h : trailOk n E (a :: r)) (e : a = lastOf a r) : ∀ t ∈ E, Conn (cut E t) t.f0 t.f1 := by
  intro t ht
  have hr := h.1.2.2.1 t ht
  have et : tieOf t.f1 t.f0 = t := by rw [tieOf_comm]; exact tieOf_inr hr
  by_cases c : Conn (cut E t) t.f0 t.f1
  · exact c
  · obtain ⟨w, _, _, q⟩ := bridge_odd h.1 (a := t.f1) (i := t.f0) (by rw [et]; exact ht) (by rw [et]; exact c)
    have := trail_even h e w
    omega
end Go.Proofs.Ytbkdpnfjcnkoeaa.G
