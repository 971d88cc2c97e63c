/- Two-colorings: what the program and the reference come to when asked whether a row is one. -/
import Derived.Test.YtanjnjblbhfchaaBok
import Derived.Test.YtanjnjblbhfchaaF4
import Derived.Test.YtanjnjblbhfchaaF7
namespace Go.Proofs.Ytanjnjblbhfchaa.P
set_option linter.unusedSimpArgs false
set_option linter.unusedVariables false
open Go.RowKit Go.Proofs.YtanjnjblbhfchaaW.PrintWords Go.Proofs.Ytanjnjblbhfchaa.G

def fine (E : List Tie) (sides : List Int) : Prop := ∀ t ∈ E, rd sides t.f0 ≠ rd sides t.f1
instance (E : List Tie) (sides : List Int) : Decidable (fine E sides) := by unfold fine; infer_instance
def sideOk (n : Int) (E : List Tie) (sides : List Int) : Prop := ok n E ∧ (sides.length : Int) = n ∧ (∀ s ∈ sides, 0 ≤ s ∧ s ≤ 1) ∧ fine E sides
instance (n : Int) (E : List Tie) (sides : List Int) : Decidable (sideOk n E sides) := by unfold sideOk; infer_instance

theorem sideSpec_l1 (n : Int) (sides : List Int) (hn : (sides.length : Int) = n) : ∀ (suf p : List S46), ((p ++ suf).length : Int) < big → (∀ t ∈ suf, inr n t) →
    Ev (fun k => spec_SideOk.l1 k sides (p.length : Int) n (p ++ suf)) (decide (fine suf sides)) := by
  intro suf
  induction suf with
  | nil =>
    intro p hb hi
    refine Ev.step (fun k => by simp only [spec_SideOk.l1, nlt_end, if_false] <;> exact rfl) ?_
    exact Ev.val (congrArg some (decide_eq_true (by simp [fine])).symm)
  | cons t suf ih =>
    intro p hb hi
    have hp : (p.length : Int) < big := len_mid hb
    have ht : inr n t := hi t (List.mem_cons_self)
    unfold inr at ht
    have b1 : 0 ≤ t.f0 := ht.1
    have b2 : t.f0 < (sides.length : Int) := by omega
    have b3 : 0 ≤ t.f1 := by omega
    have b4 : t.f1 < (sides.length : Int) := by omega
    refine Ev.step (fun k => by simp only [spec_SideOk.l1, lt_mid, nn, if_true, rdI_mid, w_succ (t := t) hp, b1, b2, b3, b4] <;> exact rfl) ?_
    by_cases c : rd sides t.f0 = rd sides t.f1
    · simp only [if_pos c]
      exact Ev.val (congrArg some (decide_eq_false (by simp [fine, c])).symm)
    · simp only [if_neg c]
      rw [app_one p t suf]
      refine Ev.eq (ih (p ++ [t]) (len_app hb) (fun s hs => hi s (List.mem_cons_of_mem _ hs))) ?_
      rw [decide_eq_decide]
      simp [fine, c]
theorem sideSpec_l0 (n : Int) (E : List S46) (sides : List Int) (hn : (sides.length : Int) = n) (hE : (E.length : Int) < big) (hi : ∀ t ∈ E, inr n t) : ∀ (suf p : List Int), ((p ++ suf).length : Int) < big → p ++ suf = sides →
    Ev (fun k => spec_SideOk.l0 k (p ++ suf) (p.length : Int) n E) (decide ((∀ s ∈ suf, 0 ≤ s ∧ s ≤ 1) ∧ fine E sides)) := by
  intro suf
  induction suf with
  | nil =>
    intro p hb hs
    refine Ev.step (fun k => by simp only [spec_SideOk.l0, nlt_end, if_false] <;> exact rfl) ?_
    rw [hs]
    refine Ev.eq (sideSpec_l1 n sides hn E [] (by simpa using hE) hi) ?_
    rw [decide_eq_decide]
    simp
  | cons t suf ih =>
    intro p hb hs
    have hp : (p.length : Int) < big := len_mid hb
    refine Ev.step (fun k => by simp only [spec_SideOk.l0, lt_mid, nn, if_true, rd_mid, w_succ (t := t) hp, in_eq, Option.bind_some, decide_eq_true_eq] <;> exact rfl) ?_
    by_cases c : 0 ≤ t ∧ t ≤ 1
    · simp only [if_pos c]
      rw [app_one p t suf]
      refine Ev.eq (ih (p ++ [t]) (len_app hb) (by rw [← hs]; simp)) ?_
      rw [decide_eq_decide]
      simp [c]
    · simp only [if_neg c]
      exact Ev.val (congrArg some (decide_eq_false (by simp [c])).symm)
theorem sideSpec (n : Int) (E : List S46) (sides : List Int) (hE : (E.length : Int) < big) (hs : (sides.length : Int) < big) :
    Ev (fun k => spec_SideOk.f k n E sides) (decide (sideOk n E sides)) := by
  unfold spec_SideOk.f
  refine Ev.bind (specOk n E hE) ?_
  by_cases c : ok n E
  · simp only [c, decide_true, if_true]
    by_cases d : (sides.length : Int) = n
    · have d' : ((sides.length : Int) != n) = false := by simp [d]
      refine Ev.step (fun k => by simp only [spec_SideOk.j0, d', Bool.false_eq_true, if_false] <;> exact rfl) ?_
      refine Ev.eq (sideSpec_l0 n E sides d hE c.2.2.1 sides [] hs rfl) ?_
      rw [decide_eq_decide]
      simp [sideOk, c, d]
    · have d' : ((sides.length : Int) != n) = true := by simp [d]
      refine Ev.step (fun k => by simp only [spec_SideOk.j0, d', if_true] <;> exact rfl) ?_
      exact Ev.val (congrArg some (decide_eq_false (by simp [sideOk, d])).symm)
  · simp only [c, decide_false, Bool.false_eq_true, if_false]
    refine Ev.step (fun k => by simp only [spec_SideOk.j0, if_true] <;> exact rfl) ?_
    exact Ev.val (congrArg some (decide_eq_false (by simp [sideOk, c])).symm)

theorem fine_l0 (n : Int) (sides : List Int) (hn : (sides.length : Int) = n) : ∀ (suf p : List S46), ((p ++ suf).length : Int) < big → (∀ t ∈ suf, inr n t) →
    Ev (fun k => impl_Net_fine.l0 k sides (p ++ suf) ((p ++ suf).length : Int) (p.length : Int)) (decide (fine suf sides)) := by
  intro suf
  induction suf with
  | nil =>
    intro p hb hi
    refine Ev.step (fun k => by simp only [impl_Net_fine.l0, nlt_end, if_false] <;> exact rfl) ?_
    exact Ev.val (congrArg some (decide_eq_true (by simp [fine])).symm)
  | cons t suf ih =>
    intro p hb hi
    have hp : (p.length : Int) < big := len_mid hb
    have ht : inr n t := hi t (List.mem_cons_self)
    unfold inr at ht
    have b1 : 0 ≤ t.f0 := ht.1
    have b2 : t.f0 < (sides.length : Int) := by omega
    have b3 : 0 ≤ t.f1 := by omega
    have b4 : t.f1 < (sides.length : Int) := by omega
    refine Ev.step (fun k => by simp only [impl_Net_fine.l0, lt_mid, nn, if_true, rdI_mid, w_succ (t := t) hp, b1, b2, b3, b4] <;> exact rfl) ?_
    by_cases c : rd sides t.f0 = rd sides t.f1
    · simp only [if_pos c]
      exact Ev.val (congrArg some (decide_eq_false (by simp [fine, c])).symm)
    · simp only [if_neg c]
      rw [app_one p t suf]
      refine Ev.eq (ih (p ++ [t]) (len_app hb) (fun s hs => hi s (List.mem_cons_of_mem _ hs))) ?_
      rw [decide_eq_decide]
      simp [fine, c]
theorem fine_ev (n : Int) (E : List S46) (sides : List Int) (hn : (sides.length : Int) = n) (hE : (E.length : Int) < big) (hi : ∀ t ∈ E, inr n t) :
    Ev (fun k => impl_Net_fine.f k n E sides) (decide (fine E sides)) := by
  unfold impl_Net_fine.f
  exact fine_l0 n sides hn E [] hE hi
theorem sideImpl_l0 (n : Int) (E : List S46) (sides : List Int) (hn : (sides.length : Int) = n) (hE : (E.length : Int) < big) (hi : ∀ t ∈ E, inr n t) : ∀ (suf p : List Int), ((p ++ suf).length : Int) < big →
    Ev (fun k => impl_SideOk.l0 k sides (p ++ suf) ((p ++ suf).length : Int) (p.length : Int) n E) (decide ((∀ s ∈ suf, 0 ≤ s ∧ s ≤ 1) ∧ fine E sides)) := by
  intro suf
  induction suf with
  | nil =>
    intro p hb
    refine Ev.step (fun k => by simp only [impl_SideOk.l0, nlt_end, if_false] <;> exact rfl) ?_
    refine Ev.bind (fine_ev n E sides hn hE hi) ?_
    exact Ev.val (by simp)
  | cons t suf ih =>
    intro p hb
    have hp : (p.length : Int) < big := len_mid hb
    refine Ev.step (fun k => by simp only [impl_SideOk.l0, lt_mid, nn, if_true, rd_mid, w_succ (t := t) hp] <;> exact rfl) ?_
    by_cases c0 : t = 0
    · simp only [if_pos c0]
      rw [app_one p t suf]
      refine Ev.eq (ih (p ++ [t]) (len_app hb)) ?_
      rw [decide_eq_decide]
      simp [c0]
    · simp only [if_neg c0]
      by_cases c1 : t = 1
      · simp only [if_pos c1]
        rw [app_one p t suf]
        refine Ev.eq (ih (p ++ [t]) (len_app hb)) ?_
        rw [decide_eq_decide]
        simp [c1]
      · simp only [if_neg c1]
        refine Ev.val (congrArg some (decide_eq_false (fun h => ?_)).symm)
        have := h.1 t (List.mem_cons_self)
        omega
theorem sideImpl (n : Int) (E : List S46) (sides : List Int) (hE : (E.length : Int) < big) (hs : (sides.length : Int) < big) :
    Ev (fun k => impl_SideOk.f k n E sides) (decide (sideOk n E sides)) := by
  unfold impl_SideOk.f
  refine Ev.bind (implOk n E hE) ?_
  by_cases c : ok n E
  · simp only [c, decide_true, if_true]
    by_cases d : (sides.length : Int) = n
    · have d' : ((sides.length : Int) != n) = false := by simp [d]
      refine Ev.step (fun k => by simp only [impl_SideOk.j0, d', Bool.false_eq_true, if_false] <;> exact rfl) ?_
      refine Ev.eq (sideImpl_l0 n E sides d hE c.2.2.1 sides [] hs) ?_
      rw [decide_eq_decide]
      simp [sideOk, c, d]
    · have d' : ((sides.length : Int) != n) = true := by simp [d]
      refine Ev.step (fun k => by simp only [impl_SideOk.j0, d', if_true] <;> exact rfl) ?_
      exact Ev.val (congrArg some (decide_eq_false (by simp [sideOk, d])).symm)
  · simp only [c, decide_false, Bool.false_eq_true, if_false]
    refine Ev.step (fun k => by simp only [impl_SideOk.j0, if_true] <;> exact rfl) ?_
    exact Ev.val (congrArg some (decide_eq_false (by simp [sideOk, c])).symm)
end Go.Proofs.Ytanjnjblbhfchaa.P
