-- Printed by a program of this session (mp.py, over the kit's print). Not trusted: Lean checks it.
import Derived.Test.YtbpkngahnmoocaaDoorF0
namespace Go.Proofs.YtbpkngahnmoocaaDoor.P
open Go.RowKit Go.Proofs.YtbpkngahnmoocaaDoorW.PrintWords Go.Proofs.YtbpkngahnmoocaaDoorW.PrintLast Go.Proofs.YtbpkngahnmoocaaDoorW.PrintMore
attribute [local go_sem] max2_int min2_int max_two min_two max_three min_three max_four min_four   -- for this text's walks alone
set_option linter.unusedVariables false
set_option linter.unusedSimpArgs false

theorem caaa {p : Prop} (h : p := by first | rfl | (simp [errW_none, errW_some] <;> rfl) | (simp [*, errW_none, errW_some] <;> rfl)) : p := h
/-! ### spec_l6Dec: function 10 -/
def spec_l6Dec.f : Nat → Int → Option (ByteArray)
 | 0, _ => none
 | k + 1, a0 => if a0 < (-9223372036854775807) then (some (⟨#[45, 57, 50, 50, 51, 51, 55, 50, 48, 51, 54, 56, 53, 52, 55, 55, 53, 56, 48, 56]⟩ : ByteArray)) else (if a0 < 0 then ((spec_l6Dec.f k (wrap64 (-a0))).bind fun ag => (if 1 + ag.size ≤ 9223372036854775807 then (some ((⟨#[45]⟩ : ByteArray) ++ ag)) else (none))) else (if a0 < 10 then (some (strOfNums (([(wrap64 (48 + a0)) % 256] : List Int)))) else ((spec_l6Dec.f k (wrap64 (Int.tdiv a0 10))).bind fun ab => ((some (([(wrap64 (48 + (Int.tmod a0 10))) % 256] : List Int) : List Int)).bind fun ac => (if ab.size + (strOfNums ac).size ≤ 9223372036854775807 then (some (ab ++ (strOfNums ac))) else (none))))))
theorem spec_l6Dec.mono_l : ∀ k, (∀ y0, LeO (spec_l6Dec.f k y0) (spec_l6Dec.f (k + 1) y0))
 | 0 => fun _ r h => by simp [spec_l6Dec.f] at h
 | k + 1 => by
  have ai := spec_l6Dec.mono_l k
  ·intro y0; unfold spec_l6Dec.f
   repeat' first
   | (with_reducible exact ai _)
   | (with_reducible exact LeO.refl _)
   | (with_reducible exact LeO.none _)
   | (with_reducible refine LeO.ite ?_ ?_)
   | (with_reducible refine LeO.bind ?_ (fun _ => ?_))
   | exact ai _
   | exact LeO.none _
   | refine LeO.ite ?_ ?_
   | refine LeO.bind ?_ (fun _ => ?_)
theorem spec_l6Dec.mono : ∀ a0 k, LeO (spec_l6Dec.f k a0) (spec_l6Dec.f (k + 1) a0) := by
 intro a0 k; have ai := spec_l6Dec.mono_l k; exact ai a0
def spec_l6Dec.T7 : Bool × List (List Nat × List Nat) := (true, [([], []), ([0], [0]), ([1], [1]), ([], []), ([3], [3]), ([4], [4]), ([5], [5]), ([6], [6]), ([7], [7]), ([2, 8], [2, 8]), ([9, 2, 0, 1, 2, 3, 4, 5, 6, 7, 8, 9], [9])])
def spec_l6Dec.B7 : List Nat := [0, 1, 3, 0, 8, 24, 56, 120, 248, 511, 1023]
theorem spec_l6Dec.tab7 : rtab .any (opsOf Tryd.f10 7) = spec_l6Dec.T7 := by kernel_rfl
theorem spec_l6Dec.bits7 : waitsOk spec_l6Dec.T7.2 spec_l6Dec.B7 = true := by kernel_rfl
set_option maxHeartbeats 8000000 in
set_option maxRecDepth 100000 in
theorem spec_l6Dec.calls (k : Nat) : ∀ (a0 : Int) (r : ByteArray) (w : World) (h : spec_l6Dec.f k a0 = some r),
  Calls Tryd.prog 10 #[.int .i64 a0] w fun e w' => e = .returned (.string r) ∧ Below w.heap.size w w' := by
 induction k using Nat.strongRecOn with
 | _ k ih =>
 intro a0 r w h; cases k with
 | zero => exact absurd h (by simp [spec_l6Dec.f])
 | succ k =>
 simp only [spec_l6Dec.f] at h; have HB := G.m (Below.refl w.heap.size w); have H : (if a0 < (-9223372036854775807) then (some (⟨#[45, 57, 50, 50, 51, 51, 55, 50, 48, 51, 54, 56, 53, 52, 55, 55, 53, 56, 48, 56]⟩ : ByteArray)) else (if a0 < 0 then ((spec_l6Dec.f k (wrap64 (-a0))).bind fun ag => (if 1 + ag.size ≤ 9223372036854775807 then (some ((⟨#[45]⟩ : ByteArray) ++ ag)) else (none))) else (if a0 < 10 then (some (strOfNums (([(wrap64 (48 + a0)) % 256] : List Int)))) else ((spec_l6Dec.f k (wrap64 (Int.tdiv a0 10))).bind fun ab => ((some (([(wrap64 (48 + (Int.tmod a0 10))) % 256] : List Int) : List Int)).bind fun ac => (if ab.size + (strOfNums ac).size ≤ 9223372036854775807 then (some (ab ++ (strOfNums ac))) else (none))))))) = some r := h; clear h
 by_cases c2 : a0 < (-9223372036854775807)
 ·rw [if_pos c2] at H; have ay : decide (a0 < (-9223372036854775807)) = true := decide_eq_true c2; clear c2; obtain rfl := Option.some.inj H
  go_enter Tryd.func10, Tryd.ntmps10
  go_wp2
  go_ret
  exact ⟨caaa, G.cB HB.out⟩
 ·rw [if_neg c2] at H; have ay : decide (a0 < (-9223372036854775807)) = false := decide_eq_false c2; clear c2
  by_cases c3 : a0 < 0
  ·rw [if_pos c3] at H; have aC : decide (a0 < 0) = true := decide_eq_true c3; clear c3; obtain ⟨ag, A4, H⟩ := G.bi H; replace H : (if 1 + ag.size ≤ 9223372036854775807 then (some ((⟨#[45]⟩ : ByteArray) ++ ag)) else (none)) = some r := H
   by_cases c5 : 1 + ag.size ≤ 9223372036854775807
   ·rw [if_pos c5] at H; have aW := eq_true c5; have aX : decide (1 + ag.size ≤ 9223372036854775807) = true := decide_eq_true c5; try have aY : (9223372036854775807 < 1 + ag.size) = False := eq_false (Nat.not_lt.2 c5)
    obtain rfl := Option.some.inj H
    go_enter Tryd.func10, Tryd.ntmps10
    go_wp2_with (first | ((with_reducible refine G.f 10 rfl ?_); refine G.gL 9 Tryd.func10 #[.int .i64 (wrap64 (-a0))] ?_; (with_reducible refine (ih k (by omega) (wrap64 (-a0)) ag _ A4.out).mono ?_); rintro e w6 ⟨rfl, hb⟩; refine ⟨_, rfl, ?_⟩; have n0 := G.bs HB hb; clear HB; revert n0; intro HB; (try clear hb)))
    go_ret
    exact ⟨caaa, G.cB HB.out⟩
   ·rw [if_neg c5] at H; exact absurd H (by simp)
  ·rw [if_neg c3] at H; have aC : decide (a0 < 0) = false := decide_eq_false c3; clear c3
   by_cases c7 : a0 < 10
   ·rw [if_pos c7] at H; have aM : decide (a0 < 10) = true := decide_eq_true c7; clear c7; obtain ⟨aN, aj⟩ : ∃ y_ : List Int, y_ = (([(wrap64 (48 + a0)) % 256] : List Int)) := ⟨_, rfl⟩; replace H : (some (strOfNums aN)) = some r := by first | (rw [aj]; with_reducible exact H) | (have ao := (Option.bind_some _ _).symm.trans H; rw [aj]; with_reducible exact ao) | (have ao := (Option.bind_some _ _).symm.trans H; with_reducible exact ao) | with_reducible exact H | (rw [aj]; exact H) | exact H
    have aB := G.m aj; clear aj; obtain rfl := Option.some.inj H
    go_enter Tryd.func10, Tryd.ntmps10
    go_wp2_with (first | ((with_reducible refine G.h 16 rfl ?_); refine Kd.R_lit (Kd.int .u8) _ 5 ?hg (N := 16) ?hd (xs := ([(wrap64 (48 + a0)) % 256] : List Int)) (inner := [.int .u8 ((wrap64 (48 + a0)) % 256)]) (ok := fun _ => True) (okp := fun _ => True) ?hr ?hp (fun _ hk => hk) trivial (Below.refl _ _) (Nat.le_refl _) (by simp) ?_; (case hd => rfl); (case hg => rfl); (case hr => first | (go_simp; done) | (go_simp; rfl)); (case hp => exact (Reps.one (show Kd.M (Kd.int .u8) _ _ _ ((wrap64 (48 + a0)) % 256) [.int .u8 ((wrap64 (48 + a0)) % 256)] from rfl) (Reps.none _ _))); intro aZ w8 aw hb hg_ hnew_; clear hg_ hnew_; (first | rw [← aB.out] at aw | (simp only [Int.reduceToNat] at aw; rw [← aB.out] at aw)); have n0 := G.m (Kd.R_lower aw (below_size (G.cB HB.out))); have n1 := G.bs HB hb; clear HB; revert n0 n1; intro aE HB; clear hb aw; have aR := own_string (P := Tryd.prog) Tryd.underlying27 Tryd.underlying5 Tryd.underlying9 (Kd.own_of_R aE.out)))
    go_ret
    exact ⟨caaa, G.cB HB.out⟩
   ·rw [if_neg c7] at H; have aM : decide (a0 < 10) = false := decide_eq_false c7; clear c7; obtain ⟨ab, aD, H⟩ := G.bi H; replace H : ((some (([(wrap64 (48 + (Int.tmod a0 10))) % 256] : List Int) : List Int)).bind fun ac => (if ab.size + (strOfNums ac).size ≤ 9223372036854775807 then (some (ab ++ (strOfNums ac))) else (none))) = some r := H; obtain ⟨ac, ak⟩ : ∃ y_ : List Int, y_ = (([(wrap64 (48 + (Int.tmod a0 10))) % 256] : List Int)) := ⟨_, rfl⟩; replace H : (if ab.size + (strOfNums ac).size ≤ 9223372036854775807 then (some (ab ++ (strOfNums ac))) else (none)) = some r := by first | (rw [ak]; with_reducible exact H) | (have ao := (Option.bind_some _ _).symm.trans H; rw [ak]; with_reducible exact ao) | (have ao := (Option.bind_some _ _).symm.trans H; with_reducible exact ao) | with_reducible exact H | (rw [ak]; exact H) | exact H
    have am := G.m ak; clear ak
    by_cases ax : ab.size + (strOfNums ac).size ≤ 9223372036854775807
    ·rw [if_pos ax] at H; have aS := eq_true ax; have aT : decide (ab.size + (strOfNums ac).size ≤ 9223372036854775807) = true := decide_eq_true ax; try have aU : (9223372036854775807 < ab.size + (strOfNums ac).size) = False := eq_false (Nat.not_lt.2 ax)
     obtain rfl := Option.some.inj H
     go_enter Tryd.func10, Tryd.ntmps10; try go_wp2
     have n0 := G.m (below_drew1 HB.out); clear HB; revert n0; intro HB; refine G.st 11 (S := fun w' => True) [] trivial spec_l6Dec.tab7 spec_l6Dec.bits7 (fun hHeld HT_ HW_ => ?_); generalize w.drew = a7 at HB hHeld ⊢; refine G.pu 0 18 1 ?_; refine G.pu 1 19 3 ?_; refine G.pu 3 21 11 ?_; refine G.pu 4 22 27 ?_; refine G.pu 5 23 59 ?_; refine G.pu 6 24 123 ?_; refine join_ (σ := Value) 2 (G.fl 11 511) (fun s_ => [(20, .string ab), (25, s_), (26, .string (strOfNums ac))]) (fun s_ w' => (Kd.R (Kd.int .u8) 5 w' w.heap.size (fun _ => True) s_ ac) ∧ (Below w.heap.size w w')) ?_ ?_; rotate_left
     ·intro hCont; refine two_ (i := 2) (j := 7) (Ni := some 20) (Nj := some 25) (G.fl 11 127) (G.fl 11 251) rfl rfl rfl rfl (two_of HT_.out (by kernel_rfl)) (by decide) (by decide) (fun K hK => ?_) (fun K hK => ?_)
      ·skip; refine G.gs Tryd.func10 #[.int .i64 (wrap64 (Int.tdiv a0 10))] ?_; with_reducible refine (ih k (by omega) (wrap64 (Int.tdiv a0 10)) ab _ aD.out).mono ?_
       rintro e aP ⟨rfl, hb⟩; refine ⟨_, rfl, ?_⟩; have n0 := G.bs HB hb; clear HB; revert n0; intro HB; (try clear hb); refine hK.out _ _ trivial (fun hHeld => ?_); clear hK K; refine G.no 20 ?_; refine G.on 7 25 255 (fun K hK => ?_); refine Kd.R_lit_step (Kd.int .u8) _ 5 ?hg (N := 25) ?hd (xs := ([(wrap64 (48 + (Int.tmod a0 10))) % 256] : List Int)) (inner := [.int .u8 ((wrap64 (48 + (Int.tmod a0 10))) % 256)]) (ok := fun _ => True) (okp := fun _ => True) ?hr ?hp (fun _ hk => hk) trivial (Below.refl _ _) (Nat.le_refl _) (by simp) ?_; (case hd => rfl); (case hg => rfl); (case hr => first | (go_simp; done) | (go_simp; rfl)); (case hp => exact (Reps.one (show Kd.M (Kd.int .u8) _ _ _ ((wrap64 (48 + (Int.tmod a0 10))) % 256) [.int .u8 ((wrap64 (48 + (Int.tmod a0 10))) % 256)] from rfl) (Reps.none _ _))); intro al a8 ap hb hg_ hnew_; clear hg_ hnew_; (first | rw [← am.out] at ap | (simp only [Int.reduceToNat] at ap; rw [← am.out] at ap)); have n0 := G.m (Kd.R_lower ap (below_size (G.cB HB.out))); have n1 := G.bs HB hb; clear HB; revert n0 n1; intro aa HB; clear hb ap; refine hK.out _ _ trivial (fun hHeld => ?_); clear hK K; refine G.no 25 ?_; refine G.on 8 26 511 (fun K hK => ?_); have av := own_string (P := Tryd.prog) Tryd.underlying27 Tryd.underlying5 Tryd.underlying9 (Kd.own_of_R aa.out); refine value_ (w1 := ?_) (v := ?_) (by rfl) rfl ?_ ?_; rotate_left 2
       ·go_simp
        constructor
        ·rfl
        ·rfl
       clear av; refine hK.out _ _ trivial (fun hHeld => ?_); clear hK K; refine G.no 26 ?_; exact norm_ (by simp only [putAll, Act.put, List.setIfInBounds_toArray, List.set_cons_zero, List.set_cons_succ]) (hCont (al) _ ⟨(G.cR aa.out), (G.cB HB.out)⟩)
      ·skip; refine Kd.R_lit_step (Kd.int .u8) _ 5 ?hg (N := 25) ?hd (xs := ([(wrap64 (48 + (Int.tmod a0 10))) % 256] : List Int)) (inner := [.int .u8 ((wrap64 (48 + (Int.tmod a0 10))) % 256)]) (ok := fun _ => True) (okp := fun _ => True) ?hr ?hp (fun _ hk => hk) trivial (Below.refl _ _) (Nat.le_refl _) (by simp) ?_; (case hd => rfl); (case hg => rfl); (case hr => first | (go_simp; done) | (go_simp; rfl)); (case hp => exact (Reps.one (show Kd.M (Kd.int .u8) _ _ _ ((wrap64 (48 + (Int.tmod a0 10))) % 256) [.int .u8 ((wrap64 (48 + (Int.tmod a0 10))) % 256)] from rfl) (Reps.none _ _))); intro al aP aq hb hg_ hnew_; clear hg_ hnew_; (first | rw [← am.out] at aq | (simp only [Int.reduceToNat] at aq; rw [← am.out] at aq)); have n0 := G.m (Kd.R_lower aq (below_size (G.cB HB.out))); have n1 := G.bs HB hb; clear HB; revert n0 n1; intro aa HB; clear hb aq; refine hK.out _ _ trivial (fun hHeld => ?_); clear hK K; refine G.no 25 ?_; refine two_ (i := 2) (j := 8) (Ni := some 20) (Nj := some 26) (G.fl 11 255) (G.fl 11 507) rfl rfl rfl rfl (two_of HT_.out (by kernel_rfl)) (by decide) (by decide) (fun K hK => ?_) (fun K hK => ?_)
       ·skip; refine G.gs Tryd.func10 #[.int .i64 (wrap64 (Int.tdiv a0 10))] ?_; with_reducible refine (ih k (by omega) (wrap64 (Int.tdiv a0 10)) ab _ aD.out).mono ?_
        rintro e a9 ⟨rfl, hb⟩; refine ⟨_, rfl, ?_⟩; have n0 := G.rb aa hb; have n1 := G.bs HB hb; clear aa HB; revert n0 n1; intro aa HB; (try clear hb); refine hK.out _ _ trivial (fun hHeld => ?_); clear hK K; refine G.no 20 ?_; refine G.on 8 26 511 (fun K hK => ?_); have av := own_string (P := Tryd.prog) Tryd.underlying27 Tryd.underlying5 Tryd.underlying9 (Kd.own_of_R aa.out); refine value_ (w1 := ?_) (v := ?_) (by rfl) rfl ?_ ?_; rotate_left 2
        ·go_simp
         constructor
         ·rfl
         ·rfl
        clear av; refine hK.out _ _ trivial (fun hHeld => ?_); clear hK K; refine G.no 26 ?_; exact norm_ (by simp only [putAll, Act.put, List.setIfInBounds_toArray, List.set_cons_zero, List.set_cons_succ]) (hCont (al) _ ⟨(G.cR aa.out), (G.cB HB.out)⟩)
       ·skip; have aF := own_string (P := Tryd.prog) Tryd.underlying27 Tryd.underlying5 Tryd.underlying9 (Kd.own_of_R aa.out); refine value_ (w1 := ?_) (v := ?_) (by rfl) rfl ?_ ?_; rotate_left 2
        ·go_simp
         constructor
         ·rfl
         ·rfl
        clear aF; refine hK.out _ _ trivial (fun hHeld => ?_); clear hK K; refine G.no 26 ?_; refine G.on 2 20 511 (fun K hK => ?_); refine G.gs Tryd.func10 #[.int .i64 (wrap64 (Int.tdiv a0 10))] ?_; with_reducible refine (ih k (by omega) (wrap64 (Int.tdiv a0 10)) ab _ aD.out).mono ?_
        rintro e a_ ⟨rfl, hb⟩; refine ⟨_, rfl, ?_⟩; have n0 := G.rb aa hb; have n1 := G.bs HB hb; clear aa HB; revert n0 n1; intro aa HB; (try clear hb); refine hK.out _ _ trivial (fun hHeld => ?_); clear hK K; refine G.no 20 ?_; exact norm_ (by simp only [putAll, Act.put, List.setIfInBounds_toArray, List.set_cons_zero, List.set_cons_succ]) (hCont (al) _ ⟨(G.cR aa.out), (G.cB HB.out)⟩)
     rintro al aG ⟨aH, aI⟩; have n0 : Aside0 (Kd.R (Kd.int .u8) 5 aG w.heap.size (fun _ => True) al ac) := ⟨aH⟩; have n1 : Aside0 (Below w.heap.size w aG) := ⟨aI⟩; clear HB; clear aH aI; revert n0 n1; intro aa HB; have hHeld := trivial; refine norm_ (a' := ?_) ?_ ?_; rotate_left
     ·simp only [putAll, Act.put, List.setIfInBounds_toArray, List.set_cons_zero, List.set_cons_succ]; rfl
     refine G.pu 9 27 1023 ?_; refine G.pu 10 2 2047 ?_; refine done_ (done_of HT_.out (by kernel_rfl)) ?_; try go_wp2
     go_ret
     exact ⟨caaa, G.cB HB.out⟩
    ·rw [if_neg ax] at H; exact absurd H (by simp)

/-! ### spec_LiveSay: function 5 -/
def spec_LiveSay.l0 : Nat → List Int → ByteArray → Int → Option (ByteArray)
 | 0, _, _, _ => none
 | k + 1, x0, x3, x4 => if x4 < (x0.length : Int) then (if x3.size + 1 ≤ 9223372036854775807 then (if 0 ≤ x4 then ((spec_l6Dec.f k (rd x0 x4)).bind fun ah => (if (x3 ++ (⟨#[32]⟩ : ByteArray)).size + ah.size ≤ 9223372036854775807 then (spec_LiveSay.l0 k x0 ((x3 ++ (⟨#[32]⟩ : ByteArray)) ++ ah) (wrap64 (x4 + 1))) else (none))) else (none)) else (none)) else (some x3)
def spec_LiveSay.f (k : Nat) (l0 : List Int) : Option (ByteArray) := spec_LiveSay.l0 k l0 (⟨#[]⟩ : ByteArray) 0
theorem spec_LiveSay.mono_l : ∀ k, (∀ y0 y1 y2, LeO (spec_LiveSay.l0 k y0 y1 y2) (spec_LiveSay.l0 (k + 1) y0 y1 y2))
 | 0 => fun _ _ _ r h => by simp [spec_LiveSay.l0] at h
 | k + 1 => by
  have ai := spec_LiveSay.mono_l k
  ·intro y0 y1 y2; unfold spec_LiveSay.l0
   repeat' first
   | (with_reducible exact ai _ _ _)
   | (with_reducible exact spec_l6Dec.mono _ _)
   | (with_reducible exact LeO.refl _)
   | (with_reducible exact LeO.none _)
   | (with_reducible refine LeO.ite ?_ ?_)
   | (with_reducible refine LeO.bind ?_ (fun _ => ?_))
   | exact ai _ _ _
   | exact spec_l6Dec.mono _ _
   | exact LeO.none _
   | refine LeO.ite ?_ ?_
   | refine LeO.bind ?_ (fun _ => ?_)
theorem spec_LiveSay.mono : ∀ a0 k, LeO (spec_LiveSay.f k a0) (spec_LiveSay.f (k + 1) a0) := by
 intro a0 k; have ai := spec_LiveSay.mono_l k; unfold spec_LiveSay.f
 repeat' first | (with_reducible first | exact ai _ _ _ | exact spec_l6Dec.mono _ _ | exact LeO.refl _ | exact LeO.none _ | refine LeO.ite ?_ ?_ | refine LeO.bind ?_ (fun _ => ?_)) | exact ai _ _ _ | exact spec_l6Dec.mono _ _ | exact LeO.none _ | refine LeO.ite ?_ ?_ | refine LeO.bind ?_ (fun _ => ?_)
set_option maxHeartbeats 8000000 in
set_option maxRecDepth 100000 in
theorem spec_LiveSay.calls (k : Nat) (A0 : Option Addr) (c0 : Nat) (l0 : List Int) (r : ByteArray) (w : World) (aJ : Kd.C (Kd.int .i64) w A0 l0.length l0) (aK : l0.length ≤ c0) (h : spec_LiveSay.f k l0 = some r) :
  Calls Tryd.prog 5 #[.slice A0 l0.length c0] w fun e w' => e = .returned (.string r) ∧ Below w.heap.size w w' := by
 have aQ := G.m aJ; have ba := G.m aK; clear aJ aK; have HB := G.m (Below.refl w.heap.size w); have H : (spec_LiveSay.l0 k l0 (⟨#[]⟩ : ByteArray) 0) = some r := h; clear h; have H' := G.m H; clear H
 go_enter Tryd.func5, Tryd.ntmps5
 go_wp2
 go_loopg [3, 4] k (fun kq v3 v4 w' => ∃ (af : ByteArray) (ae : Int), v3 = .string af ∧ v4 = .int .i64 ae ∧ Aside0 (spec_LiveSay.l0 kq l0 af ae = some r) ∧ Aside0 (kq ≤ k) ∧ Aside0 (Below w.heap.size w w'))
 case atStart => exact ⟨((⟨#[]⟩ : ByteArray)), (0), (by first | rfl | (simp; done) | (simp [*]; done)), (by first | rfl | (simp; done) | (simp [*]; done)), H', ⟨Nat.le_refl _⟩, ⟨G.cB HB.out⟩⟩
 case round =>
  clear H'; obtain ⟨af, ae, rfl, rfl, HA, aL, HB⟩ := hrel; cases gk with
  | zero => exact absurd HA.out (by simp [spec_LiveSay.l0])
  | succ k1 =>
   have H := HA.out; clear HA; simp only [spec_LiveSay.l0] at H
   by_cases c2 : ae < (l0.length : Int)
   ·rw [if_pos c2] at H; have ay : decide (ae < (l0.length : Int)) = true := decide_eq_true c2; clear c2
    by_cases c3 : af.size + 1 ≤ 9223372036854775807
    ·rw [if_pos c3] at H; have aC := eq_true c3; have a1 : decide (af.size + 1 ≤ 9223372036854775807) = true := decide_eq_true c3; try have a2 : (9223372036854775807 < af.size + 1) = False := eq_false (Nat.not_lt.2 c3)
     by_cases c4 : 0 ≤ ae
     ·rw [if_pos c4] at H; have a3 : decide (0 ≤ ae) = true := decide_eq_true c4; clear c4; obtain ⟨ah, A5, H⟩ := G.bi H; replace H : (if (af ++ (⟨#[32]⟩ : ByteArray)).size + ah.size ≤ 9223372036854775807 then (spec_LiveSay.l0 k1 l0 ((af ++ (⟨#[32]⟩ : ByteArray)) ++ ah) (wrap64 (ae + 1))) else (none)) = some r := H
      by_cases c6 : (af ++ (⟨#[32]⟩ : ByteArray)).size + ah.size ≤ 9223372036854775807
      ·rw [if_pos c6] at H; have a4 := eq_true c6; have a5 : decide ((af ++ (⟨#[32]⟩ : ByteArray)).size + ah.size ≤ 9223372036854775807) = true := decide_eq_true c6; try have a6 : (9223372036854775807 < (af ++ (⟨#[32]⟩ : ByteArray)).size + ah.size) = False := eq_false (Nat.not_lt.2 c6)
       have cN := c6; simp only [ByteArray.size_append] at cN; have bc := eq_true cN; have bd := eq_false (Nat.not_lt.2 cN); have cM : af.size + 1 + ah.size ≤ 9223372036854775807 := cN; have bf := eq_true cM; have bh := eq_false (Nat.not_lt.2 cM); clear cN cM; have H' := G.m H; clear H; have az : 0 ≤ (ae : Int) := of_decide_eq_true (G.asm); have aA : ae < (l0.length : Int) := of_decide_eq_true (G.asm); obtain ⟨aV, aO, au⟩ := Kd.at_int aQ.out ae az aA; cases aO; replace au := G.hx HB au; replace az := eq_true az; replace aA := eq_true aA
       go_wp2_with (first | ((with_reducible refine G.f 10 rfl ?_); refine G.gL 17 Tryd.func10 #[.int .i64 (rd l0 ae)] ?_; (with_reducible refine (spec_l6Dec.calls k1 (rd l0 ae) ah _ A5.out).mono ?_); rintro e w7 ⟨rfl, hb⟩; refine ⟨_, rfl, ?_⟩; have n0 := G.bs HB hb; clear HB; revert n0; intro HB; (try clear hb)))
       go_roundg k1
       case measure => have := aL.out; omega
       case rel => exact ⟨((af ++ (⟨#[32]⟩ : ByteArray)) ++ ah), (wrap64 (ae + 1)), (by first | rfl | (simp; done) | (simp [*]; done)), (by first | rfl | (simp; done) | (simp [*]; done)), H', ⟨by have := aL.out; omega⟩, ⟨G.cB HB.out⟩⟩
      ·rw [if_neg c6] at H; exact absurd H (by simp)
     ·rw [if_neg c4] at H; exact absurd H (by simp)
    ·rw [if_neg c3] at H; exact absurd H (by simp)
   ·rw [if_neg c2] at H; have ay : decide (ae < (l0.length : Int)) = false := decide_eq_false c2; clear c2; obtain rfl := Option.some.inj H
    go_wp2
    go_ret
    exact ⟨caaa, G.cB HB.out⟩

end Go.Proofs.YtbpkngahnmoocaaDoor.P
