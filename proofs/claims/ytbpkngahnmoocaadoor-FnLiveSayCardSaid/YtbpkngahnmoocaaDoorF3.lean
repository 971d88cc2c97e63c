-- Printed by a program of this session (mp.py, over the kit's print). Not trusted: Lean checks it.
import Derived.Test.YtbpkngahnmoocaaDoorF0
import Derived.Test.YtbpkngahnmoocaaDoorF2
namespace Go.Proofs.YtbpkngahnmoocaaDoor.P
open Go.RowKit Go.Proofs.YtbpkngahnmoocaaDoorW.PrintWords Go.Proofs.YtbpkngahnmoocaaDoorW.PrintLast Go.Proofs.YtbpkngahnmoocaaDoorW.PrintMore
attribute [local go_sem] max2_int min2_int max_two min_two max_three min_three max_four min_four   -- for this text's walks alone
set_option linter.unusedVariables false
set_option linter.unusedSimpArgs false

/-! ### impl_LiveSay: function 7 -/
def impl_LiveSay.l0 : Nat → ByteArray → List Int → Int → Int → Option (ByteArray)
 | 0, _, _, _, _ => none
 | k + 1, x3, x6, x7, x8 => if x8 < x7 then (if 0 ≤ x8 then (if x8 < (x6.length : Int) then ((strconv_Itoa.f (rd x6 x8)).bind fun ab => (if 1 + ab.size ≤ 9223372036854775807 then (if x3.size + ((⟨#[32]⟩ : ByteArray) ++ ab).size ≤ 9223372036854775807 then (impl_LiveSay.l0 k (x3 ++ ((⟨#[32]⟩ : ByteArray) ++ ab)) x6 x7 (wrap64 (x8 + 1))) else (none)) else (none))) else (none)) else (none)) else (some x3)
def impl_LiveSay.f (k : Nat) (l0 : List Int) : Option (ByteArray) := impl_LiveSay.l0 k (⟨#[]⟩ : ByteArray) l0 (l0.length : Int) 0
theorem impl_LiveSay.mono_l : ∀ k, (∀ y0 y1 y2 y3, LeO (impl_LiveSay.l0 k y0 y1 y2 y3) (impl_LiveSay.l0 (k + 1) y0 y1 y2 y3))
 | 0 => fun _ _ _ _ r h => by simp [impl_LiveSay.l0] at h
 | k + 1 => by
  have af := impl_LiveSay.mono_l k
  ·intro y0 y1 y2 y3; unfold impl_LiveSay.l0
   repeat' first
   | (with_reducible exact af _ _ _ _)
   | (with_reducible exact LeO.refl _)
   | (with_reducible exact LeO.none _)
   | (with_reducible refine LeO.ite ?_ ?_)
   | (with_reducible refine LeO.bind ?_ (fun _ => ?_))
   | exact af _ _ _ _
   | exact LeO.none _
   | refine LeO.ite ?_ ?_
   | refine LeO.bind ?_ (fun _ => ?_)
theorem impl_LiveSay.mono : ∀ a0 k, LeO (impl_LiveSay.f k a0) (impl_LiveSay.f (k + 1) a0) := by
 intro a0 k; have af := impl_LiveSay.mono_l k; unfold impl_LiveSay.f
 repeat' first | (with_reducible first | exact af _ _ _ _ | exact LeO.refl _ | exact LeO.none _ | refine LeO.ite ?_ ?_ | refine LeO.bind ?_ (fun _ => ?_)) | exact af _ _ _ _ | exact LeO.none _ | refine LeO.ite ?_ ?_ | refine LeO.bind ?_ (fun _ => ?_)
set_option maxHeartbeats 8000000 in
set_option maxRecDepth 100000 in
theorem impl_LiveSay.calls (k : Nat) (A0 : Option Addr) (c0 : Nat) (l0 : List Int) (r : ByteArray) (w : World) (ai : Kd.C (Kd.int .i64) w A0 l0.length l0) (aj : l0.length ≤ c0) (h : impl_LiveSay.f k l0 = some r) (hT : TabP w) :
  Calls Tryd.prog 7 #[.slice A0 l0.length c0] w fun e w' => e = .returned (.string r) ∧ Below w.heap.size w w' := by
 have HTb := G.m hT; clear hT; have ao := G.m ai; have aB := G.m aj; clear ai aj; have HB := G.m (Below.refl w.heap.size w); have H : (impl_LiveSay.l0 k (⟨#[]⟩ : ByteArray) l0 (l0.length : Int) 0) = some r := h; clear h; have H' := G.m H; clear H
 go_enter Tryd.func7, Tryd.ntmps7
 go_wp2
 go_loopg [3, 8] k (fun kq v3 v8 w' => ∃ (ac : ByteArray) (aa : Int), v3 = .string ac ∧ v8 = .int .i64 aa ∧ Aside0 (impl_LiveSay.l0 kq ac l0 (l0.length : Int) aa = some r) ∧ Aside0 (kq ≤ k) ∧ Aside0 (Below w.heap.size w w'))
 case atStart => exact ⟨((⟨#[]⟩ : ByteArray)), (0), (by first | rfl | (simp; done) | (simp [*]; done)), (by first | rfl | (simp; done) | (simp [*]; done)), H', ⟨Nat.le_refl _⟩, ⟨G.cB HB.out⟩⟩
 case round =>
  clear H'; obtain ⟨ac, aa, rfl, rfl, HA, ak, HB⟩ := hrel; cases gk with
  | zero => exact absurd HA.out (by simp [impl_LiveSay.l0])
  | succ k1 =>
   have H := HA.out; clear HA; simp only [impl_LiveSay.l0] at H
   by_cases c2 : aa < (l0.length : Int)
   ·rw [if_pos c2] at H; have al : decide (aa < (l0.length : Int)) = true := decide_eq_true c2; clear c2
    by_cases c3 : 0 ≤ aa
    ·rw [if_pos c3] at H; have aq : decide (0 ≤ aa) = true := decide_eq_true c3; clear c3
     by_cases c4 : aa < (l0.length : Int)
     ·rw [if_pos c4] at H; have au : decide (aa < (l0.length : Int)) = true := decide_eq_true c4; clear c4; obtain ⟨ab, A5, H⟩ := G.bi H; replace H : (if 1 + ab.size ≤ 9223372036854775807 then (if ac.size + ((⟨#[32]⟩ : ByteArray) ++ ab).size ≤ 9223372036854775807 then (impl_LiveSay.l0 k1 (ac ++ ((⟨#[32]⟩ : ByteArray) ++ ab)) l0 (l0.length : Int) (wrap64 (aa + 1))) else (none)) else (none)) = some r := H
      by_cases c6 : 1 + ab.size ≤ 9223372036854775807
      ·rw [if_pos c6] at H; have av := eq_true c6; have aw : decide (1 + ab.size ≤ 9223372036854775807) = true := decide_eq_true c6; try have ax : (9223372036854775807 < 1 + ab.size) = False := eq_false (Nat.not_lt.2 c6)
       by_cases c7 : ac.size + ((⟨#[32]⟩ : ByteArray) ++ ab).size ≤ 9223372036854775807
       ·rw [if_pos c7] at H; have ay := eq_true c7; have az : decide (ac.size + ((⟨#[32]⟩ : ByteArray) ++ ab).size ≤ 9223372036854775807) = true := decide_eq_true c7; try have aA : (9223372036854775807 < ac.size + ((⟨#[32]⟩ : ByteArray) ++ ab).size) = False := eq_false (Nat.not_lt.2 c7)
        have H' := G.m H; clear H; have ag : 0 ≤ (aa : Int) := of_decide_eq_true (G.asm); have ah : aa < (l0.length : Int) := of_decide_eq_true (G.asm); obtain ⟨ap, am, ae⟩ := Kd.at_int ao.out aa ag ah; cases am; replace ae := G.hx HB ae; replace ag := eq_true ag; replace ah := eq_true ah
        go_wp2_with (first | ((with_reducible refine G.f 11 rfl ?_); refine G.gL 14 Tryd.func11 #[.int .i64 (rd l0 aa)] ?_; (with_reducible refine (strconv_Itoa.calls (rd l0 aa) ab _ A5.out ?sideT).mono ?_); (case sideT => exact lay HTb.out (G.cB HB.out)); rintro e w8 ⟨rfl, hb⟩; refine ⟨_, rfl, ?_⟩; have n0 := G.bs HB hb; clear HB; revert n0; intro HB; (try clear hb)))
        go_roundg k1
        case measure => have := ak.out; omega
        case rel => exact ⟨(ac ++ ((⟨#[32]⟩ : ByteArray) ++ ab)), (wrap64 (aa + 1)), (by first | rfl | (simp; done) | (simp [*]; done)), (by first | rfl | (simp; done) | (simp [*]; done)), H', ⟨by have := ak.out; omega⟩, ⟨G.cB HB.out⟩⟩
       ·rw [if_neg c7] at H; exact absurd H (by simp)
      ·rw [if_neg c6] at H; exact absurd H (by simp)
     ·rw [if_neg c4] at H; exact absurd H (by simp)
    ·rw [if_neg c3] at H; exact absurd H (by simp)
   ·rw [if_neg c2] at H; have al : decide (aa < (l0.length : Int)) = false := decide_eq_false c2; clear c2; obtain rfl := Option.some.inj H
    go_wp2
    go_ret
    exact ⟨by first | rfl | (simp [errW_none, errW_some] <;> rfl) | (simp [*, errW_none, errW_some] <;> rfl), G.cB HB.out⟩

end Go.Proofs.YtbpkngahnmoocaaDoor.P
