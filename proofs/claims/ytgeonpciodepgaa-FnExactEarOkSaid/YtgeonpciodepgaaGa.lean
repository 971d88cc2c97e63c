/- A tie: two whole numbers; and a row of the call's own, told as what may be shared. -/
import Derived.Test.YtgeonpciodepgaaV
namespace Go.Proofs.Ytgeonpciodepgaa.G
open Go.Proofs.YtgeonpciodepgaaW.PrintWords
structure Tie where
  f0 : Int
  f1 : Int
deriving DecidableEq
theorem RV2 {α : Type} {d : Kd α} {e base base' base0 : Nat} {W : World} {v : Value} {xs : List α} {P Q : Nat → Prop} (h : Kd.R d e W base (fun k => base0 ≤ k ∧ Q k) v xs) : Kd.V d e W base' (fun k => (P k ∨ base0 ≤ k) ∧ Q k) v xs :=
  Kd.V_mono (Kd.R_V h) (fun _ hk => ⟨.inr hk.1, hk.2⟩)
end Go.Proofs.Ytgeonpciodepgaa.G
