/- The library's table (math/bits): the row's condition gives the walks its cells; and the door's own heap meets the condition. -/
import Derived.Test.YtjkeagcenmmknaaDoorRows
import Derived.Test.YtjkeagcenmmknaaDoorProg
import Derived.Shelf.Spec.TrailingZeros
import Derived.ProofKit
import Derived.LaidMore
import Derived.LaidHandle
import Derived.OpenShut
import Derived.Lib.LaidTab
import Derived.Stop.LaidErr
import Derived.Stop.Joined
namespace Go.Proofs.YtjkeagcenmmknaaDoor.P
open Go.RowKit Go.ChangeShapes Go.WideShapes Go.ChangeAt
/-- what the rows list -/
abbrev laidAll : List (String × DataW Unit) := [("math/bits.deBruijn32tab", Rows.laid_math_bits_deBruijn32tab), ("math/bits.deBruijn64tab", Rows.laid_math_bits_deBruijn64tab)]
theorem gNamed : Tryd.prog.globalNamed "math/bits.deBruijn64tab" = some 1 := by kernel_rfl
theorem gType : (Tryd.prog.globals[1]?).map (·.type) = some 112 := by kernel_rfl
theorem lay_of {W : World} (h : laidMetH Tryd.prog laidAll W) : TabAt 1 Lib.deBruijn64tab W := by
  rw [MakeChecks.laidMetH_plain _ _ _ (by kernel_rfl)] at h
  have hT : Lib.TabIs Tryd.prog W "math/bits.deBruijn64tab" .u8 (Lib.deBruijn64tab.map Int.ofNat) :=
    Lib.tabIs_of_head gNamed gType Tryd.underlying112 Tryd.underlying5 (by kernel_rfl) (by kernel_rfl) (laidMet.tail h)
  intro j hj
  have := hT.cell gNamed j (by simpa using hj)
  rw [this]
  congr 2
  simp [List.getD_eq_getElem?_getD, List.getElem?_map]
  cases Lib.deBruijn64tab[j]? <;> rfl
/-- The door's own heap meets the condition. -/
theorem door_met (os : Os) (args : Array Value) : laidMetH Tryd.prog laidAll ((World.doorLaid Tryd.prog 19 os).forCall (fun _ _ => 0) ⟨#[], args, []⟩).memory :=
  laidMetH_of_parts3 (fuel := 8) (laidMet_of_run' 8 (by kernel_rfl) (by kernel_rfl)) (by kernel_rfl) (by kernel_rfl)
end Go.Proofs.YtjkeagcenmmknaaDoor.P
