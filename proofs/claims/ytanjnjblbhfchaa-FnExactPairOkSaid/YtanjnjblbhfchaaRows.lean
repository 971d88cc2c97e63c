/-
  No cell of these rows narrows 'for every input' (looked for: loops, veiled, ifaces, maps, wideKeys, modest, calm, conditions, laid).
  DERIVED. THE GIVEN ROWS OF THIS SEAT. 4 by the template 'for every input the law returns true; each argument reads behind the call as it read before'; 0 by the template 'total and deterministic' (their statements: YtanjnjblbhfchaaTotals.lean).
  GIVEN WITH THE SEED: the statements are not yours to turn. If you find one false, say at which input.
  Laid BY PROGRAM, IN A SANDBOX (cutbox-rows.mjs): the forced cells as the released guide's own fill.sh prints them over the translation 14c34e2ec59ddec6… (all of the seat's roots in one cut). By AI agents, Wed Nov 11 2026. No macro, syntax, notation, axiom, sorry.
-/
import Derived.Test.YtanjnjblbhfchaaChecked
import GoSem.Claim
import GoSem.ClaimJoined
import GoSem.ClaimMapViews
import Derived.JoinedTies
import Derived.KernelRfl
namespace Go.Proofs.Ytanjnjblbhfchaa
/- THE CELL 'sum', in the pinned program and in every row, IS THE sha256 OF THE DUMP (.gsa) THAT YtanjnjblbhfchaaProg.lean LOADS. Nothing in Lean hashes anything: it is a label: what it is worth is what the hold of that sum in a sandbox is worth. -/
noncomputable def Try.pinned : Pinned := { name := "ytanjnjblbhfchaa", sum := "14c34e2ec59ddec6e4a5b839d95520fc1f616a9acfe2f16b32b8394512bed1d1", checked := Try.checked }
namespace Rows
def none {H : Type} : Left H := { results := [], args := [] }

/-- 'laws.FnExactSideOk': WHATEVER THE INPUT: true; the input reads as it did. -/
def fnExactSideOkSpec : ChangeSpec := { name := "fnExactSideOk", fn := fun _ => fun
  | [d1, d2] => { results := [.lit (.bool true)], args := [d1, d2] }
  | _ => none }
def fnExactSideOkRow : OpenClaim := { program := "ytanjnjblbhfchaa", sum := "14c34e2ec59ddec6e4a5b839d95520fc1f616a9acfe2f16b32b8394512bed1d1", func := "loop.example/osier/laws.FnExactSideOk", spec := "fnExactSideOk", apart := false }
def FnExactSideOkSaid : Prop := fnExactSideOkRow.holds Try.pinned (OpenSpec.ofChange fnExactSideOkSpec)

/-- ITS FALSE NEIGHBOUR: 'it returns false'. Refute it at one input. -/
def fnExactSideOkWrong : ChangeSpec := { name := "fnExactSideOk", fn := fun _ => fun
  | [d1, d2] => { results := [.lit (.bool false)], args := [d1, d2] }
  | _ => none }
def FnExactSideOkWrongFalsely : Prop := fnExactSideOkRow.holds Try.pinned (OpenSpec.ofChange fnExactSideOkWrong)

/-- 'laws.FnExactPairOk': WHATEVER THE INPUT: true; the input reads as it did. -/
def fnExactPairOkSpec : ChangeSpec := { name := "fnExactPairOk", fn := fun _ => fun
  | [d1, d2] => { results := [.lit (.bool true)], args := [d1, d2] }
  | _ => none }
def fnExactPairOkRow : OpenClaim := { program := "ytanjnjblbhfchaa", sum := "14c34e2ec59ddec6e4a5b839d95520fc1f616a9acfe2f16b32b8394512bed1d1", func := "loop.example/osier/laws.FnExactPairOk", spec := "fnExactPairOk", apart := false }
def FnExactPairOkSaid : Prop := fnExactPairOkRow.holds Try.pinned (OpenSpec.ofChange fnExactPairOkSpec)

/-- ITS FALSE NEIGHBOUR: 'it returns false'. Refute it at one input. -/
def fnExactPairOkWrong : ChangeSpec := { name := "fnExactPairOk", fn := fun _ => fun
  | [d1, d2] => { results := [.lit (.bool false)], args := [d1, d2] }
  | _ => none }
def FnExactPairOkWrongFalsely : Prop := fnExactPairOkRow.holds Try.pinned (OpenSpec.ofChange fnExactPairOkWrong)

/-- 'laws.FnExactTrailCan': WHATEVER THE INPUT: true; the input reads as it did. -/
def fnExactTrailCanSpec : ChangeSpec := { name := "fnExactTrailCan", fn := fun _ => fun
  | [d1, d2] => { results := [.lit (.bool true)], args := [d1, d2] }
  | _ => none }
def fnExactTrailCanRow : OpenClaim := { program := "ytanjnjblbhfchaa", sum := "14c34e2ec59ddec6e4a5b839d95520fc1f616a9acfe2f16b32b8394512bed1d1", func := "loop.example/osier/laws.FnExactTrailCan", spec := "fnExactTrailCan", apart := false }
def FnExactTrailCanSaid : Prop := fnExactTrailCanRow.holds Try.pinned (OpenSpec.ofChange fnExactTrailCanSpec)

/-- ITS FALSE NEIGHBOUR: 'it returns false'. Refute it at one input. -/
def fnExactTrailCanWrong : ChangeSpec := { name := "fnExactTrailCan", fn := fun _ => fun
  | [d1, d2] => { results := [.lit (.bool false)], args := [d1, d2] }
  | _ => none }
def FnExactTrailCanWrongFalsely : Prop := fnExactTrailCanRow.holds Try.pinned (OpenSpec.ofChange fnExactTrailCanWrong)

/-- 'laws.FnExactTrailOk': WHATEVER THE INPUT: true; the input reads as it did. -/
def fnExactTrailOkSpec : ChangeSpec := { name := "fnExactTrailOk", fn := fun _ => fun
  | [d1, d2] => { results := [.lit (.bool true)], args := [d1, d2] }
  | _ => none }
def fnExactTrailOkRow : OpenClaim := { program := "ytanjnjblbhfchaa", sum := "14c34e2ec59ddec6e4a5b839d95520fc1f616a9acfe2f16b32b8394512bed1d1", func := "loop.example/osier/laws.FnExactTrailOk", spec := "fnExactTrailOk", apart := false }
def FnExactTrailOkSaid : Prop := fnExactTrailOkRow.holds Try.pinned (OpenSpec.ofChange fnExactTrailOkSpec)

/-- ITS FALSE NEIGHBOUR: 'it returns false'. Refute it at one input. -/
def fnExactTrailOkWrong : ChangeSpec := { name := "fnExactTrailOk", fn := fun _ => fun
  | [d1, d2] => { results := [.lit (.bool false)], args := [d1, d2] }
  | _ => none }
def FnExactTrailOkWrongFalsely : Prop := fnExactTrailOkRow.holds Try.pinned (OpenSpec.ofChange fnExactTrailOkWrong)

/- THE SECOND FORM. 'bulk': how many values and letters a reading holds, each counted each time it is reached (what is shared counts as often as it is met; a slice's spare places count too). A statement '..UptoSaid' is the law's where the arguments, and the package variables that the reading takes, are together of bulk at most 1048576: NARROWER than '..Said'. Prove '..Said' where nothing that the law and all that it calls make is longer than what came in: it says more and counts as full. Else prove '..UptoSaid'. A law counts once. -/
mutual
def uptoBulk {H : Type} : DataW H → Nat
  | .lit (.string bytes) => bytes.length + 1
  | .lit _ => 1
  | .nil => 1
  | .ptr d => uptoBulk d + 1
  | .slice elems spare => uptoBulkAll elems + uptoBulkAll spare + 1
  | .agg parts => uptoBulkAll parts + 1
  | .iface _ d => uptoBulk d + 1
  | .map entries => uptoBulkEntries entries + 1
  | .held _ => 1
def uptoBulkAll {H : Type} : List (DataW H) → Nat
  | [] => 0
  | d :: r => uptoBulk d + uptoBulkAll r
def uptoBulkEntries {H : Type} : List (Lit × DataW H) → Nat
  | [] => 0
  | x :: r => uptoBulkEntry x + uptoBulkEntries r
def uptoBulkEntry {H : Type} : Lit × DataW H → Nat
  | (.string bytes, d) => bytes.length + uptoBulk d + 1
  | (_, d) => uptoBulk d + 1
 end
def uptoSmall : (H : Type) → List (DataW H) → Bool := fun _ ds => decide (uptoBulkAll ds ≤ 1048576)
def OpenSpec.upto (s : _root_.Go.ChangeSpec) : _root_.Go.OpenSpec := { _root_.Go.OpenSpec.ofChange s with cond := some uptoSmall }

/-- 'laws.FnExactSideOk', WHERE WHAT IT READS IS OF BULK AT MOST 1048576: true; the input reads as it did. -/
def fnExactSideOkUptoRow : OpenClaim := { program := "ytanjnjblbhfchaa", sum := "14c34e2ec59ddec6e4a5b839d95520fc1f616a9acfe2f16b32b8394512bed1d1", func := "loop.example/osier/laws.FnExactSideOk", spec := "fnExactSideOk", apart := false, narrowed := true }
def FnExactSideOkUptoSaid : Prop := fnExactSideOkUptoRow.holds Try.pinned (OpenSpec.upto fnExactSideOkSpec)

/-- 'laws.FnExactPairOk', WHERE WHAT IT READS IS OF BULK AT MOST 1048576: true; the input reads as it did. -/
def fnExactPairOkUptoRow : OpenClaim := { program := "ytanjnjblbhfchaa", sum := "14c34e2ec59ddec6e4a5b839d95520fc1f616a9acfe2f16b32b8394512bed1d1", func := "loop.example/osier/laws.FnExactPairOk", spec := "fnExactPairOk", apart := false, narrowed := true }
def FnExactPairOkUptoSaid : Prop := fnExactPairOkUptoRow.holds Try.pinned (OpenSpec.upto fnExactPairOkSpec)

/-- 'laws.FnExactTrailCan', WHERE WHAT IT READS IS OF BULK AT MOST 1048576: true; the input reads as it did. -/
def fnExactTrailCanUptoRow : OpenClaim := { program := "ytanjnjblbhfchaa", sum := "14c34e2ec59ddec6e4a5b839d95520fc1f616a9acfe2f16b32b8394512bed1d1", func := "loop.example/osier/laws.FnExactTrailCan", spec := "fnExactTrailCan", apart := false, narrowed := true }
def FnExactTrailCanUptoSaid : Prop := fnExactTrailCanUptoRow.holds Try.pinned (OpenSpec.upto fnExactTrailCanSpec)

/-- 'laws.FnExactTrailOk', WHERE WHAT IT READS IS OF BULK AT MOST 1048576: true; the input reads as it did. -/
def fnExactTrailOkUptoRow : OpenClaim := { program := "ytanjnjblbhfchaa", sum := "14c34e2ec59ddec6e4a5b839d95520fc1f616a9acfe2f16b32b8394512bed1d1", func := "loop.example/osier/laws.FnExactTrailOk", spec := "fnExactTrailOk", apart := false, narrowed := true }
def FnExactTrailOkUptoSaid : Prop := fnExactTrailOkUptoRow.holds Try.pinned (OpenSpec.upto fnExactTrailOkSpec)

end Rows
end Go.Proofs.Ytanjnjblbhfchaa
