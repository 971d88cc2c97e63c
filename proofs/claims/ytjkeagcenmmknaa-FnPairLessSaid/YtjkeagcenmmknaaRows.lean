/-
  No cell of these rows narrows 'for every input' (looked for: loops, veiled, ifaces, maps, wideKeys, modest, calm, conditions, laid).
  DERIVED. THE GIVEN ROWS OF THIS SEAT. 2 by the template 'for every input the law returns true; each argument reads behind the call as it read before'; 0 by the template 'total and deterministic' (their statements: YtjkeagcenmmknaaTotals.lean).
  GIVEN WITH THE SEED: the statements are not yours to turn. If you find one false, say at which input.
  Laid BY PROGRAM, IN A SANDBOX (cutbox-rows.mjs): the forced cells as the released guide's own fill.sh prints them over the translation ca4681be84599201… (all of the seat's roots in one cut). By AI agents, Wed Nov 11 2026. No macro, syntax, notation, axiom, sorry.
-/
import Derived.Test.YtjkeagcenmmknaaChecked
import GoSem.Claim
import GoSem.ClaimJoined
import GoSem.ClaimMapViews
import Derived.JoinedTies
import Derived.KernelRfl
namespace Go.Proofs.Ytjkeagcenmmknaa
/- THE CELL 'sum', in the pinned program and in every row, IS THE sha256 OF THE DUMP (.gsa) THAT YtjkeagcenmmknaaProg.lean LOADS. Nothing in Lean hashes anything: it is a label: what it is worth is what the hold of that sum in a sandbox is worth. -/
noncomputable def Try.pinned : Pinned := { name := "ytjkeagcenmmknaa", sum := "ca4681be84599201746d1272b20793f8c1bd3b77a58c7f5b313243697c8518a5", checked := Try.checked }
namespace Rows
def none {H : Type} : Left H := { results := [], args := [] }

/-- 'laws.FnExactPairOk': WHATEVER THE INPUT: true; the input reads as it did. -/
def fnExactPairOkSpec : ChangeSpec := { name := "fnExactPairOk", fn := fun _ => fun
  | [d1, d2] => { results := [.lit (.bool true)], args := [d1, d2] }
  | _ => none }
def fnExactPairOkRow : OpenClaim := { program := "ytjkeagcenmmknaa", sum := "ca4681be84599201746d1272b20793f8c1bd3b77a58c7f5b313243697c8518a5", func := "loop.example/osier/laws.FnExactPairOk", spec := "fnExactPairOk", apart := false }
def FnExactPairOkSaid : Prop := fnExactPairOkRow.holds Try.pinned (OpenSpec.ofChange fnExactPairOkSpec)

/-- ITS FALSE NEIGHBOUR: 'it returns false'. Refute it at one input. -/
def fnExactPairOkWrong : ChangeSpec := { name := "fnExactPairOk", fn := fun _ => fun
  | [d1, d2] => { results := [.lit (.bool false)], args := [d1, d2] }
  | _ => none }
def FnExactPairOkWrongFalsely : Prop := fnExactPairOkRow.holds Try.pinned (OpenSpec.ofChange fnExactPairOkWrong)

/-- 'laws.FnPairLess': WHATEVER THE INPUT: true; the input reads as it did. -/
def fnPairLessSpec : ChangeSpec := { name := "fnPairLess", fn := fun _ => fun
  | [d1, d2] => { results := [.lit (.bool true)], args := [d1, d2] }
  | _ => none }
def fnPairLessRow : OpenClaim := { program := "ytjkeagcenmmknaa", sum := "ca4681be84599201746d1272b20793f8c1bd3b77a58c7f5b313243697c8518a5", func := "loop.example/osier/laws.FnPairLess", spec := "fnPairLess", apart := false }
def FnPairLessSaid : Prop := fnPairLessRow.holds Try.pinned (OpenSpec.ofChange fnPairLessSpec)

/-- ITS FALSE NEIGHBOUR: 'it returns false'. Refute it at one input. -/
def fnPairLessWrong : ChangeSpec := { name := "fnPairLess", fn := fun _ => fun
  | [d1, d2] => { results := [.lit (.bool false)], args := [d1, d2] }
  | _ => none }
def FnPairLessWrongFalsely : Prop := fnPairLessRow.holds Try.pinned (OpenSpec.ofChange fnPairLessWrong)

/- THE SECOND FORM. 'bulk': how many values and letters a reading holds, each counted each time it is reached (what is shared counts as often as it is met; a slice's spare places count too). A statement '..UptoSaid' is the law's where the arguments, and the package variables that the reading takes, are together of bulk at most 1048576: NARROWER than '..Said'. Prove '..Said' where nothing that the law and all that it calls make is longer than what came in: it says more and counts as full. Else prove '..UptoSaid'. A law counts once. -/
mutual
def uptoBulk {H : Type} : DataW H → Nat
  | .lit (.string bytes) => bytes.length + 1
  | .lit _ => 1
  | .nil => 1
  | .ptr d => uptoBulk d + 1
  | .slice elems spare => uptoBulkAll elems + uptoBulkAll spare + 1
  | .agg parts => uptoBulkAll parts + 1
  | .iface _ d => uptoBulk d + 1
  | .map entries => uptoBulkEntries entries + 1
  | .held _ => 1
def uptoBulkAll {H : Type} : List (DataW H) → Nat
  | [] => 0
  | d :: r => uptoBulk d + uptoBulkAll r
def uptoBulkEntries {H : Type} : List (Lit × DataW H) → Nat
  | [] => 0
  | x :: r => uptoBulkEntry x + uptoBulkEntries r
def uptoBulkEntry {H : Type} : Lit × DataW H → Nat
  | (.string bytes, d) => bytes.length + uptoBulk d + 1
  | (_, d) => uptoBulk d + 1
 end
def uptoSmall : (H : Type) → List (DataW H) → Bool := fun _ ds => decide (uptoBulkAll ds ≤ 1048576)
def OpenSpec.upto (s : _root_.Go.ChangeSpec) : _root_.Go.OpenSpec := { _root_.Go.OpenSpec.ofChange s with cond := some uptoSmall }

/-- 'laws.FnExactPairOk', WHERE WHAT IT READS IS OF BULK AT MOST 1048576: true; the input reads as it did. -/
def fnExactPairOkUptoRow : OpenClaim := { program := "ytjkeagcenmmknaa", sum := "ca4681be84599201746d1272b20793f8c1bd3b77a58c7f5b313243697c8518a5", func := "loop.example/osier/laws.FnExactPairOk", spec := "fnExactPairOk", apart := false, narrowed := true }
def FnExactPairOkUptoSaid : Prop := fnExactPairOkUptoRow.holds Try.pinned (OpenSpec.upto fnExactPairOkSpec)

/-- 'laws.FnPairLess', WHERE WHAT IT READS IS OF BULK AT MOST 1048576: true; the input reads as it did. -/
def fnPairLessUptoRow : OpenClaim := { program := "ytjkeagcenmmknaa", sum := "ca4681be84599201746d1272b20793f8c1bd3b77a58c7f5b313243697c8518a5", func := "loop.example/osier/laws.FnPairLess", spec := "fnPairLess", apart := false, narrowed := true }
def FnPairLessUptoSaid : Prop := fnPairLessUptoRow.holds Try.pinned (OpenSpec.upto fnPairLessSpec)

end Rows
end Go.Proofs.Ytjkeagcenmmknaa
