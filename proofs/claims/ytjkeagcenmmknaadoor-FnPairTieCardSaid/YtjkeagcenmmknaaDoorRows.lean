/-
  NARROWER THAN 'FOR EVERY INPUT', by the rows' own cells (each row's printed sentence says how): FnExactPairSize: laid · FnExactPairOf: laid · FnExactPairWhy: laid · FnPairHalf: laid · FnPairKnot: laid · FnPairFull: laid · FnPairOf: laid · FnPairFirst: laid · FnPairTop: laid · FnPairWhy: laid · FnPairTie: laid.
  DERIVED. THE GIVEN ROWS OF THIS SEAT. 11 by the template 'for every input the law returns true; each argument reads behind the call as it read before'; 0 by the template 'total and deterministic' (their statements: YtjkeagcenmmknaaDoorTotals.lean).
  GIVEN WITH THE SEED: the statements are not yours to turn. If you find one false, say at which input.
  Laid BY PROGRAM, IN A SANDBOX (cutbox-rows.mjs): the forced cells as the released guide's own fill.sh prints them over the translation 96a774b634d2a1d6… (all of the seat's roots in one cut). By AI agents, Wed Nov 11 2026. No macro, syntax, notation, axiom, sorry.
-/
import Derived.Test.YtjkeagcenmmknaaDoorChecked
import GoSem.Claim
import GoSem.ClaimJoined
import GoSem.ClaimMapViews
import Derived.JoinedTies
import Derived.KernelRfl
namespace Go.Proofs.YtjkeagcenmmknaaDoor
/- THE CELL 'sum', in the pinned program and in every row, IS THE sha256 OF THE DUMP (.gsa) THAT YtjkeagcenmmknaaDoorProg.lean LOADS. Nothing in Lean hashes anything: it is a label: what it is worth is what the hold of that sum in a sandbox is worth. -/
noncomputable def Tryd.pinned : Pinned := { name := "ytjkeagcenmmknaadoor", sum := "96a774b634d2a1d61f8049b087f4b686aff4b9219f865f35466bb25f887c49c4", checked := Tryd.checked }
namespace Rows
def none {H : Type} : Left H := { results := [], args := [] }

/- WHAT THE LISTED PACKAGE-LEVEL VARIABLES READ AS WHEN THE CALL BEGINS. Each datum BY PROGRAM (the guide's laid-datum.mjs) off the statement by which the dump's own 'gosem.cut.vars' lays the variable. In a bare row this is a premise. The card (YtjkeagcenmmknaaDoorCards.lean) ties it to the program's text. -/
def laid_math_bits_deBruijn32tab {H : Type} : DataW H := .agg [.lit (.int .u8 0), .lit (.int .u8 1), .lit (.int .u8 28), .lit (.int .u8 2), .lit (.int .u8 29), .lit (.int .u8 14), .lit (.int .u8 24), .lit (.int .u8 3), .lit (.int .u8 30), .lit (.int .u8 22), .lit (.int .u8 20), .lit (.int .u8 15), .lit (.int .u8 25), .lit (.int .u8 17), .lit (.int .u8 4), .lit (.int .u8 8), .lit (.int .u8 31), .lit (.int .u8 27), .lit (.int .u8 13), .lit (.int .u8 23), .lit (.int .u8 21), .lit (.int .u8 19), .lit (.int .u8 16), .lit (.int .u8 7), .lit (.int .u8 26), .lit (.int .u8 12), .lit (.int .u8 18), .lit (.int .u8 6), .lit (.int .u8 11), .lit (.int .u8 5), .lit (.int .u8 10), .lit (.int .u8 9)]
def laid_math_bits_deBruijn64tab {H : Type} : DataW H := .agg [.lit (.int .u8 0), .lit (.int .u8 1), .lit (.int .u8 56), .lit (.int .u8 2), .lit (.int .u8 57), .lit (.int .u8 49), .lit (.int .u8 28), .lit (.int .u8 3), .lit (.int .u8 61), .lit (.int .u8 58), .lit (.int .u8 42), .lit (.int .u8 50), .lit (.int .u8 38), .lit (.int .u8 29), .lit (.int .u8 17), .lit (.int .u8 4), .lit (.int .u8 62), .lit (.int .u8 47), .lit (.int .u8 59), .lit (.int .u8 36), .lit (.int .u8 45), .lit (.int .u8 43), .lit (.int .u8 51), .lit (.int .u8 22), .lit (.int .u8 53), .lit (.int .u8 39), .lit (.int .u8 33), .lit (.int .u8 30), .lit (.int .u8 24), .lit (.int .u8 18), .lit (.int .u8 12), .lit (.int .u8 5), .lit (.int .u8 63), .lit (.int .u8 55), .lit (.int .u8 48), .lit (.int .u8 27), .lit (.int .u8 60), .lit (.int .u8 41), .lit (.int .u8 37), .lit (.int .u8 16), .lit (.int .u8 46), .lit (.int .u8 35), .lit (.int .u8 44), .lit (.int .u8 21), .lit (.int .u8 52), .lit (.int .u8 32), .lit (.int .u8 23), .lit (.int .u8 11), .lit (.int .u8 54), .lit (.int .u8 26), .lit (.int .u8 40), .lit (.int .u8 15), .lit (.int .u8 34), .lit (.int .u8 20), .lit (.int .u8 31), .lit (.int .u8 10), .lit (.int .u8 25), .lit (.int .u8 14), .lit (.int .u8 19), .lit (.int .u8 9), .lit (.int .u8 13), .lit (.int .u8 8), .lit (.int .u8 7), .lit (.int .u8 6)]

/-- 'laws.FnExactPairSize': WHATEVER THE INPUT: true; the input reads as it did. -/
def fnExactPairSizeSpec : ChangeSpec := { name := "fnExactPairSize", fn := fun _ => fun
  | [d] => { results := [.lit (.bool true)], args := [d] }
  | _ => none }
def fnExactPairSizeRow : OpenClaim := { program := "ytjkeagcenmmknaadoor", sum := "96a774b634d2a1d61f8049b087f4b686aff4b9219f865f35466bb25f887c49c4", func := "loop.example/osier/laws.FnExactPairSize", spec := "fnExactPairSize", recurses := true, named := ["math/bits.deBruijn32tab", "math/bits.deBruijn64tab"], apart := false, laid := [("math/bits.deBruijn32tab", laid_math_bits_deBruijn32tab), ("math/bits.deBruijn64tab", laid_math_bits_deBruijn64tab)] }
def FnExactPairSizeSaid : Prop := fnExactPairSizeRow.holds Tryd.pinned (OpenSpec.ofChange fnExactPairSizeSpec)

/-- ITS FALSE NEIGHBOUR: 'it returns false'. Refute it at one input. -/
def fnExactPairSizeWrong : ChangeSpec := { name := "fnExactPairSize", fn := fun _ => fun
  | [d] => { results := [.lit (.bool false)], args := [d] }
  | _ => none }
def FnExactPairSizeWrongFalsely : Prop := fnExactPairSizeRow.holds Tryd.pinned (OpenSpec.ofChange fnExactPairSizeWrong)

/-- 'laws.FnExactPairOf': WHATEVER THE INPUT: true; the input reads as it did. -/
def fnExactPairOfSpec : ChangeSpec := { name := "fnExactPairOf", fn := fun _ => fun
  | [d] => { results := [.lit (.bool true)], args := [d] }
  | _ => none }
def fnExactPairOfRow : OpenClaim := { program := "ytjkeagcenmmknaadoor", sum := "96a774b634d2a1d61f8049b087f4b686aff4b9219f865f35466bb25f887c49c4", func := "loop.example/osier/laws.FnExactPairOf", spec := "fnExactPairOf", recurses := true, named := ["math/bits.deBruijn32tab", "math/bits.deBruijn64tab"], apart := false, laid := [("math/bits.deBruijn32tab", laid_math_bits_deBruijn32tab), ("math/bits.deBruijn64tab", laid_math_bits_deBruijn64tab)] }
def FnExactPairOfSaid : Prop := fnExactPairOfRow.holds Tryd.pinned (OpenSpec.ofChange fnExactPairOfSpec)

/-- ITS FALSE NEIGHBOUR: 'it returns false'. Refute it at one input. -/
def fnExactPairOfWrong : ChangeSpec := { name := "fnExactPairOf", fn := fun _ => fun
  | [d] => { results := [.lit (.bool false)], args := [d] }
  | _ => none }
def FnExactPairOfWrongFalsely : Prop := fnExactPairOfRow.holds Tryd.pinned (OpenSpec.ofChange fnExactPairOfWrong)

/-- 'laws.FnExactPairWhy': WHATEVER THE INPUT: true; the input reads as it did. -/
def fnExactPairWhySpec : ChangeSpec := { name := "fnExactPairWhy", fn := fun _ => fun
  | [d] => { results := [.lit (.bool true)], args := [d] }
  | _ => none }
def fnExactPairWhyRow : OpenClaim := { program := "ytjkeagcenmmknaadoor", sum := "96a774b634d2a1d61f8049b087f4b686aff4b9219f865f35466bb25f887c49c4", func := "loop.example/osier/laws.FnExactPairWhy", spec := "fnExactPairWhy", recurses := true, named := ["math/bits.deBruijn32tab", "math/bits.deBruijn64tab"], apart := false, laid := [("math/bits.deBruijn32tab", laid_math_bits_deBruijn32tab), ("math/bits.deBruijn64tab", laid_math_bits_deBruijn64tab)] }
def FnExactPairWhySaid : Prop := fnExactPairWhyRow.holds Tryd.pinned (OpenSpec.ofChange fnExactPairWhySpec)

/-- ITS FALSE NEIGHBOUR: 'it returns false'. Refute it at one input. -/
def fnExactPairWhyWrong : ChangeSpec := { name := "fnExactPairWhy", fn := fun _ => fun
  | [d] => { results := [.lit (.bool false)], args := [d] }
  | _ => none }
def FnExactPairWhyWrongFalsely : Prop := fnExactPairWhyRow.holds Tryd.pinned (OpenSpec.ofChange fnExactPairWhyWrong)

/-- 'laws.FnPairHalf': WHATEVER THE INPUT: true; the input reads as it did. -/
def fnPairHalfSpec : ChangeSpec := { name := "fnPairHalf", fn := fun _ => fun
  | [d] => { results := [.lit (.bool true)], args := [d] }
  | _ => none }
def fnPairHalfRow : OpenClaim := { program := "ytjkeagcenmmknaadoor", sum := "96a774b634d2a1d61f8049b087f4b686aff4b9219f865f35466bb25f887c49c4", func := "loop.example/osier/laws.FnPairHalf", spec := "fnPairHalf", recurses := true, named := ["math/bits.deBruijn32tab", "math/bits.deBruijn64tab"], apart := false, laid := [("math/bits.deBruijn32tab", laid_math_bits_deBruijn32tab), ("math/bits.deBruijn64tab", laid_math_bits_deBruijn64tab)] }
def FnPairHalfSaid : Prop := fnPairHalfRow.holds Tryd.pinned (OpenSpec.ofChange fnPairHalfSpec)

/-- ITS FALSE NEIGHBOUR: 'it returns false'. Refute it at one input. -/
def fnPairHalfWrong : ChangeSpec := { name := "fnPairHalf", fn := fun _ => fun
  | [d] => { results := [.lit (.bool false)], args := [d] }
  | _ => none }
def FnPairHalfWrongFalsely : Prop := fnPairHalfRow.holds Tryd.pinned (OpenSpec.ofChange fnPairHalfWrong)

/-- 'laws.FnPairKnot': WHATEVER THE INPUT: true; the input reads as it did. -/
def fnPairKnotSpec : ChangeSpec := { name := "fnPairKnot", fn := fun _ => fun
  | [d1, d2] => { results := [.lit (.bool true)], args := [d1, d2] }
  | _ => none }
def fnPairKnotRow : OpenClaim := { program := "ytjkeagcenmmknaadoor", sum := "96a774b634d2a1d61f8049b087f4b686aff4b9219f865f35466bb25f887c49c4", func := "loop.example/osier/laws.FnPairKnot", spec := "fnPairKnot", recurses := true, named := ["math/bits.deBruijn32tab", "math/bits.deBruijn64tab"], apart := false, laid := [("math/bits.deBruijn32tab", laid_math_bits_deBruijn32tab), ("math/bits.deBruijn64tab", laid_math_bits_deBruijn64tab)] }
def FnPairKnotSaid : Prop := fnPairKnotRow.holds Tryd.pinned (OpenSpec.ofChange fnPairKnotSpec)

/-- ITS FALSE NEIGHBOUR: 'it returns false'. Refute it at one input. -/
def fnPairKnotWrong : ChangeSpec := { name := "fnPairKnot", fn := fun _ => fun
  | [d1, d2] => { results := [.lit (.bool false)], args := [d1, d2] }
  | _ => none }
def FnPairKnotWrongFalsely : Prop := fnPairKnotRow.holds Tryd.pinned (OpenSpec.ofChange fnPairKnotWrong)

/-- 'laws.FnPairFull': WHATEVER THE INPUT: true; the input reads as it did. -/
def fnPairFullSpec : ChangeSpec := { name := "fnPairFull", fn := fun _ => fun
  | [d] => { results := [.lit (.bool true)], args := [d] }
  | _ => none }
def fnPairFullRow : OpenClaim := { program := "ytjkeagcenmmknaadoor", sum := "96a774b634d2a1d61f8049b087f4b686aff4b9219f865f35466bb25f887c49c4", func := "loop.example/osier/laws.FnPairFull", spec := "fnPairFull", named := ["math/bits.deBruijn32tab", "math/bits.deBruijn64tab"], apart := false, laid := [("math/bits.deBruijn32tab", laid_math_bits_deBruijn32tab), ("math/bits.deBruijn64tab", laid_math_bits_deBruijn64tab)] }
def FnPairFullSaid : Prop := fnPairFullRow.holds Tryd.pinned (OpenSpec.ofChange fnPairFullSpec)

/-- ITS FALSE NEIGHBOUR: 'it returns false'. Refute it at one input. -/
def fnPairFullWrong : ChangeSpec := { name := "fnPairFull", fn := fun _ => fun
  | [d] => { results := [.lit (.bool false)], args := [d] }
  | _ => none }
def FnPairFullWrongFalsely : Prop := fnPairFullRow.holds Tryd.pinned (OpenSpec.ofChange fnPairFullWrong)

/-- 'laws.FnPairOf': WHATEVER THE INPUT: true; the input reads as it did. -/
def fnPairOfSpec : ChangeSpec := { name := "fnPairOf", fn := fun _ => fun
  | [d] => { results := [.lit (.bool true)], args := [d] }
  | _ => none }
def fnPairOfRow : OpenClaim := { program := "ytjkeagcenmmknaadoor", sum := "96a774b634d2a1d61f8049b087f4b686aff4b9219f865f35466bb25f887c49c4", func := "loop.example/osier/laws.FnPairOf", spec := "fnPairOf", recurses := true, named := ["math/bits.deBruijn32tab", "math/bits.deBruijn64tab"], apart := false, laid := [("math/bits.deBruijn32tab", laid_math_bits_deBruijn32tab), ("math/bits.deBruijn64tab", laid_math_bits_deBruijn64tab)] }
def FnPairOfSaid : Prop := fnPairOfRow.holds Tryd.pinned (OpenSpec.ofChange fnPairOfSpec)

/-- ITS FALSE NEIGHBOUR: 'it returns false'. Refute it at one input. -/
def fnPairOfWrong : ChangeSpec := { name := "fnPairOf", fn := fun _ => fun
  | [d] => { results := [.lit (.bool false)], args := [d] }
  | _ => none }
def FnPairOfWrongFalsely : Prop := fnPairOfRow.holds Tryd.pinned (OpenSpec.ofChange fnPairOfWrong)

/-- 'laws.FnPairFirst': WHATEVER THE INPUT: true; the input reads as it did. -/
def fnPairFirstSpec : ChangeSpec := { name := "fnPairFirst", fn := fun _ => fun
  | [d] => { results := [.lit (.bool true)], args := [d] }
  | _ => none }
def fnPairFirstRow : OpenClaim := { program := "ytjkeagcenmmknaadoor", sum := "96a774b634d2a1d61f8049b087f4b686aff4b9219f865f35466bb25f887c49c4", func := "loop.example/osier/laws.FnPairFirst", spec := "fnPairFirst", recurses := true, named := ["math/bits.deBruijn32tab", "math/bits.deBruijn64tab"], apart := false, laid := [("math/bits.deBruijn32tab", laid_math_bits_deBruijn32tab), ("math/bits.deBruijn64tab", laid_math_bits_deBruijn64tab)] }
def FnPairFirstSaid : Prop := fnPairFirstRow.holds Tryd.pinned (OpenSpec.ofChange fnPairFirstSpec)

/-- ITS FALSE NEIGHBOUR: 'it returns false'. Refute it at one input. -/
def fnPairFirstWrong : ChangeSpec := { name := "fnPairFirst", fn := fun _ => fun
  | [d] => { results := [.lit (.bool false)], args := [d] }
  | _ => none }
def FnPairFirstWrongFalsely : Prop := fnPairFirstRow.holds Tryd.pinned (OpenSpec.ofChange fnPairFirstWrong)

/-- 'laws.FnPairTop': WHATEVER THE INPUT: true; the input reads as it did. -/
def fnPairTopSpec : ChangeSpec := { name := "fnPairTop", fn := fun _ => fun
  | [d] => { results := [.lit (.bool true)], args := [d] }
  | _ => none }
def fnPairTopRow : OpenClaim := { program := "ytjkeagcenmmknaadoor", sum := "96a774b634d2a1d61f8049b087f4b686aff4b9219f865f35466bb25f887c49c4", func := "loop.example/osier/laws.FnPairTop", spec := "fnPairTop", recurses := true, named := ["math/bits.deBruijn32tab", "math/bits.deBruijn64tab"], apart := false, laid := [("math/bits.deBruijn32tab", laid_math_bits_deBruijn32tab), ("math/bits.deBruijn64tab", laid_math_bits_deBruijn64tab)] }
def FnPairTopSaid : Prop := fnPairTopRow.holds Tryd.pinned (OpenSpec.ofChange fnPairTopSpec)

/-- ITS FALSE NEIGHBOUR: 'it returns false'. Refute it at one input. -/
def fnPairTopWrong : ChangeSpec := { name := "fnPairTop", fn := fun _ => fun
  | [d] => { results := [.lit (.bool false)], args := [d] }
  | _ => none }
def FnPairTopWrongFalsely : Prop := fnPairTopRow.holds Tryd.pinned (OpenSpec.ofChange fnPairTopWrong)

/-- 'laws.FnPairWhy': WHATEVER THE INPUT: true; the input reads as it did. -/
def fnPairWhySpec : ChangeSpec := { name := "fnPairWhy", fn := fun _ => fun
  | [d] => { results := [.lit (.bool true)], args := [d] }
  | _ => none }
def fnPairWhyRow : OpenClaim := { program := "ytjkeagcenmmknaadoor", sum := "96a774b634d2a1d61f8049b087f4b686aff4b9219f865f35466bb25f887c49c4", func := "loop.example/osier/laws.FnPairWhy", spec := "fnPairWhy", recurses := true, named := ["math/bits.deBruijn32tab", "math/bits.deBruijn64tab"], apart := false, laid := [("math/bits.deBruijn32tab", laid_math_bits_deBruijn32tab), ("math/bits.deBruijn64tab", laid_math_bits_deBruijn64tab)] }
def FnPairWhySaid : Prop := fnPairWhyRow.holds Tryd.pinned (OpenSpec.ofChange fnPairWhySpec)

/-- ITS FALSE NEIGHBOUR: 'it returns false'. Refute it at one input. -/
def fnPairWhyWrong : ChangeSpec := { name := "fnPairWhy", fn := fun _ => fun
  | [d] => { results := [.lit (.bool false)], args := [d] }
  | _ => none }
def FnPairWhyWrongFalsely : Prop := fnPairWhyRow.holds Tryd.pinned (OpenSpec.ofChange fnPairWhyWrong)

/-- 'laws.FnPairTie': WHATEVER THE INPUT: true; the input reads as it did. -/
def fnPairTieSpec : ChangeSpec := { name := "fnPairTie", fn := fun _ => fun
  | [d] => { results := [.lit (.bool true)], args := [d] }
  | _ => none }
def fnPairTieRow : OpenClaim := { program := "ytjkeagcenmmknaadoor", sum := "96a774b634d2a1d61f8049b087f4b686aff4b9219f865f35466bb25f887c49c4", func := "loop.example/osier/laws.FnPairTie", spec := "fnPairTie", unfollowed := true, recurses := true, named := ["math/bits.deBruijn32tab", "math/bits.deBruijn64tab"], apart := false, laid := [("math/bits.deBruijn32tab", laid_math_bits_deBruijn32tab), ("math/bits.deBruijn64tab", laid_math_bits_deBruijn64tab)] }
def FnPairTieSaid : Prop := fnPairTieRow.holds Tryd.pinned (OpenSpec.ofChange fnPairTieSpec)

/-- ITS FALSE NEIGHBOUR: 'it returns false'. Refute it at one input. -/
def fnPairTieWrong : ChangeSpec := { name := "fnPairTie", fn := fun _ => fun
  | [d] => { results := [.lit (.bool false)], args := [d] }
  | _ => none }
def FnPairTieWrongFalsely : Prop := fnPairTieRow.holds Tryd.pinned (OpenSpec.ofChange fnPairTieWrong)

/- THE SECOND FORM. 'bulk': how many values and letters a reading holds, each counted each time it is reached (what is shared counts as often as it is met; a slice's spare places count too). A statement '..UptoSaid' is the law's where the arguments, and the package variables that the reading takes, are together of bulk at most 1048576: NARROWER than '..Said'. Prove '..Said' where nothing that the law and all that it calls make is longer than what came in: it says more and counts as full. Else prove '..UptoSaid'. A law counts once. -/
mutual
def uptoBulk {H : Type} : DataW H → Nat
  | .lit (.string bytes) => bytes.length + 1
  | .lit _ => 1
  | .nil => 1
  | .ptr d => uptoBulk d + 1
  | .slice elems spare => uptoBulkAll elems + uptoBulkAll spare + 1
  | .agg parts => uptoBulkAll parts + 1
  | .iface _ d => uptoBulk d + 1
  | .map entries => uptoBulkEntries entries + 1
  | .held _ => 1
def uptoBulkAll {H : Type} : List (DataW H) → Nat
  | [] => 0
  | d :: r => uptoBulk d + uptoBulkAll r
def uptoBulkEntries {H : Type} : List (Lit × DataW H) → Nat
  | [] => 0
  | x :: r => uptoBulkEntry x + uptoBulkEntries r
def uptoBulkEntry {H : Type} : Lit × DataW H → Nat
  | (.string bytes, d) => bytes.length + uptoBulk d + 1
  | (_, d) => uptoBulk d + 1
 end
def uptoSmall : (H : Type) → List (DataW H) → Bool := fun _ ds => decide (uptoBulkAll ds ≤ 1048576)
def OpenSpec.upto (s : _root_.Go.ChangeSpec) : _root_.Go.OpenSpec := { _root_.Go.OpenSpec.ofChange s with cond := some uptoSmall }

/-- 'laws.FnExactPairSize', WHERE WHAT IT READS IS OF BULK AT MOST 1048576: true; the input reads as it did. -/
def fnExactPairSizeUptoRow : OpenClaim := { program := "ytjkeagcenmmknaadoor", sum := "96a774b634d2a1d61f8049b087f4b686aff4b9219f865f35466bb25f887c49c4", func := "loop.example/osier/laws.FnExactPairSize", spec := "fnExactPairSize", recurses := true, named := ["math/bits.deBruijn32tab", "math/bits.deBruijn64tab"], apart := false, laid := [("math/bits.deBruijn32tab", laid_math_bits_deBruijn32tab), ("math/bits.deBruijn64tab", laid_math_bits_deBruijn64tab)], narrowed := true }
def FnExactPairSizeUptoSaid : Prop := fnExactPairSizeUptoRow.holds Tryd.pinned (OpenSpec.upto fnExactPairSizeSpec)

/-- 'laws.FnExactPairOf', WHERE WHAT IT READS IS OF BULK AT MOST 1048576: true; the input reads as it did. -/
def fnExactPairOfUptoRow : OpenClaim := { program := "ytjkeagcenmmknaadoor", sum := "96a774b634d2a1d61f8049b087f4b686aff4b9219f865f35466bb25f887c49c4", func := "loop.example/osier/laws.FnExactPairOf", spec := "fnExactPairOf", recurses := true, named := ["math/bits.deBruijn32tab", "math/bits.deBruijn64tab"], apart := false, laid := [("math/bits.deBruijn32tab", laid_math_bits_deBruijn32tab), ("math/bits.deBruijn64tab", laid_math_bits_deBruijn64tab)], narrowed := true }
def FnExactPairOfUptoSaid : Prop := fnExactPairOfUptoRow.holds Tryd.pinned (OpenSpec.upto fnExactPairOfSpec)

/-- 'laws.FnExactPairWhy', WHERE WHAT IT READS IS OF BULK AT MOST 1048576: true; the input reads as it did. -/
def fnExactPairWhyUptoRow : OpenClaim := { program := "ytjkeagcenmmknaadoor", sum := "96a774b634d2a1d61f8049b087f4b686aff4b9219f865f35466bb25f887c49c4", func := "loop.example/osier/laws.FnExactPairWhy", spec := "fnExactPairWhy", recurses := true, named := ["math/bits.deBruijn32tab", "math/bits.deBruijn64tab"], apart := false, laid := [("math/bits.deBruijn32tab", laid_math_bits_deBruijn32tab), ("math/bits.deBruijn64tab", laid_math_bits_deBruijn64tab)], narrowed := true }
def FnExactPairWhyUptoSaid : Prop := fnExactPairWhyUptoRow.holds Tryd.pinned (OpenSpec.upto fnExactPairWhySpec)

/-- 'laws.FnPairHalf', WHERE WHAT IT READS IS OF BULK AT MOST 1048576: true; the input reads as it did. -/
def fnPairHalfUptoRow : OpenClaim := { program := "ytjkeagcenmmknaadoor", sum := "96a774b634d2a1d61f8049b087f4b686aff4b9219f865f35466bb25f887c49c4", func := "loop.example/osier/laws.FnPairHalf", spec := "fnPairHalf", recurses := true, named := ["math/bits.deBruijn32tab", "math/bits.deBruijn64tab"], apart := false, laid := [("math/bits.deBruijn32tab", laid_math_bits_deBruijn32tab), ("math/bits.deBruijn64tab", laid_math_bits_deBruijn64tab)], narrowed := true }
def FnPairHalfUptoSaid : Prop := fnPairHalfUptoRow.holds Tryd.pinned (OpenSpec.upto fnPairHalfSpec)

/-- 'laws.FnPairKnot', WHERE WHAT IT READS IS OF BULK AT MOST 1048576: true; the input reads as it did. -/
def fnPairKnotUptoRow : OpenClaim := { program := "ytjkeagcenmmknaadoor", sum := "96a774b634d2a1d61f8049b087f4b686aff4b9219f865f35466bb25f887c49c4", func := "loop.example/osier/laws.FnPairKnot", spec := "fnPairKnot", recurses := true, named := ["math/bits.deBruijn32tab", "math/bits.deBruijn64tab"], apart := false, laid := [("math/bits.deBruijn32tab", laid_math_bits_deBruijn32tab), ("math/bits.deBruijn64tab", laid_math_bits_deBruijn64tab)], narrowed := true }
def FnPairKnotUptoSaid : Prop := fnPairKnotUptoRow.holds Tryd.pinned (OpenSpec.upto fnPairKnotSpec)

/-- 'laws.FnPairFull', WHERE WHAT IT READS IS OF BULK AT MOST 1048576: true; the input reads as it did. -/
def fnPairFullUptoRow : OpenClaim := { program := "ytjkeagcenmmknaadoor", sum := "96a774b634d2a1d61f8049b087f4b686aff4b9219f865f35466bb25f887c49c4", func := "loop.example/osier/laws.FnPairFull", spec := "fnPairFull", named := ["math/bits.deBruijn32tab", "math/bits.deBruijn64tab"], apart := false, laid := [("math/bits.deBruijn32tab", laid_math_bits_deBruijn32tab), ("math/bits.deBruijn64tab", laid_math_bits_deBruijn64tab)], narrowed := true }
def FnPairFullUptoSaid : Prop := fnPairFullUptoRow.holds Tryd.pinned (OpenSpec.upto fnPairFullSpec)

/-- 'laws.FnPairOf', WHERE WHAT IT READS IS OF BULK AT MOST 1048576: true; the input reads as it did. -/
def fnPairOfUptoRow : OpenClaim := { program := "ytjkeagcenmmknaadoor", sum := "96a774b634d2a1d61f8049b087f4b686aff4b9219f865f35466bb25f887c49c4", func := "loop.example/osier/laws.FnPairOf", spec := "fnPairOf", recurses := true, named := ["math/bits.deBruijn32tab", "math/bits.deBruijn64tab"], apart := false, laid := [("math/bits.deBruijn32tab", laid_math_bits_deBruijn32tab), ("math/bits.deBruijn64tab", laid_math_bits_deBruijn64tab)], narrowed := true }
def FnPairOfUptoSaid : Prop := fnPairOfUptoRow.holds Tryd.pinned (OpenSpec.upto fnPairOfSpec)

/-- 'laws.FnPairFirst', WHERE WHAT IT READS IS OF BULK AT MOST 1048576: true; the input reads as it did. -/
def fnPairFirstUptoRow : OpenClaim := { program := "ytjkeagcenmmknaadoor", sum := "96a774b634d2a1d61f8049b087f4b686aff4b9219f865f35466bb25f887c49c4", func := "loop.example/osier/laws.FnPairFirst", spec := "fnPairFirst", recurses := true, named := ["math/bits.deBruijn32tab", "math/bits.deBruijn64tab"], apart := false, laid := [("math/bits.deBruijn32tab", laid_math_bits_deBruijn32tab), ("math/bits.deBruijn64tab", laid_math_bits_deBruijn64tab)], narrowed := true }
def FnPairFirstUptoSaid : Prop := fnPairFirstUptoRow.holds Tryd.pinned (OpenSpec.upto fnPairFirstSpec)

/-- 'laws.FnPairTop', WHERE WHAT IT READS IS OF BULK AT MOST 1048576: true; the input reads as it did. -/
def fnPairTopUptoRow : OpenClaim := { program := "ytjkeagcenmmknaadoor", sum := "96a774b634d2a1d61f8049b087f4b686aff4b9219f865f35466bb25f887c49c4", func := "loop.example/osier/laws.FnPairTop", spec := "fnPairTop", recurses := true, named := ["math/bits.deBruijn32tab", "math/bits.deBruijn64tab"], apart := false, laid := [("math/bits.deBruijn32tab", laid_math_bits_deBruijn32tab), ("math/bits.deBruijn64tab", laid_math_bits_deBruijn64tab)], narrowed := true }
def FnPairTopUptoSaid : Prop := fnPairTopUptoRow.holds Tryd.pinned (OpenSpec.upto fnPairTopSpec)

/-- 'laws.FnPairWhy', WHERE WHAT IT READS IS OF BULK AT MOST 1048576: true; the input reads as it did. -/
def fnPairWhyUptoRow : OpenClaim := { program := "ytjkeagcenmmknaadoor", sum := "96a774b634d2a1d61f8049b087f4b686aff4b9219f865f35466bb25f887c49c4", func := "loop.example/osier/laws.FnPairWhy", spec := "fnPairWhy", recurses := true, named := ["math/bits.deBruijn32tab", "math/bits.deBruijn64tab"], apart := false, laid := [("math/bits.deBruijn32tab", laid_math_bits_deBruijn32tab), ("math/bits.deBruijn64tab", laid_math_bits_deBruijn64tab)], narrowed := true }
def FnPairWhyUptoSaid : Prop := fnPairWhyUptoRow.holds Tryd.pinned (OpenSpec.upto fnPairWhySpec)

/-- 'laws.FnPairTie', WHERE WHAT IT READS IS OF BULK AT MOST 1048576: true; the input reads as it did. -/
def fnPairTieUptoRow : OpenClaim := { program := "ytjkeagcenmmknaadoor", sum := "96a774b634d2a1d61f8049b087f4b686aff4b9219f865f35466bb25f887c49c4", func := "loop.example/osier/laws.FnPairTie", spec := "fnPairTie", unfollowed := true, recurses := true, named := ["math/bits.deBruijn32tab", "math/bits.deBruijn64tab"], apart := false, laid := [("math/bits.deBruijn32tab", laid_math_bits_deBruijn32tab), ("math/bits.deBruijn64tab", laid_math_bits_deBruijn64tab)], narrowed := true }
def FnPairTieUptoSaid : Prop := fnPairTieUptoRow.holds Tryd.pinned (OpenSpec.upto fnPairTieSpec)

end Rows
end Go.Proofs.YtjkeagcenmmknaaDoor
