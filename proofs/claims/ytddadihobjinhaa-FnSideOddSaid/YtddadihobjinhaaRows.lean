/-
  No cell of these rows narrows 'for every input' (looked for: loops, veiled, ifaces, maps, wideKeys, modest, calm, conditions, laid).
  DERIVED. THE GIVEN ROWS OF THIS SEAT. 11 by the template 'for every input the law returns true; each argument reads behind the call as it read before'; 0 by the template 'total and deterministic' (their statements: YtddadihobjinhaaTotals.lean).
  GIVEN WITH THE SEED: the statements are not yours to turn. If you find one false, say at which input.
  Laid BY PROGRAM, IN A SANDBOX (cutbox-rows.mjs): the forced cells as the released guide's own fill.sh prints them over the translation d7138b7754ebcf9f… (all of the seat's roots in one cut). By AI agents, Wed Nov 11 2026. No macro, syntax, notation, axiom, sorry.
-/
import Derived.Test.YtddadihobjinhaaChecked
import GoSem.Claim
import GoSem.ClaimJoined
import GoSem.ClaimMapViews
import Derived.JoinedTies
import Derived.KernelRfl
namespace Go.Proofs.Ytddadihobjinhaa
/- THE CELL 'sum', in the pinned program and in every row, IS THE sha256 OF THE DUMP (.gsa) THAT YtddadihobjinhaaProg.lean LOADS. Nothing in Lean hashes anything: it is a label: what it is worth is what the hold of that sum in a sandbox is worth. -/
noncomputable def Try.pinned : Pinned := { name := "ytddadihobjinhaa", sum := "d7138b7754ebcf9f28554d9c7112b63717f61a53a5da89db7e7fe692e5cbcf51", checked := Try.checked }
namespace Rows
def none {H : Type} : Left H := { results := [], args := [] }

/-- 'laws.FnExactSideOk': WHATEVER THE INPUT: true; the input reads as it did. -/
def fnExactSideOkSpec : ChangeSpec := { name := "fnExactSideOk", fn := fun _ => fun
  | [d1, d2] => { results := [.lit (.bool true)], args := [d1, d2] }
  | _ => none }
def fnExactSideOkRow : OpenClaim := { program := "ytddadihobjinhaa", sum := "d7138b7754ebcf9f28554d9c7112b63717f61a53a5da89db7e7fe692e5cbcf51", func := "loop.example/osier/laws.FnExactSideOk", spec := "fnExactSideOk", apart := false }
def FnExactSideOkSaid : Prop := fnExactSideOkRow.holds Try.pinned (OpenSpec.ofChange fnExactSideOkSpec)

/-- ITS FALSE NEIGHBOUR: 'it returns false'. Refute it at one input. -/
def fnExactSideOkWrong : ChangeSpec := { name := "fnExactSideOk", fn := fun _ => fun
  | [d1, d2] => { results := [.lit (.bool false)], args := [d1, d2] }
  | _ => none }
def FnExactSideOkWrongFalsely : Prop := fnExactSideOkRow.holds Try.pinned (OpenSpec.ofChange fnExactSideOkWrong)

/-- 'laws.FnExactSideOdd': WHATEVER THE INPUT: true; the input reads as it did. -/
def fnExactSideOddSpec : ChangeSpec := { name := "fnExactSideOdd", fn := fun _ => fun
  | [d] => { results := [.lit (.bool true)], args := [d] }
  | _ => none }
def fnExactSideOddRow : OpenClaim := { program := "ytddadihobjinhaa", sum := "d7138b7754ebcf9f28554d9c7112b63717f61a53a5da89db7e7fe692e5cbcf51", func := "loop.example/osier/laws.FnExactSideOdd", spec := "fnExactSideOdd", unfollowed := true, recurses := true, apart := false }
def FnExactSideOddSaid : Prop := fnExactSideOddRow.holds Try.pinned (OpenSpec.ofChange fnExactSideOddSpec)

/-- ITS FALSE NEIGHBOUR: 'it returns false'. Refute it at one input. -/
def fnExactSideOddWrong : ChangeSpec := { name := "fnExactSideOdd", fn := fun _ => fun
  | [d] => { results := [.lit (.bool false)], args := [d] }
  | _ => none }
def FnExactSideOddWrongFalsely : Prop := fnExactSideOddRow.holds Try.pinned (OpenSpec.ofChange fnExactSideOddWrong)

/-- 'laws.FnExactSideOf': WHATEVER THE INPUT: true; the input reads as it did. -/
def fnExactSideOfSpec : ChangeSpec := { name := "fnExactSideOf", fn := fun _ => fun
  | [d] => { results := [.lit (.bool true)], args := [d] }
  | _ => none }
def fnExactSideOfRow : OpenClaim := { program := "ytddadihobjinhaa", sum := "d7138b7754ebcf9f28554d9c7112b63717f61a53a5da89db7e7fe692e5cbcf51", func := "loop.example/osier/laws.FnExactSideOf", spec := "fnExactSideOf", unfollowed := true, recurses := true, apart := false }
def FnExactSideOfSaid : Prop := fnExactSideOfRow.holds Try.pinned (OpenSpec.ofChange fnExactSideOfSpec)

/-- ITS FALSE NEIGHBOUR: 'it returns false'. Refute it at one input. -/
def fnExactSideOfWrong : ChangeSpec := { name := "fnExactSideOf", fn := fun _ => fun
  | [d] => { results := [.lit (.bool false)], args := [d] }
  | _ => none }
def FnExactSideOfWrongFalsely : Prop := fnExactSideOfRow.holds Try.pinned (OpenSpec.ofChange fnExactSideOfWrong)

/-- 'laws.FnSideTree': WHATEVER THE INPUT: true; the input reads as it did. -/
def fnSideTreeSpec : ChangeSpec := { name := "fnSideTree", fn := fun _ => fun
  | [d] => { results := [.lit (.bool true)], args := [d] }
  | _ => none }
def fnSideTreeRow : OpenClaim := { program := "ytddadihobjinhaa", sum := "d7138b7754ebcf9f28554d9c7112b63717f61a53a5da89db7e7fe692e5cbcf51", func := "loop.example/osier/laws.FnSideTree", spec := "fnSideTree", unfollowed := true, recurses := true, apart := false }
def FnSideTreeSaid : Prop := fnSideTreeRow.holds Try.pinned (OpenSpec.ofChange fnSideTreeSpec)

/-- ITS FALSE NEIGHBOUR: 'it returns false'. Refute it at one input. -/
def fnSideTreeWrong : ChangeSpec := { name := "fnSideTree", fn := fun _ => fun
  | [d] => { results := [.lit (.bool false)], args := [d] }
  | _ => none }
def FnSideTreeWrongFalsely : Prop := fnSideTreeRow.holds Try.pinned (OpenSpec.ofChange fnSideTreeWrong)

/-- 'laws.FnSideTop': WHATEVER THE INPUT: true; the input reads as it did. -/
def fnSideTopSpec : ChangeSpec := { name := "fnSideTop", fn := fun _ => fun
  | [d] => { results := [.lit (.bool true)], args := [d] }
  | _ => none }
def fnSideTopRow : OpenClaim := { program := "ytddadihobjinhaa", sum := "d7138b7754ebcf9f28554d9c7112b63717f61a53a5da89db7e7fe692e5cbcf51", func := "loop.example/osier/laws.FnSideTop", spec := "fnSideTop", unfollowed := true, recurses := true, apart := false }
def FnSideTopSaid : Prop := fnSideTopRow.holds Try.pinned (OpenSpec.ofChange fnSideTopSpec)

/-- ITS FALSE NEIGHBOUR: 'it returns false'. Refute it at one input. -/
def fnSideTopWrong : ChangeSpec := { name := "fnSideTop", fn := fun _ => fun
  | [d] => { results := [.lit (.bool false)], args := [d] }
  | _ => none }
def FnSideTopWrongFalsely : Prop := fnSideTopRow.holds Try.pinned (OpenSpec.ofChange fnSideTopWrong)

/-- 'laws.FnSideTurn': WHATEVER THE INPUT: true; the input reads as it did. -/
def fnSideTurnSpec : ChangeSpec := { name := "fnSideTurn", fn := fun _ => fun
  | [d] => { results := [.lit (.bool true)], args := [d] }
  | _ => none }
def fnSideTurnRow : OpenClaim := { program := "ytddadihobjinhaa", sum := "d7138b7754ebcf9f28554d9c7112b63717f61a53a5da89db7e7fe692e5cbcf51", func := "loop.example/osier/laws.FnSideTurn", spec := "fnSideTurn", unfollowed := true, recurses := true, apart := false }
def FnSideTurnSaid : Prop := fnSideTurnRow.holds Try.pinned (OpenSpec.ofChange fnSideTurnSpec)

/-- ITS FALSE NEIGHBOUR: 'it returns false'. Refute it at one input. -/
def fnSideTurnWrong : ChangeSpec := { name := "fnSideTurn", fn := fun _ => fun
  | [d] => { results := [.lit (.bool false)], args := [d] }
  | _ => none }
def FnSideTurnWrongFalsely : Prop := fnSideTurnRow.holds Try.pinned (OpenSpec.ofChange fnSideTurnWrong)

/-- 'laws.FnSideEven': WHATEVER THE INPUT: true; the input reads as it did. -/
def fnSideEvenSpec : ChangeSpec := { name := "fnSideEven", fn := fun _ => fun
  | [d] => { results := [.lit (.bool true)], args := [d] }
  | _ => none }
def fnSideEvenRow : OpenClaim := { program := "ytddadihobjinhaa", sum := "d7138b7754ebcf9f28554d9c7112b63717f61a53a5da89db7e7fe692e5cbcf51", func := "loop.example/osier/laws.FnSideEven", spec := "fnSideEven", unfollowed := true, recurses := true, apart := false }
def FnSideEvenSaid : Prop := fnSideEvenRow.holds Try.pinned (OpenSpec.ofChange fnSideEvenSpec)

/-- ITS FALSE NEIGHBOUR: 'it returns false'. Refute it at one input. -/
def fnSideEvenWrong : ChangeSpec := { name := "fnSideEven", fn := fun _ => fun
  | [d] => { results := [.lit (.bool false)], args := [d] }
  | _ => none }
def FnSideEvenWrongFalsely : Prop := fnSideEvenRow.holds Try.pinned (OpenSpec.ofChange fnSideEvenWrong)

/-- 'laws.FnSideOdd': WHATEVER THE INPUT: true; the input reads as it did. -/
def fnSideOddSpec : ChangeSpec := { name := "fnSideOdd", fn := fun _ => fun
  | [d] => { results := [.lit (.bool true)], args := [d] }
  | _ => none }
def fnSideOddRow : OpenClaim := { program := "ytddadihobjinhaa", sum := "d7138b7754ebcf9f28554d9c7112b63717f61a53a5da89db7e7fe692e5cbcf51", func := "loop.example/osier/laws.FnSideOdd", spec := "fnSideOdd", unfollowed := true, recurses := true, apart := false }
def FnSideOddSaid : Prop := fnSideOddRow.holds Try.pinned (OpenSpec.ofChange fnSideOddSpec)

/-- ITS FALSE NEIGHBOUR: 'it returns false'. Refute it at one input. -/
def fnSideOddWrong : ChangeSpec := { name := "fnSideOdd", fn := fun _ => fun
  | [d] => { results := [.lit (.bool false)], args := [d] }
  | _ => none }
def FnSideOddWrongFalsely : Prop := fnSideOddRow.holds Try.pinned (OpenSpec.ofChange fnSideOddWrong)

/-- 'laws.FnSideOnly': WHATEVER THE INPUT: true; the input reads as it did. -/
def fnSideOnlySpec : ChangeSpec := { name := "fnSideOnly", fn := fun _ => fun
  | [d] => { results := [.lit (.bool true)], args := [d] }
  | _ => none }
def fnSideOnlyRow : OpenClaim := { program := "ytddadihobjinhaa", sum := "d7138b7754ebcf9f28554d9c7112b63717f61a53a5da89db7e7fe692e5cbcf51", func := "loop.example/osier/laws.FnSideOnly", spec := "fnSideOnly", unfollowed := true, recurses := true, apart := false }
def FnSideOnlySaid : Prop := fnSideOnlyRow.holds Try.pinned (OpenSpec.ofChange fnSideOnlySpec)

/-- ITS FALSE NEIGHBOUR: 'it returns false'. Refute it at one input. -/
def fnSideOnlyWrong : ChangeSpec := { name := "fnSideOnly", fn := fun _ => fun
  | [d] => { results := [.lit (.bool false)], args := [d] }
  | _ => none }
def FnSideOnlyWrongFalsely : Prop := fnSideOnlyRow.holds Try.pinned (OpenSpec.ofChange fnSideOnlyWrong)

/-- 'laws.FnSideOf': WHATEVER THE INPUT: true; the input reads as it did. -/
def fnSideOfSpec : ChangeSpec := { name := "fnSideOf", fn := fun _ => fun
  | [d] => { results := [.lit (.bool true)], args := [d] }
  | _ => none }
def fnSideOfRow : OpenClaim := { program := "ytddadihobjinhaa", sum := "d7138b7754ebcf9f28554d9c7112b63717f61a53a5da89db7e7fe692e5cbcf51", func := "loop.example/osier/laws.FnSideOf", spec := "fnSideOf", unfollowed := true, recurses := true, apart := false }
def FnSideOfSaid : Prop := fnSideOfRow.holds Try.pinned (OpenSpec.ofChange fnSideOfSpec)

/-- ITS FALSE NEIGHBOUR: 'it returns false'. Refute it at one input. -/
def fnSideOfWrong : ChangeSpec := { name := "fnSideOf", fn := fun _ => fun
  | [d] => { results := [.lit (.bool false)], args := [d] }
  | _ => none }
def FnSideOfWrongFalsely : Prop := fnSideOfRow.holds Try.pinned (OpenSpec.ofChange fnSideOfWrong)

/-- 'laws.FnSideLess': WHATEVER THE INPUT: true; the input reads as it did. -/
def fnSideLessSpec : ChangeSpec := { name := "fnSideLess", fn := fun _ => fun
  | [d1, d2] => { results := [.lit (.bool true)], args := [d1, d2] }
  | _ => none }
def fnSideLessRow : OpenClaim := { program := "ytddadihobjinhaa", sum := "d7138b7754ebcf9f28554d9c7112b63717f61a53a5da89db7e7fe692e5cbcf51", func := "loop.example/osier/laws.FnSideLess", spec := "fnSideLess", unfollowed := true, recurses := true, apart := false }
def FnSideLessSaid : Prop := fnSideLessRow.holds Try.pinned (OpenSpec.ofChange fnSideLessSpec)

/-- ITS FALSE NEIGHBOUR: 'it returns false'. Refute it at one input. -/
def fnSideLessWrong : ChangeSpec := { name := "fnSideLess", fn := fun _ => fun
  | [d1, d2] => { results := [.lit (.bool false)], args := [d1, d2] }
  | _ => none }
def FnSideLessWrongFalsely : Prop := fnSideLessRow.holds Try.pinned (OpenSpec.ofChange fnSideLessWrong)

/- THE SECOND FORM. 'bulk': how many values and letters a reading holds, each counted each time it is reached (what is shared counts as often as it is met; a slice's spare places count too). A statement '..UptoSaid' is the law's where the arguments, and the package variables that the reading takes, are together of bulk at most 1048576: NARROWER than '..Said'. Prove '..Said' where nothing that the law and all that it calls make is longer than what came in: it says more and counts as full. Else prove '..UptoSaid'. A law counts once. -/
mutual
def uptoBulk {H : Type} : DataW H → Nat
  | .lit (.string bytes) => bytes.length + 1
  | .lit _ => 1
  | .nil => 1
  | .ptr d => uptoBulk d + 1
  | .slice elems spare => uptoBulkAll elems + uptoBulkAll spare + 1
  | .agg parts => uptoBulkAll parts + 1
  | .iface _ d => uptoBulk d + 1
  | .map entries => uptoBulkEntries entries + 1
  | .held _ => 1
def uptoBulkAll {H : Type} : List (DataW H) → Nat
  | [] => 0
  | d :: r => uptoBulk d + uptoBulkAll r
def uptoBulkEntries {H : Type} : List (Lit × DataW H) → Nat
  | [] => 0
  | x :: r => uptoBulkEntry x + uptoBulkEntries r
def uptoBulkEntry {H : Type} : Lit × DataW H → Nat
  | (.string bytes, d) => bytes.length + uptoBulk d + 1
  | (_, d) => uptoBulk d + 1
 end
def uptoSmall : (H : Type) → List (DataW H) → Bool := fun _ ds => decide (uptoBulkAll ds ≤ 1048576)
def OpenSpec.upto (s : _root_.Go.ChangeSpec) : _root_.Go.OpenSpec := { _root_.Go.OpenSpec.ofChange s with cond := some uptoSmall }

/-- 'laws.FnExactSideOk', WHERE WHAT IT READS IS OF BULK AT MOST 1048576: true; the input reads as it did. -/
def fnExactSideOkUptoRow : OpenClaim := { program := "ytddadihobjinhaa", sum := "d7138b7754ebcf9f28554d9c7112b63717f61a53a5da89db7e7fe692e5cbcf51", func := "loop.example/osier/laws.FnExactSideOk", spec := "fnExactSideOk", apart := false, narrowed := true }
def FnExactSideOkUptoSaid : Prop := fnExactSideOkUptoRow.holds Try.pinned (OpenSpec.upto fnExactSideOkSpec)

/-- 'laws.FnExactSideOdd', WHERE WHAT IT READS IS OF BULK AT MOST 1048576: true; the input reads as it did. -/
def fnExactSideOddUptoRow : OpenClaim := { program := "ytddadihobjinhaa", sum := "d7138b7754ebcf9f28554d9c7112b63717f61a53a5da89db7e7fe692e5cbcf51", func := "loop.example/osier/laws.FnExactSideOdd", spec := "fnExactSideOdd", unfollowed := true, recurses := true, apart := false, narrowed := true }
def FnExactSideOddUptoSaid : Prop := fnExactSideOddUptoRow.holds Try.pinned (OpenSpec.upto fnExactSideOddSpec)

/-- 'laws.FnExactSideOf', WHERE WHAT IT READS IS OF BULK AT MOST 1048576: true; the input reads as it did. -/
def fnExactSideOfUptoRow : OpenClaim := { program := "ytddadihobjinhaa", sum := "d7138b7754ebcf9f28554d9c7112b63717f61a53a5da89db7e7fe692e5cbcf51", func := "loop.example/osier/laws.FnExactSideOf", spec := "fnExactSideOf", unfollowed := true, recurses := true, apart := false, narrowed := true }
def FnExactSideOfUptoSaid : Prop := fnExactSideOfUptoRow.holds Try.pinned (OpenSpec.upto fnExactSideOfSpec)

/-- 'laws.FnSideTree', WHERE WHAT IT READS IS OF BULK AT MOST 1048576: true; the input reads as it did. -/
def fnSideTreeUptoRow : OpenClaim := { program := "ytddadihobjinhaa", sum := "d7138b7754ebcf9f28554d9c7112b63717f61a53a5da89db7e7fe692e5cbcf51", func := "loop.example/osier/laws.FnSideTree", spec := "fnSideTree", unfollowed := true, recurses := true, apart := false, narrowed := true }
def FnSideTreeUptoSaid : Prop := fnSideTreeUptoRow.holds Try.pinned (OpenSpec.upto fnSideTreeSpec)

/-- 'laws.FnSideTop', WHERE WHAT IT READS IS OF BULK AT MOST 1048576: true; the input reads as it did. -/
def fnSideTopUptoRow : OpenClaim := { program := "ytddadihobjinhaa", sum := "d7138b7754ebcf9f28554d9c7112b63717f61a53a5da89db7e7fe692e5cbcf51", func := "loop.example/osier/laws.FnSideTop", spec := "fnSideTop", unfollowed := true, recurses := true, apart := false, narrowed := true }
def FnSideTopUptoSaid : Prop := fnSideTopUptoRow.holds Try.pinned (OpenSpec.upto fnSideTopSpec)

/-- 'laws.FnSideTurn', WHERE WHAT IT READS IS OF BULK AT MOST 1048576: true; the input reads as it did. -/
def fnSideTurnUptoRow : OpenClaim := { program := "ytddadihobjinhaa", sum := "d7138b7754ebcf9f28554d9c7112b63717f61a53a5da89db7e7fe692e5cbcf51", func := "loop.example/osier/laws.FnSideTurn", spec := "fnSideTurn", unfollowed := true, recurses := true, apart := false, narrowed := true }
def FnSideTurnUptoSaid : Prop := fnSideTurnUptoRow.holds Try.pinned (OpenSpec.upto fnSideTurnSpec)

/-- 'laws.FnSideEven', WHERE WHAT IT READS IS OF BULK AT MOST 1048576: true; the input reads as it did. -/
def fnSideEvenUptoRow : OpenClaim := { program := "ytddadihobjinhaa", sum := "d7138b7754ebcf9f28554d9c7112b63717f61a53a5da89db7e7fe692e5cbcf51", func := "loop.example/osier/laws.FnSideEven", spec := "fnSideEven", unfollowed := true, recurses := true, apart := false, narrowed := true }
def FnSideEvenUptoSaid : Prop := fnSideEvenUptoRow.holds Try.pinned (OpenSpec.upto fnSideEvenSpec)

/-- 'laws.FnSideOdd', WHERE WHAT IT READS IS OF BULK AT MOST 1048576: true; the input reads as it did. -/
def fnSideOddUptoRow : OpenClaim := { program := "ytddadihobjinhaa", sum := "d7138b7754ebcf9f28554d9c7112b63717f61a53a5da89db7e7fe692e5cbcf51", func := "loop.example/osier/laws.FnSideOdd", spec := "fnSideOdd", unfollowed := true, recurses := true, apart := false, narrowed := true }
def FnSideOddUptoSaid : Prop := fnSideOddUptoRow.holds Try.pinned (OpenSpec.upto fnSideOddSpec)

/-- 'laws.FnSideOnly', WHERE WHAT IT READS IS OF BULK AT MOST 1048576: true; the input reads as it did. -/
def fnSideOnlyUptoRow : OpenClaim := { program := "ytddadihobjinhaa", sum := "d7138b7754ebcf9f28554d9c7112b63717f61a53a5da89db7e7fe692e5cbcf51", func := "loop.example/osier/laws.FnSideOnly", spec := "fnSideOnly", unfollowed := true, recurses := true, apart := false, narrowed := true }
def FnSideOnlyUptoSaid : Prop := fnSideOnlyUptoRow.holds Try.pinned (OpenSpec.upto fnSideOnlySpec)

/-- 'laws.FnSideOf', WHERE WHAT IT READS IS OF BULK AT MOST 1048576: true; the input reads as it did. -/
def fnSideOfUptoRow : OpenClaim := { program := "ytddadihobjinhaa", sum := "d7138b7754ebcf9f28554d9c7112b63717f61a53a5da89db7e7fe692e5cbcf51", func := "loop.example/osier/laws.FnSideOf", spec := "fnSideOf", unfollowed := true, recurses := true, apart := false, narrowed := true }
def FnSideOfUptoSaid : Prop := fnSideOfUptoRow.holds Try.pinned (OpenSpec.upto fnSideOfSpec)

/-- 'laws.FnSideLess', WHERE WHAT IT READS IS OF BULK AT MOST 1048576: true; the input reads as it did. -/
def fnSideLessUptoRow : OpenClaim := { program := "ytddadihobjinhaa", sum := "d7138b7754ebcf9f28554d9c7112b63717f61a53a5da89db7e7fe692e5cbcf51", func := "loop.example/osier/laws.FnSideLess", spec := "fnSideLess", unfollowed := true, recurses := true, apart := false, narrowed := true }
def FnSideLessUptoSaid : Prop := fnSideLessUptoRow.holds Try.pinned (OpenSpec.upto fnSideLessSpec)

end Rows
end Go.Proofs.Ytddadihobjinhaa
