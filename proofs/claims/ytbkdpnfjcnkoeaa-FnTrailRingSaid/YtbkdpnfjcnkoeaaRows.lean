/-
  No cell of these rows narrows 'for every input' (looked for: loops, veiled, ifaces, maps, wideKeys, modest, calm, conditions, laid).
  DERIVED. THE GIVEN ROWS OF THIS SEAT. 11 by the template 'for every input the law returns true; each argument reads behind the call as it read before'; 0 by the template 'total and deterministic' (their statements: YtbkdpnfjcnkoeaaTotals.lean).
  GIVEN WITH THE SEED: the statements are not yours to turn. If you find one false, say at which input.
  Laid BY PROGRAM, IN A SANDBOX (cutbox-rows.mjs): the forced cells as the released guide's own fill.sh prints them over the translation 8b5965dd9cda38f9… (all of the seat's roots in one cut). By AI agents, Wed Nov 11 2026. No macro, syntax, notation, axiom, sorry.
-/
import Derived.Test.YtbkdpnfjcnkoeaaChecked
import GoSem.Claim
import GoSem.ClaimJoined
import GoSem.ClaimMapViews
import Derived.JoinedTies
import Derived.KernelRfl
namespace Go.Proofs.Ytbkdpnfjcnkoeaa
/- THE CELL 'sum', in the pinned program and in every row, IS THE sha256 OF THE DUMP (.gsa) THAT YtbkdpnfjcnkoeaaProg.lean LOADS. Nothing in Lean hashes anything: it is a label: what it is worth is what the hold of that sum in a sandbox is worth. -/
noncomputable def Try.pinned : Pinned := { name := "ytbkdpnfjcnkoeaa", sum := "8b5965dd9cda38f910831af44ed1705346bf56a299cf2cfe81acb4461c7ecd19", checked := Try.checked }
namespace Rows
def none {H : Type} : Left H := { results := [], args := [] }

/-- 'laws.FnExactTrailCan': WHATEVER THE INPUT: true; the input reads as it did. -/
def fnExactTrailCanSpec : ChangeSpec := { name := "fnExactTrailCan", fn := fun _ => fun
  | [d1, d2] => { results := [.lit (.bool true)], args := [d1, d2] }
  | _ => none }
def fnExactTrailCanRow : OpenClaim := { program := "ytbkdpnfjcnkoeaa", sum := "8b5965dd9cda38f910831af44ed1705346bf56a299cf2cfe81acb4461c7ecd19", func := "loop.example/osier/laws.FnExactTrailCan", spec := "fnExactTrailCan", apart := false }
def FnExactTrailCanSaid : Prop := fnExactTrailCanRow.holds Try.pinned (OpenSpec.ofChange fnExactTrailCanSpec)

/-- ITS FALSE NEIGHBOUR: 'it returns false'. Refute it at one input. -/
def fnExactTrailCanWrong : ChangeSpec := { name := "fnExactTrailCan", fn := fun _ => fun
  | [d1, d2] => { results := [.lit (.bool false)], args := [d1, d2] }
  | _ => none }
def FnExactTrailCanWrongFalsely : Prop := fnExactTrailCanRow.holds Try.pinned (OpenSpec.ofChange fnExactTrailCanWrong)

/-- 'laws.FnExactTrailOk': WHATEVER THE INPUT: true; the input reads as it did. -/
def fnExactTrailOkSpec : ChangeSpec := { name := "fnExactTrailOk", fn := fun _ => fun
  | [d1, d2] => { results := [.lit (.bool true)], args := [d1, d2] }
  | _ => none }
def fnExactTrailOkRow : OpenClaim := { program := "ytbkdpnfjcnkoeaa", sum := "8b5965dd9cda38f910831af44ed1705346bf56a299cf2cfe81acb4461c7ecd19", func := "loop.example/osier/laws.FnExactTrailOk", spec := "fnExactTrailOk", apart := false }
def FnExactTrailOkSaid : Prop := fnExactTrailOkRow.holds Try.pinned (OpenSpec.ofChange fnExactTrailOkSpec)

/-- ITS FALSE NEIGHBOUR: 'it returns false'. Refute it at one input. -/
def fnExactTrailOkWrong : ChangeSpec := { name := "fnExactTrailOk", fn := fun _ => fun
  | [d1, d2] => { results := [.lit (.bool false)], args := [d1, d2] }
  | _ => none }
def FnExactTrailOkWrongFalsely : Prop := fnExactTrailOkRow.holds Try.pinned (OpenSpec.ofChange fnExactTrailOkWrong)

/-- 'laws.FnExactTrailOf': WHATEVER THE INPUT: true; the input reads as it did. -/
def fnExactTrailOfSpec : ChangeSpec := { name := "fnExactTrailOf", fn := fun _ => fun
  | [d1, d2] => { results := [.lit (.bool true)], args := [d1, d2] }
  | _ => none }
def fnExactTrailOfRow : OpenClaim := { program := "ytbkdpnfjcnkoeaa", sum := "8b5965dd9cda38f910831af44ed1705346bf56a299cf2cfe81acb4461c7ecd19", func := "loop.example/osier/laws.FnExactTrailOf", spec := "fnExactTrailOf", apart := false }
def FnExactTrailOfSaid : Prop := fnExactTrailOfRow.holds Try.pinned (OpenSpec.ofChange fnExactTrailOfSpec)

/-- ITS FALSE NEIGHBOUR: 'it returns false'. Refute it at one input. -/
def fnExactTrailOfWrong : ChangeSpec := { name := "fnExactTrailOf", fn := fun _ => fun
  | [d1, d2] => { results := [.lit (.bool false)], args := [d1, d2] }
  | _ => none }
def FnExactTrailOfWrongFalsely : Prop := fnExactTrailOfRow.holds Try.pinned (OpenSpec.ofChange fnExactTrailOfWrong)

/-- 'laws.FnTrailOdd': WHATEVER THE INPUT: true; the input reads as it did. -/
def fnTrailOddSpec : ChangeSpec := { name := "fnTrailOdd", fn := fun _ => fun
  | [d] => { results := [.lit (.bool true)], args := [d] }
  | _ => none }
def fnTrailOddRow : OpenClaim := { program := "ytbkdpnfjcnkoeaa", sum := "8b5965dd9cda38f910831af44ed1705346bf56a299cf2cfe81acb4461c7ecd19", func := "loop.example/osier/laws.FnTrailOdd", spec := "fnTrailOdd", apart := false }
def FnTrailOddSaid : Prop := fnTrailOddRow.holds Try.pinned (OpenSpec.ofChange fnTrailOddSpec)

/-- ITS FALSE NEIGHBOUR: 'it returns false'. Refute it at one input. -/
def fnTrailOddWrong : ChangeSpec := { name := "fnTrailOdd", fn := fun _ => fun
  | [d] => { results := [.lit (.bool false)], args := [d] }
  | _ => none }
def FnTrailOddWrongFalsely : Prop := fnTrailOddRow.holds Try.pinned (OpenSpec.ofChange fnTrailOddWrong)

/-- 'laws.FnTrailCan': WHATEVER THE INPUT: true; the input reads as it did. -/
def fnTrailCanSpec : ChangeSpec := { name := "fnTrailCan", fn := fun _ => fun
  | [d] => { results := [.lit (.bool true)], args := [d] }
  | _ => none }
def fnTrailCanRow : OpenClaim := { program := "ytbkdpnfjcnkoeaa", sum := "8b5965dd9cda38f910831af44ed1705346bf56a299cf2cfe81acb4461c7ecd19", func := "loop.example/osier/laws.FnTrailCan", spec := "fnTrailCan", apart := false }
def FnTrailCanSaid : Prop := fnTrailCanRow.holds Try.pinned (OpenSpec.ofChange fnTrailCanSpec)

/-- ITS FALSE NEIGHBOUR: 'it returns false'. Refute it at one input. -/
def fnTrailCanWrong : ChangeSpec := { name := "fnTrailCan", fn := fun _ => fun
  | [d] => { results := [.lit (.bool false)], args := [d] }
  | _ => none }
def FnTrailCanWrongFalsely : Prop := fnTrailCanRow.holds Try.pinned (OpenSpec.ofChange fnTrailCanWrong)

/-- 'laws.FnTrailBack': WHATEVER THE INPUT: true; the input reads as it did. -/
def fnTrailBackSpec : ChangeSpec := { name := "fnTrailBack", fn := fun _ => fun
  | [d] => { results := [.lit (.bool true)], args := [d] }
  | _ => none }
def fnTrailBackRow : OpenClaim := { program := "ytbkdpnfjcnkoeaa", sum := "8b5965dd9cda38f910831af44ed1705346bf56a299cf2cfe81acb4461c7ecd19", func := "loop.example/osier/laws.FnTrailBack", spec := "fnTrailBack", apart := false }
def FnTrailBackSaid : Prop := fnTrailBackRow.holds Try.pinned (OpenSpec.ofChange fnTrailBackSpec)

/-- ITS FALSE NEIGHBOUR: 'it returns false'. Refute it at one input. -/
def fnTrailBackWrong : ChangeSpec := { name := "fnTrailBack", fn := fun _ => fun
  | [d] => { results := [.lit (.bool false)], args := [d] }
  | _ => none }
def FnTrailBackWrongFalsely : Prop := fnTrailBackRow.holds Try.pinned (OpenSpec.ofChange fnTrailBackWrong)

/-- 'laws.FnTrailTail': WHATEVER THE INPUT: true; the input reads as it did. -/
def fnTrailTailSpec : ChangeSpec := { name := "fnTrailTail", fn := fun _ => fun
  | [d] => { results := [.lit (.bool true)], args := [d] }
  | _ => none }
def fnTrailTailRow : OpenClaim := { program := "ytbkdpnfjcnkoeaa", sum := "8b5965dd9cda38f910831af44ed1705346bf56a299cf2cfe81acb4461c7ecd19", func := "loop.example/osier/laws.FnTrailTail", spec := "fnTrailTail", apart := false }
def FnTrailTailSaid : Prop := fnTrailTailRow.holds Try.pinned (OpenSpec.ofChange fnTrailTailSpec)

/-- ITS FALSE NEIGHBOUR: 'it returns false'. Refute it at one input. -/
def fnTrailTailWrong : ChangeSpec := { name := "fnTrailTail", fn := fun _ => fun
  | [d] => { results := [.lit (.bool false)], args := [d] }
  | _ => none }
def FnTrailTailWrongFalsely : Prop := fnTrailTailRow.holds Try.pinned (OpenSpec.ofChange fnTrailTailWrong)

/-- 'laws.FnTrailOf': WHATEVER THE INPUT: true; the input reads as it did. -/
def fnTrailOfSpec : ChangeSpec := { name := "fnTrailOf", fn := fun _ => fun
  | [d] => { results := [.lit (.bool true)], args := [d] }
  | _ => none }
def fnTrailOfRow : OpenClaim := { program := "ytbkdpnfjcnkoeaa", sum := "8b5965dd9cda38f910831af44ed1705346bf56a299cf2cfe81acb4461c7ecd19", func := "loop.example/osier/laws.FnTrailOf", spec := "fnTrailOf", apart := false }
def FnTrailOfSaid : Prop := fnTrailOfRow.holds Try.pinned (OpenSpec.ofChange fnTrailOfSpec)

/-- ITS FALSE NEIGHBOUR: 'it returns false'. Refute it at one input. -/
def fnTrailOfWrong : ChangeSpec := { name := "fnTrailOf", fn := fun _ => fun
  | [d] => { results := [.lit (.bool false)], args := [d] }
  | _ => none }
def FnTrailOfWrongFalsely : Prop := fnTrailOfRow.holds Try.pinned (OpenSpec.ofChange fnTrailOfWrong)

/-- 'laws.FnTrailRing': WHATEVER THE INPUT: true; the input reads as it did. -/
def fnTrailRingSpec : ChangeSpec := { name := "fnTrailRing", fn := fun _ => fun
  | [d] => { results := [.lit (.bool true)], args := [d] }
  | _ => none }
def fnTrailRingRow : OpenClaim := { program := "ytbkdpnfjcnkoeaa", sum := "8b5965dd9cda38f910831af44ed1705346bf56a299cf2cfe81acb4461c7ecd19", func := "loop.example/osier/laws.FnTrailRing", spec := "fnTrailRing", apart := false }
def FnTrailRingSaid : Prop := fnTrailRingRow.holds Try.pinned (OpenSpec.ofChange fnTrailRingSpec)

/-- ITS FALSE NEIGHBOUR: 'it returns false'. Refute it at one input. -/
def fnTrailRingWrong : ChangeSpec := { name := "fnTrailRing", fn := fun _ => fun
  | [d] => { results := [.lit (.bool false)], args := [d] }
  | _ => none }
def FnTrailRingWrongFalsely : Prop := fnTrailRingRow.holds Try.pinned (OpenSpec.ofChange fnTrailRingWrong)

/-- 'laws.FnTrailEnd': WHATEVER THE INPUT: true; the input reads as it did. -/
def fnTrailEndSpec : ChangeSpec := { name := "fnTrailEnd", fn := fun _ => fun
  | [d] => { results := [.lit (.bool true)], args := [d] }
  | _ => none }
def fnTrailEndRow : OpenClaim := { program := "ytbkdpnfjcnkoeaa", sum := "8b5965dd9cda38f910831af44ed1705346bf56a299cf2cfe81acb4461c7ecd19", func := "loop.example/osier/laws.FnTrailEnd", spec := "fnTrailEnd", apart := false }
def FnTrailEndSaid : Prop := fnTrailEndRow.holds Try.pinned (OpenSpec.ofChange fnTrailEndSpec)

/-- ITS FALSE NEIGHBOUR: 'it returns false'. Refute it at one input. -/
def fnTrailEndWrong : ChangeSpec := { name := "fnTrailEnd", fn := fun _ => fun
  | [d] => { results := [.lit (.bool false)], args := [d] }
  | _ => none }
def FnTrailEndWrongFalsely : Prop := fnTrailEndRow.holds Try.pinned (OpenSpec.ofChange fnTrailEndWrong)

/-- 'laws.FnTrailFirst': WHATEVER THE INPUT: true; the input reads as it did. -/
def fnTrailFirstSpec : ChangeSpec := { name := "fnTrailFirst", fn := fun _ => fun
  | [d] => { results := [.lit (.bool true)], args := [d] }
  | _ => none }
def fnTrailFirstRow : OpenClaim := { program := "ytbkdpnfjcnkoeaa", sum := "8b5965dd9cda38f910831af44ed1705346bf56a299cf2cfe81acb4461c7ecd19", func := "loop.example/osier/laws.FnTrailFirst", spec := "fnTrailFirst", apart := false }
def FnTrailFirstSaid : Prop := fnTrailFirstRow.holds Try.pinned (OpenSpec.ofChange fnTrailFirstSpec)

/-- ITS FALSE NEIGHBOUR: 'it returns false'. Refute it at one input. -/
def fnTrailFirstWrong : ChangeSpec := { name := "fnTrailFirst", fn := fun _ => fun
  | [d] => { results := [.lit (.bool false)], args := [d] }
  | _ => none }
def FnTrailFirstWrongFalsely : Prop := fnTrailFirstRow.holds Try.pinned (OpenSpec.ofChange fnTrailFirstWrong)

/- THE SECOND FORM. 'bulk': how many values and letters a reading holds, each counted each time it is reached (what is shared counts as often as it is met; a slice's spare places count too). A statement '..UptoSaid' is the law's where the arguments, and the package variables that the reading takes, are together of bulk at most 1048576: NARROWER than '..Said'. Prove '..Said' where nothing that the law and all that it calls make is longer than what came in: it says more and counts as full. Else prove '..UptoSaid'. A law counts once. -/
mutual
def uptoBulk {H : Type} : DataW H → Nat
  | .lit (.string bytes) => bytes.length + 1
  | .lit _ => 1
  | .nil => 1
  | .ptr d => uptoBulk d + 1
  | .slice elems spare => uptoBulkAll elems + uptoBulkAll spare + 1
  | .agg parts => uptoBulkAll parts + 1
  | .iface _ d => uptoBulk d + 1
  | .map entries => uptoBulkEntries entries + 1
  | .held _ => 1
def uptoBulkAll {H : Type} : List (DataW H) → Nat
  | [] => 0
  | d :: r => uptoBulk d + uptoBulkAll r
def uptoBulkEntries {H : Type} : List (Lit × DataW H) → Nat
  | [] => 0
  | x :: r => uptoBulkEntry x + uptoBulkEntries r
def uptoBulkEntry {H : Type} : Lit × DataW H → Nat
  | (.string bytes, d) => bytes.length + uptoBulk d + 1
  | (_, d) => uptoBulk d + 1
 end
def uptoSmall : (H : Type) → List (DataW H) → Bool := fun _ ds => decide (uptoBulkAll ds ≤ 1048576)
def OpenSpec.upto (s : _root_.Go.ChangeSpec) : _root_.Go.OpenSpec := { _root_.Go.OpenSpec.ofChange s with cond := some uptoSmall }

/-- 'laws.FnExactTrailCan', WHERE WHAT IT READS IS OF BULK AT MOST 1048576: true; the input reads as it did. -/
def fnExactTrailCanUptoRow : OpenClaim := { program := "ytbkdpnfjcnkoeaa", sum := "8b5965dd9cda38f910831af44ed1705346bf56a299cf2cfe81acb4461c7ecd19", func := "loop.example/osier/laws.FnExactTrailCan", spec := "fnExactTrailCan", apart := false, narrowed := true }
def FnExactTrailCanUptoSaid : Prop := fnExactTrailCanUptoRow.holds Try.pinned (OpenSpec.upto fnExactTrailCanSpec)

/-- 'laws.FnExactTrailOk', WHERE WHAT IT READS IS OF BULK AT MOST 1048576: true; the input reads as it did. -/
def fnExactTrailOkUptoRow : OpenClaim := { program := "ytbkdpnfjcnkoeaa", sum := "8b5965dd9cda38f910831af44ed1705346bf56a299cf2cfe81acb4461c7ecd19", func := "loop.example/osier/laws.FnExactTrailOk", spec := "fnExactTrailOk", apart := false, narrowed := true }
def FnExactTrailOkUptoSaid : Prop := fnExactTrailOkUptoRow.holds Try.pinned (OpenSpec.upto fnExactTrailOkSpec)

/-- 'laws.FnExactTrailOf', WHERE WHAT IT READS IS OF BULK AT MOST 1048576: true; the input reads as it did. -/
def fnExactTrailOfUptoRow : OpenClaim := { program := "ytbkdpnfjcnkoeaa", sum := "8b5965dd9cda38f910831af44ed1705346bf56a299cf2cfe81acb4461c7ecd19", func := "loop.example/osier/laws.FnExactTrailOf", spec := "fnExactTrailOf", apart := false, narrowed := true }
def FnExactTrailOfUptoSaid : Prop := fnExactTrailOfUptoRow.holds Try.pinned (OpenSpec.upto fnExactTrailOfSpec)

/-- 'laws.FnTrailOdd', WHERE WHAT IT READS IS OF BULK AT MOST 1048576: true; the input reads as it did. -/
def fnTrailOddUptoRow : OpenClaim := { program := "ytbkdpnfjcnkoeaa", sum := "8b5965dd9cda38f910831af44ed1705346bf56a299cf2cfe81acb4461c7ecd19", func := "loop.example/osier/laws.FnTrailOdd", spec := "fnTrailOdd", apart := false, narrowed := true }
def FnTrailOddUptoSaid : Prop := fnTrailOddUptoRow.holds Try.pinned (OpenSpec.upto fnTrailOddSpec)

/-- 'laws.FnTrailCan', WHERE WHAT IT READS IS OF BULK AT MOST 1048576: true; the input reads as it did. -/
def fnTrailCanUptoRow : OpenClaim := { program := "ytbkdpnfjcnkoeaa", sum := "8b5965dd9cda38f910831af44ed1705346bf56a299cf2cfe81acb4461c7ecd19", func := "loop.example/osier/laws.FnTrailCan", spec := "fnTrailCan", apart := false, narrowed := true }
def FnTrailCanUptoSaid : Prop := fnTrailCanUptoRow.holds Try.pinned (OpenSpec.upto fnTrailCanSpec)

/-- 'laws.FnTrailBack', WHERE WHAT IT READS IS OF BULK AT MOST 1048576: true; the input reads as it did. -/
def fnTrailBackUptoRow : OpenClaim := { program := "ytbkdpnfjcnkoeaa", sum := "8b5965dd9cda38f910831af44ed1705346bf56a299cf2cfe81acb4461c7ecd19", func := "loop.example/osier/laws.FnTrailBack", spec := "fnTrailBack", apart := false, narrowed := true }
def FnTrailBackUptoSaid : Prop := fnTrailBackUptoRow.holds Try.pinned (OpenSpec.upto fnTrailBackSpec)

/-- 'laws.FnTrailTail', WHERE WHAT IT READS IS OF BULK AT MOST 1048576: true; the input reads as it did. -/
def fnTrailTailUptoRow : OpenClaim := { program := "ytbkdpnfjcnkoeaa", sum := "8b5965dd9cda38f910831af44ed1705346bf56a299cf2cfe81acb4461c7ecd19", func := "loop.example/osier/laws.FnTrailTail", spec := "fnTrailTail", apart := false, narrowed := true }
def FnTrailTailUptoSaid : Prop := fnTrailTailUptoRow.holds Try.pinned (OpenSpec.upto fnTrailTailSpec)

/-- 'laws.FnTrailOf', WHERE WHAT IT READS IS OF BULK AT MOST 1048576: true; the input reads as it did. -/
def fnTrailOfUptoRow : OpenClaim := { program := "ytbkdpnfjcnkoeaa", sum := "8b5965dd9cda38f910831af44ed1705346bf56a299cf2cfe81acb4461c7ecd19", func := "loop.example/osier/laws.FnTrailOf", spec := "fnTrailOf", apart := false, narrowed := true }
def FnTrailOfUptoSaid : Prop := fnTrailOfUptoRow.holds Try.pinned (OpenSpec.upto fnTrailOfSpec)

/-- 'laws.FnTrailRing', WHERE WHAT IT READS IS OF BULK AT MOST 1048576: true; the input reads as it did. -/
def fnTrailRingUptoRow : OpenClaim := { program := "ytbkdpnfjcnkoeaa", sum := "8b5965dd9cda38f910831af44ed1705346bf56a299cf2cfe81acb4461c7ecd19", func := "loop.example/osier/laws.FnTrailRing", spec := "fnTrailRing", apart := false, narrowed := true }
def FnTrailRingUptoSaid : Prop := fnTrailRingUptoRow.holds Try.pinned (OpenSpec.upto fnTrailRingSpec)

/-- 'laws.FnTrailEnd', WHERE WHAT IT READS IS OF BULK AT MOST 1048576: true; the input reads as it did. -/
def fnTrailEndUptoRow : OpenClaim := { program := "ytbkdpnfjcnkoeaa", sum := "8b5965dd9cda38f910831af44ed1705346bf56a299cf2cfe81acb4461c7ecd19", func := "loop.example/osier/laws.FnTrailEnd", spec := "fnTrailEnd", apart := false, narrowed := true }
def FnTrailEndUptoSaid : Prop := fnTrailEndUptoRow.holds Try.pinned (OpenSpec.upto fnTrailEndSpec)

/-- 'laws.FnTrailFirst', WHERE WHAT IT READS IS OF BULK AT MOST 1048576: true; the input reads as it did. -/
def fnTrailFirstUptoRow : OpenClaim := { program := "ytbkdpnfjcnkoeaa", sum := "8b5965dd9cda38f910831af44ed1705346bf56a299cf2cfe81acb4461c7ecd19", func := "loop.example/osier/laws.FnTrailFirst", spec := "fnTrailFirst", apart := false, narrowed := true }
def FnTrailFirstUptoSaid : Prop := fnTrailFirstUptoRow.holds Try.pinned (OpenSpec.upto fnTrailFirstSpec)

end Rows
end Go.Proofs.Ytbkdpnfjcnkoeaa
