/-
  No cell of these rows narrows 'for every input' (looked for: loops, veiled, ifaces, maps, wideKeys, modest, calm, conditions, laid).
  DERIVED. THE GIVEN ROWS OF THIS SEAT. 11 by the template 'for every input the law returns true; each argument reads behind the call as it read before'; 0 by the template 'total and deterministic' (their statements: YtgeonpciodepgaaTotals.lean).
  GIVEN WITH THE SEED: the statements are not yours to turn. If you find one false, say at which input.
  Laid BY PROGRAM, IN A SANDBOX (cutbox-rows.mjs): the forced cells as the released guide's own fill.sh prints them over the translation 863084f4c392543d… (all of the seat's roots in one cut). By AI agents, Wed Nov 11 2026. No macro, syntax, notation, axiom, sorry.
-/
import Derived.Test.YtgeonpciodepgaaChecked
import GoSem.Claim
import GoSem.ClaimJoined
import GoSem.ClaimMapViews
import Derived.JoinedTies
import Derived.KernelRfl
namespace Go.Proofs.Ytgeonpciodepgaa
/- THE CELL 'sum', in the pinned program and in every row, IS THE sha256 OF THE DUMP (.gsa) THAT YtgeonpciodepgaaProg.lean LOADS. Nothing in Lean hashes anything: it is a label: what it is worth is what the hold of that sum in a sandbox is worth. -/
noncomputable def Try.pinned : Pinned := { name := "ytgeonpciodepgaa", sum := "863084f4c392543dc04abcc529290842cf4282d10f08c7fa6b415ff73c44f761", checked := Try.checked }
namespace Rows
def none {H : Type} : Left H := { results := [], args := [] }

/-- 'laws.FnExactEarOk': WHATEVER THE INPUT: true; the input reads as it did. -/
def fnExactEarOkSpec : ChangeSpec := { name := "fnExactEarOk", fn := fun _ => fun
  | [d1, d2] => { results := [.lit (.bool true)], args := [d1, d2] }
  | _ => none }
def fnExactEarOkRow : OpenClaim := { program := "ytgeonpciodepgaa", sum := "863084f4c392543dc04abcc529290842cf4282d10f08c7fa6b415ff73c44f761", func := "loop.example/osier/laws.FnExactEarOk", spec := "fnExactEarOk", plainKeys := false, apart := false }
def FnExactEarOkSaid : Prop := fnExactEarOkRow.holds Try.pinned (OpenSpec.ofChange fnExactEarOkSpec)

/-- ITS FALSE NEIGHBOUR: 'it returns false'. Refute it at one input. -/
def fnExactEarOkWrong : ChangeSpec := { name := "fnExactEarOk", fn := fun _ => fun
  | [d1, d2] => { results := [.lit (.bool false)], args := [d1, d2] }
  | _ => none }
def FnExactEarOkWrongFalsely : Prop := fnExactEarOkRow.holds Try.pinned (OpenSpec.ofChange fnExactEarOkWrong)

/-- 'laws.FnExactEarOf': WHATEVER THE INPUT: true; the input reads as it did. -/
def fnExactEarOfSpec : ChangeSpec := { name := "fnExactEarOf", fn := fun _ => fun
  | [d] => { results := [.lit (.bool true)], args := [d] }
  | _ => none }
def fnExactEarOfRow : OpenClaim := { program := "ytgeonpciodepgaa", sum := "863084f4c392543dc04abcc529290842cf4282d10f08c7fa6b415ff73c44f761", func := "loop.example/osier/laws.FnExactEarOf", spec := "fnExactEarOf", unfollowed := true, recurses := true, plainKeys := false, apart := false }
def FnExactEarOfSaid : Prop := fnExactEarOfRow.holds Try.pinned (OpenSpec.ofChange fnExactEarOfSpec)

/-- ITS FALSE NEIGHBOUR: 'it returns false'. Refute it at one input. -/
def fnExactEarOfWrong : ChangeSpec := { name := "fnExactEarOf", fn := fun _ => fun
  | [d] => { results := [.lit (.bool false)], args := [d] }
  | _ => none }
def FnExactEarOfWrongFalsely : Prop := fnExactEarOfRow.holds Try.pinned (OpenSpec.ofChange fnExactEarOfWrong)

/-- 'laws.FnEarCount': WHATEVER THE INPUT: true; the input reads as it did. -/
def fnEarCountSpec : ChangeSpec := { name := "fnEarCount", fn := fun _ => fun
  | [d] => { results := [.lit (.bool true)], args := [d] }
  | _ => none }
def fnEarCountRow : OpenClaim := { program := "ytgeonpciodepgaa", sum := "863084f4c392543dc04abcc529290842cf4282d10f08c7fa6b415ff73c44f761", func := "loop.example/osier/laws.FnEarCount", spec := "fnEarCount", plainKeys := false, apart := false }
def FnEarCountSaid : Prop := fnEarCountRow.holds Try.pinned (OpenSpec.ofChange fnEarCountSpec)

/-- ITS FALSE NEIGHBOUR: 'it returns false'. Refute it at one input. -/
def fnEarCountWrong : ChangeSpec := { name := "fnEarCount", fn := fun _ => fun
  | [d] => { results := [.lit (.bool false)], args := [d] }
  | _ => none }
def FnEarCountWrongFalsely : Prop := fnEarCountRow.holds Try.pinned (OpenSpec.ofChange fnEarCountWrong)

/-- 'laws.FnEarTurn': WHATEVER THE INPUT: true; the input reads as it did. -/
def fnEarTurnSpec : ChangeSpec := { name := "fnEarTurn", fn := fun _ => fun
  | [d1, d2] => { results := [.lit (.bool true)], args := [d1, d2] }
  | _ => none }
def fnEarTurnRow : OpenClaim := { program := "ytgeonpciodepgaa", sum := "863084f4c392543dc04abcc529290842cf4282d10f08c7fa6b415ff73c44f761", func := "loop.example/osier/laws.FnEarTurn", spec := "fnEarTurn", plainKeys := false, apart := false }
def FnEarTurnSaid : Prop := fnEarTurnRow.holds Try.pinned (OpenSpec.ofChange fnEarTurnSpec)

/-- ITS FALSE NEIGHBOUR: 'it returns false'. Refute it at one input. -/
def fnEarTurnWrong : ChangeSpec := { name := "fnEarTurn", fn := fun _ => fun
  | [d1, d2] => { results := [.lit (.bool false)], args := [d1, d2] }
  | _ => none }
def FnEarTurnWrongFalsely : Prop := fnEarTurnRow.holds Try.pinned (OpenSpec.ofChange fnEarTurnWrong)

/-- 'laws.FnEarSome': WHATEVER THE INPUT: true; the input reads as it did. -/
def fnEarSomeSpec : ChangeSpec := { name := "fnEarSome", fn := fun _ => fun
  | [d] => { results := [.lit (.bool true)], args := [d] }
  | _ => none }
def fnEarSomeRow : OpenClaim := { program := "ytgeonpciodepgaa", sum := "863084f4c392543dc04abcc529290842cf4282d10f08c7fa6b415ff73c44f761", func := "loop.example/osier/laws.FnEarSome", spec := "fnEarSome", unfollowed := true, recurses := true, plainKeys := false, apart := false }
def FnEarSomeSaid : Prop := fnEarSomeRow.holds Try.pinned (OpenSpec.ofChange fnEarSomeSpec)

/-- ITS FALSE NEIGHBOUR: 'it returns false'. Refute it at one input. -/
def fnEarSomeWrong : ChangeSpec := { name := "fnEarSome", fn := fun _ => fun
  | [d] => { results := [.lit (.bool false)], args := [d] }
  | _ => none }
def FnEarSomeWrongFalsely : Prop := fnEarSomeRow.holds Try.pinned (OpenSpec.ofChange fnEarSomeWrong)

/-- 'laws.FnEarFirst': WHATEVER THE INPUT: true; the input reads as it did. -/
def fnEarFirstSpec : ChangeSpec := { name := "fnEarFirst", fn := fun _ => fun
  | [d] => { results := [.lit (.bool true)], args := [d] }
  | _ => none }
def fnEarFirstRow : OpenClaim := { program := "ytgeonpciodepgaa", sum := "863084f4c392543dc04abcc529290842cf4282d10f08c7fa6b415ff73c44f761", func := "loop.example/osier/laws.FnEarFirst", spec := "fnEarFirst", unfollowed := true, recurses := true, plainKeys := false, apart := false }
def FnEarFirstSaid : Prop := fnEarFirstRow.holds Try.pinned (OpenSpec.ofChange fnEarFirstSpec)

/-- ITS FALSE NEIGHBOUR: 'it returns false'. Refute it at one input. -/
def fnEarFirstWrong : ChangeSpec := { name := "fnEarFirst", fn := fun _ => fun
  | [d] => { results := [.lit (.bool false)], args := [d] }
  | _ => none }
def FnEarFirstWrongFalsely : Prop := fnEarFirstRow.holds Try.pinned (OpenSpec.ofChange fnEarFirstWrong)

/-- 'laws.FnEarOf': WHATEVER THE INPUT: true; the input reads as it did. -/
def fnEarOfSpec : ChangeSpec := { name := "fnEarOf", fn := fun _ => fun
  | [d] => { results := [.lit (.bool true)], args := [d] }
  | _ => none }
def fnEarOfRow : OpenClaim := { program := "ytgeonpciodepgaa", sum := "863084f4c392543dc04abcc529290842cf4282d10f08c7fa6b415ff73c44f761", func := "loop.example/osier/laws.FnEarOf", spec := "fnEarOf", unfollowed := true, recurses := true, plainKeys := false, apart := false }
def FnEarOfSaid : Prop := fnEarOfRow.holds Try.pinned (OpenSpec.ofChange fnEarOfSpec)

/-- ITS FALSE NEIGHBOUR: 'it returns false'. Refute it at one input. -/
def fnEarOfWrong : ChangeSpec := { name := "fnEarOf", fn := fun _ => fun
  | [d] => { results := [.lit (.bool false)], args := [d] }
  | _ => none }
def FnEarOfWrongFalsely : Prop := fnEarOfRow.holds Try.pinned (OpenSpec.ofChange fnEarOfWrong)

/-- 'laws.FnEarBridge': WHATEVER THE INPUT: true; the input reads as it did. -/
def fnEarBridgeSpec : ChangeSpec := { name := "fnEarBridge", fn := fun _ => fun
  | [d] => { results := [.lit (.bool true)], args := [d] }
  | _ => none }
def fnEarBridgeRow : OpenClaim := { program := "ytgeonpciodepgaa", sum := "863084f4c392543dc04abcc529290842cf4282d10f08c7fa6b415ff73c44f761", func := "loop.example/osier/laws.FnEarBridge", spec := "fnEarBridge", plainKeys := false, apart := false }
def FnEarBridgeSaid : Prop := fnEarBridgeRow.holds Try.pinned (OpenSpec.ofChange fnEarBridgeSpec)

/-- ITS FALSE NEIGHBOUR: 'it returns false'. Refute it at one input. -/
def fnEarBridgeWrong : ChangeSpec := { name := "fnEarBridge", fn := fun _ => fun
  | [d] => { results := [.lit (.bool false)], args := [d] }
  | _ => none }
def FnEarBridgeWrongFalsely : Prop := fnEarBridgeRow.holds Try.pinned (OpenSpec.ofChange fnEarBridgeWrong)

/-- 'laws.FnEarAhead': WHATEVER THE INPUT: true; the input reads as it did. -/
def fnEarAheadSpec : ChangeSpec := { name := "fnEarAhead", fn := fun _ => fun
  | [d1, d2] => { results := [.lit (.bool true)], args := [d1, d2] }
  | _ => none }
def fnEarAheadRow : OpenClaim := { program := "ytgeonpciodepgaa", sum := "863084f4c392543dc04abcc529290842cf4282d10f08c7fa6b415ff73c44f761", func := "loop.example/osier/laws.FnEarAhead", spec := "fnEarAhead", unfollowed := true, recurses := true, plainKeys := false, apart := false }
def FnEarAheadSaid : Prop := fnEarAheadRow.holds Try.pinned (OpenSpec.ofChange fnEarAheadSpec)

/-- ITS FALSE NEIGHBOUR: 'it returns false'. Refute it at one input. -/
def fnEarAheadWrong : ChangeSpec := { name := "fnEarAhead", fn := fun _ => fun
  | [d1, d2] => { results := [.lit (.bool false)], args := [d1, d2] }
  | _ => none }
def FnEarAheadWrongFalsely : Prop := fnEarAheadRow.holds Try.pinned (OpenSpec.ofChange fnEarAheadWrong)

/-- 'laws.FnEarBlock': WHATEVER THE INPUT: true; the input reads as it did. -/
def fnEarBlockSpec : ChangeSpec := { name := "fnEarBlock", fn := fun _ => fun
  | [d] => { results := [.lit (.bool true)], args := [d] }
  | _ => none }
def fnEarBlockRow : OpenClaim := { program := "ytgeonpciodepgaa", sum := "863084f4c392543dc04abcc529290842cf4282d10f08c7fa6b415ff73c44f761", func := "loop.example/osier/laws.FnEarBlock", spec := "fnEarBlock", unfollowed := true, recurses := true, plainKeys := false, apart := false }
def FnEarBlockSaid : Prop := fnEarBlockRow.holds Try.pinned (OpenSpec.ofChange fnEarBlockSpec)

/-- ITS FALSE NEIGHBOUR: 'it returns false'. Refute it at one input. -/
def fnEarBlockWrong : ChangeSpec := { name := "fnEarBlock", fn := fun _ => fun
  | [d] => { results := [.lit (.bool false)], args := [d] }
  | _ => none }
def FnEarBlockWrongFalsely : Prop := fnEarBlockRow.holds Try.pinned (OpenSpec.ofChange fnEarBlockWrong)

/-- 'laws.FnEarOpen': WHATEVER THE INPUT: true; the input reads as it did. -/
def fnEarOpenSpec : ChangeSpec := { name := "fnEarOpen", fn := fun _ => fun
  | [d] => { results := [.lit (.bool true)], args := [d] }
  | _ => none }
def fnEarOpenRow : OpenClaim := { program := "ytgeonpciodepgaa", sum := "863084f4c392543dc04abcc529290842cf4282d10f08c7fa6b415ff73c44f761", func := "loop.example/osier/laws.FnEarOpen", spec := "fnEarOpen", unfollowed := true, recurses := true, plainKeys := false, apart := false }
def FnEarOpenSaid : Prop := fnEarOpenRow.holds Try.pinned (OpenSpec.ofChange fnEarOpenSpec)

/-- ITS FALSE NEIGHBOUR: 'it returns false'. Refute it at one input. -/
def fnEarOpenWrong : ChangeSpec := { name := "fnEarOpen", fn := fun _ => fun
  | [d] => { results := [.lit (.bool false)], args := [d] }
  | _ => none }
def FnEarOpenWrongFalsely : Prop := fnEarOpenRow.holds Try.pinned (OpenSpec.ofChange fnEarOpenWrong)

/- THE SECOND FORM. 'bulk': how many values and letters a reading holds, each counted each time it is reached (what is shared counts as often as it is met; a slice's spare places count too). A statement '..UptoSaid' is the law's where the arguments, and the package variables that the reading takes, are together of bulk at most 1048576: NARROWER than '..Said'. Prove '..Said' where nothing that the law and all that it calls make is longer than what came in: it says more and counts as full. Else prove '..UptoSaid'. A law counts once. -/
mutual
def uptoBulk {H : Type} : DataW H → Nat
  | .lit (.string bytes) => bytes.length + 1
  | .lit _ => 1
  | .nil => 1
  | .ptr d => uptoBulk d + 1
  | .slice elems spare => uptoBulkAll elems + uptoBulkAll spare + 1
  | .agg parts => uptoBulkAll parts + 1
  | .iface _ d => uptoBulk d + 1
  | .map entries => uptoBulkEntries entries + 1
  | .held _ => 1
def uptoBulkAll {H : Type} : List (DataW H) → Nat
  | [] => 0
  | d :: r => uptoBulk d + uptoBulkAll r
def uptoBulkEntries {H : Type} : List (Lit × DataW H) → Nat
  | [] => 0
  | x :: r => uptoBulkEntry x + uptoBulkEntries r
def uptoBulkEntry {H : Type} : Lit × DataW H → Nat
  | (.string bytes, d) => bytes.length + uptoBulk d + 1
  | (_, d) => uptoBulk d + 1
 end
def uptoSmall : (H : Type) → List (DataW H) → Bool := fun _ ds => decide (uptoBulkAll ds ≤ 1048576)
def OpenSpec.upto (s : _root_.Go.ChangeSpec) : _root_.Go.OpenSpec := { _root_.Go.OpenSpec.ofChange s with cond := some uptoSmall }

/-- 'laws.FnExactEarOk', WHERE WHAT IT READS IS OF BULK AT MOST 1048576: true; the input reads as it did. -/
def fnExactEarOkUptoRow : OpenClaim := { program := "ytgeonpciodepgaa", sum := "863084f4c392543dc04abcc529290842cf4282d10f08c7fa6b415ff73c44f761", func := "loop.example/osier/laws.FnExactEarOk", spec := "fnExactEarOk", plainKeys := false, apart := false, narrowed := true }
def FnExactEarOkUptoSaid : Prop := fnExactEarOkUptoRow.holds Try.pinned (OpenSpec.upto fnExactEarOkSpec)

/-- 'laws.FnExactEarOf', WHERE WHAT IT READS IS OF BULK AT MOST 1048576: true; the input reads as it did. -/
def fnExactEarOfUptoRow : OpenClaim := { program := "ytgeonpciodepgaa", sum := "863084f4c392543dc04abcc529290842cf4282d10f08c7fa6b415ff73c44f761", func := "loop.example/osier/laws.FnExactEarOf", spec := "fnExactEarOf", unfollowed := true, recurses := true, plainKeys := false, apart := false, narrowed := true }
def FnExactEarOfUptoSaid : Prop := fnExactEarOfUptoRow.holds Try.pinned (OpenSpec.upto fnExactEarOfSpec)

/-- 'laws.FnEarCount', WHERE WHAT IT READS IS OF BULK AT MOST 1048576: true; the input reads as it did. -/
def fnEarCountUptoRow : OpenClaim := { program := "ytgeonpciodepgaa", sum := "863084f4c392543dc04abcc529290842cf4282d10f08c7fa6b415ff73c44f761", func := "loop.example/osier/laws.FnEarCount", spec := "fnEarCount", plainKeys := false, apart := false, narrowed := true }
def FnEarCountUptoSaid : Prop := fnEarCountUptoRow.holds Try.pinned (OpenSpec.upto fnEarCountSpec)

/-- 'laws.FnEarTurn', WHERE WHAT IT READS IS OF BULK AT MOST 1048576: true; the input reads as it did. -/
def fnEarTurnUptoRow : OpenClaim := { program := "ytgeonpciodepgaa", sum := "863084f4c392543dc04abcc529290842cf4282d10f08c7fa6b415ff73c44f761", func := "loop.example/osier/laws.FnEarTurn", spec := "fnEarTurn", plainKeys := false, apart := false, narrowed := true }
def FnEarTurnUptoSaid : Prop := fnEarTurnUptoRow.holds Try.pinned (OpenSpec.upto fnEarTurnSpec)

/-- 'laws.FnEarSome', WHERE WHAT IT READS IS OF BULK AT MOST 1048576: true; the input reads as it did. -/
def fnEarSomeUptoRow : OpenClaim := { program := "ytgeonpciodepgaa", sum := "863084f4c392543dc04abcc529290842cf4282d10f08c7fa6b415ff73c44f761", func := "loop.example/osier/laws.FnEarSome", spec := "fnEarSome", unfollowed := true, recurses := true, plainKeys := false, apart := false, narrowed := true }
def FnEarSomeUptoSaid : Prop := fnEarSomeUptoRow.holds Try.pinned (OpenSpec.upto fnEarSomeSpec)

/-- 'laws.FnEarFirst', WHERE WHAT IT READS IS OF BULK AT MOST 1048576: true; the input reads as it did. -/
def fnEarFirstUptoRow : OpenClaim := { program := "ytgeonpciodepgaa", sum := "863084f4c392543dc04abcc529290842cf4282d10f08c7fa6b415ff73c44f761", func := "loop.example/osier/laws.FnEarFirst", spec := "fnEarFirst", unfollowed := true, recurses := true, plainKeys := false, apart := false, narrowed := true }
def FnEarFirstUptoSaid : Prop := fnEarFirstUptoRow.holds Try.pinned (OpenSpec.upto fnEarFirstSpec)

/-- 'laws.FnEarOf', WHERE WHAT IT READS IS OF BULK AT MOST 1048576: true; the input reads as it did. -/
def fnEarOfUptoRow : OpenClaim := { program := "ytgeonpciodepgaa", sum := "863084f4c392543dc04abcc529290842cf4282d10f08c7fa6b415ff73c44f761", func := "loop.example/osier/laws.FnEarOf", spec := "fnEarOf", unfollowed := true, recurses := true, plainKeys := false, apart := false, narrowed := true }
def FnEarOfUptoSaid : Prop := fnEarOfUptoRow.holds Try.pinned (OpenSpec.upto fnEarOfSpec)

/-- 'laws.FnEarBridge', WHERE WHAT IT READS IS OF BULK AT MOST 1048576: true; the input reads as it did. -/
def fnEarBridgeUptoRow : OpenClaim := { program := "ytgeonpciodepgaa", sum := "863084f4c392543dc04abcc529290842cf4282d10f08c7fa6b415ff73c44f761", func := "loop.example/osier/laws.FnEarBridge", spec := "fnEarBridge", plainKeys := false, apart := false, narrowed := true }
def FnEarBridgeUptoSaid : Prop := fnEarBridgeUptoRow.holds Try.pinned (OpenSpec.upto fnEarBridgeSpec)

/-- 'laws.FnEarAhead', WHERE WHAT IT READS IS OF BULK AT MOST 1048576: true; the input reads as it did. -/
def fnEarAheadUptoRow : OpenClaim := { program := "ytgeonpciodepgaa", sum := "863084f4c392543dc04abcc529290842cf4282d10f08c7fa6b415ff73c44f761", func := "loop.example/osier/laws.FnEarAhead", spec := "fnEarAhead", unfollowed := true, recurses := true, plainKeys := false, apart := false, narrowed := true }
def FnEarAheadUptoSaid : Prop := fnEarAheadUptoRow.holds Try.pinned (OpenSpec.upto fnEarAheadSpec)

/-- 'laws.FnEarBlock', WHERE WHAT IT READS IS OF BULK AT MOST 1048576: true; the input reads as it did. -/
def fnEarBlockUptoRow : OpenClaim := { program := "ytgeonpciodepgaa", sum := "863084f4c392543dc04abcc529290842cf4282d10f08c7fa6b415ff73c44f761", func := "loop.example/osier/laws.FnEarBlock", spec := "fnEarBlock", unfollowed := true, recurses := true, plainKeys := false, apart := false, narrowed := true }
def FnEarBlockUptoSaid : Prop := fnEarBlockUptoRow.holds Try.pinned (OpenSpec.upto fnEarBlockSpec)

/-- 'laws.FnEarOpen', WHERE WHAT IT READS IS OF BULK AT MOST 1048576: true; the input reads as it did. -/
def fnEarOpenUptoRow : OpenClaim := { program := "ytgeonpciodepgaa", sum := "863084f4c392543dc04abcc529290842cf4282d10f08c7fa6b415ff73c44f761", func := "loop.example/osier/laws.FnEarOpen", spec := "fnEarOpen", unfollowed := true, recurses := true, plainKeys := false, apart := false, narrowed := true }
def FnEarOpenUptoSaid : Prop := fnEarOpenUptoRow.holds Try.pinned (OpenSpec.upto fnEarOpenSpec)

end Rows
end Go.Proofs.Ytgeonpciodepgaa
