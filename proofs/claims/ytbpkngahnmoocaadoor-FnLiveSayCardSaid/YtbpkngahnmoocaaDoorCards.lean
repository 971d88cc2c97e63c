/-
  DERIVED. GIVEN WITH THE SEED: THE CARDS: each row of YtbpkngahnmoocaaDoorRows.lean that lists a variable, with what it lists TIED to the program's text (the seventh form; the later family's looks); each row that meets fmt, with fmt's text TOLD by the authors' own Lean function (tested against real Go, not proved from fmt's source: count such statements apart). THE CARD IS WHAT COUNTS. Prove the row's statement (the work); the ties are given (YtbpkngahnmoocaaDoorTie.lean); close each card by the builder's one call (the guide's Derived/Test/ToyasCard.lean, 'card_holds'). Laid BY PROGRAM, IN A SANDBOX (cutbox-door.mjs). By AI agents, Wed Nov 11 2026. No macro, syntax, notation, axiom, sorry.
-/
import Derived.Test.YtbpkngahnmoocaaDoorRows
import GoSem.ClaimSeven
namespace Go.Proofs.YtbpkngahnmoocaaDoor
namespace Rows

/-- THE TIED CARD OF 'laws.FnExactLiveSay'. -/
def fnExactLiveSayCard : Claim7 := { stood := { row := fnExactLiveSayRow, standIns := [], harness := (true, "a3b2f46656d759cf35fe1cedb7cb34e4e545e4ca90c26ffa8f819792d5fff65c"), looks := false }, kinds := [], alts := [], laidByText := true, laidKinds := [.data, .data, .data], laidTests := true, laidLooks := .later }
def FnExactLiveSayCardSaid : Prop := Claim7.holds Tryd.pinned (.plain (OpenSpec.ofChange fnExactLiveSaySpec)) fnExactLiveSayCard

/-- THE TIED CARD OF 'laws.FnLiveSay'. -/
def fnLiveSayCard : Claim7 := { stood := { row := fnLiveSayRow, standIns := [], harness := (true, "a3b2f46656d759cf35fe1cedb7cb34e4e545e4ca90c26ffa8f819792d5fff65c"), looks := false }, kinds := [], alts := [], laidByText := true, laidKinds := [.data, .data, .data], laidTests := true, laidLooks := .later }
def FnLiveSayCardSaid : Prop := Claim7.holds Tryd.pinned (.plain (OpenSpec.ofChange fnLiveSaySpec)) fnLiveSayCard

/-- THE SECOND FORM's CARD OF 'laws.FnExactLiveSay'. -/
def fnExactLiveSayUptoCard : Claim7 := { stood := { row := fnExactLiveSayUptoRow, standIns := [], harness := (true, "a3b2f46656d759cf35fe1cedb7cb34e4e545e4ca90c26ffa8f819792d5fff65c"), looks := false }, kinds := [], alts := [], laidByText := true, laidKinds := [.data, .data, .data], laidTests := true, laidLooks := .later }
def FnExactLiveSayUptoCardSaid : Prop := Claim7.holds Tryd.pinned (.plain (OpenSpec.upto fnExactLiveSaySpec)) fnExactLiveSayUptoCard

/-- THE SECOND FORM's CARD OF 'laws.FnLiveSay'. -/
def fnLiveSayUptoCard : Claim7 := { stood := { row := fnLiveSayUptoRow, standIns := [], harness := (true, "a3b2f46656d759cf35fe1cedb7cb34e4e545e4ca90c26ffa8f819792d5fff65c"), looks := false }, kinds := [], alts := [], laidByText := true, laidKinds := [.data, .data, .data], laidTests := true, laidLooks := .later }
def FnLiveSayUptoCardSaid : Prop := Claim7.holds Tryd.pinned (.plain (OpenSpec.upto fnLiveSaySpec)) fnLiveSayUptoCard
end Rows
end Go.Proofs.YtbpkngahnmoocaaDoor
