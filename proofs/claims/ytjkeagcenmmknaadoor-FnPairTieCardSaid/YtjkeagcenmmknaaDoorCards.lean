/-
  DERIVED. GIVEN WITH THE SEED: THE CARDS: each row of YtjkeagcenmmknaaDoorRows.lean that lists a variable, with what it lists TIED to the program's text (the seventh form; the later family's looks); each row that meets fmt, with fmt's text TOLD by the authors' own Lean function (tested against real Go, not proved from fmt's source: count such statements apart). THE CARD IS WHAT COUNTS. Prove the row's statement (the work); the ties are given (YtjkeagcenmmknaaDoorTie.lean); close each card by the builder's one call (the guide's Derived/Test/ToyasCard.lean, 'card_holds'). Laid BY PROGRAM, IN A SANDBOX (cutbox-door.mjs). By AI agents, Wed Nov 11 2026. No macro, syntax, notation, axiom, sorry.
-/
import Derived.Test.YtjkeagcenmmknaaDoorRows
import GoSem.ClaimSeven
namespace Go.Proofs.YtjkeagcenmmknaaDoor
namespace Rows

/-- THE TIED CARD OF 'laws.FnExactPairSize'. -/
def fnExactPairSizeCard : Claim7 := { stood := { row := fnExactPairSizeRow, standIns := [], harness := (true, "dc863de6b5625c489ab5724d909683d59822d2727f53e89de00da947239c6673"), looks := false }, kinds := [], alts := [], laidByText := true, laidKinds := [.data, .data], laidTests := true, laidLooks := .later }
def FnExactPairSizeCardSaid : Prop := Claim7.holds Tryd.pinned (.plain (OpenSpec.ofChange fnExactPairSizeSpec)) fnExactPairSizeCard

/-- THE TIED CARD OF 'laws.FnExactPairOf'. -/
def fnExactPairOfCard : Claim7 := { stood := { row := fnExactPairOfRow, standIns := [], harness := (true, "dc863de6b5625c489ab5724d909683d59822d2727f53e89de00da947239c6673"), looks := false }, kinds := [], alts := [], laidByText := true, laidKinds := [.data, .data], laidTests := true, laidLooks := .later }
def FnExactPairOfCardSaid : Prop := Claim7.holds Tryd.pinned (.plain (OpenSpec.ofChange fnExactPairOfSpec)) fnExactPairOfCard

/-- THE TIED CARD OF 'laws.FnExactPairWhy'. -/
def fnExactPairWhyCard : Claim7 := { stood := { row := fnExactPairWhyRow, standIns := [], harness := (true, "dc863de6b5625c489ab5724d909683d59822d2727f53e89de00da947239c6673"), looks := false }, kinds := [], alts := [], laidByText := true, laidKinds := [.data, .data], laidTests := true, laidLooks := .later }
def FnExactPairWhyCardSaid : Prop := Claim7.holds Tryd.pinned (.plain (OpenSpec.ofChange fnExactPairWhySpec)) fnExactPairWhyCard

/-- THE TIED CARD OF 'laws.FnPairHalf'. -/
def fnPairHalfCard : Claim7 := { stood := { row := fnPairHalfRow, standIns := [], harness := (true, "dc863de6b5625c489ab5724d909683d59822d2727f53e89de00da947239c6673"), looks := false }, kinds := [], alts := [], laidByText := true, laidKinds := [.data, .data], laidTests := true, laidLooks := .later }
def FnPairHalfCardSaid : Prop := Claim7.holds Tryd.pinned (.plain (OpenSpec.ofChange fnPairHalfSpec)) fnPairHalfCard

/-- THE TIED CARD OF 'laws.FnPairKnot'. -/
def fnPairKnotCard : Claim7 := { stood := { row := fnPairKnotRow, standIns := [], harness := (true, "dc863de6b5625c489ab5724d909683d59822d2727f53e89de00da947239c6673"), looks := false }, kinds := [], alts := [], laidByText := true, laidKinds := [.data, .data], laidTests := true, laidLooks := .later }
def FnPairKnotCardSaid : Prop := Claim7.holds Tryd.pinned (.plain (OpenSpec.ofChange fnPairKnotSpec)) fnPairKnotCard

/-- THE TIED CARD OF 'laws.FnPairFull'. -/
def fnPairFullCard : Claim7 := { stood := { row := fnPairFullRow, standIns := [], harness := (true, "dc863de6b5625c489ab5724d909683d59822d2727f53e89de00da947239c6673"), looks := false }, kinds := [], alts := [], laidByText := true, laidKinds := [.data, .data], laidTests := true, laidLooks := .later }
def FnPairFullCardSaid : Prop := Claim7.holds Tryd.pinned (.plain (OpenSpec.ofChange fnPairFullSpec)) fnPairFullCard

/-- THE TIED CARD OF 'laws.FnPairOf'. -/
def fnPairOfCard : Claim7 := { stood := { row := fnPairOfRow, standIns := [], harness := (true, "dc863de6b5625c489ab5724d909683d59822d2727f53e89de00da947239c6673"), looks := false }, kinds := [], alts := [], laidByText := true, laidKinds := [.data, .data], laidTests := true, laidLooks := .later }
def FnPairOfCardSaid : Prop := Claim7.holds Tryd.pinned (.plain (OpenSpec.ofChange fnPairOfSpec)) fnPairOfCard

/-- THE TIED CARD OF 'laws.FnPairFirst'. -/
def fnPairFirstCard : Claim7 := { stood := { row := fnPairFirstRow, standIns := [], harness := (true, "dc863de6b5625c489ab5724d909683d59822d2727f53e89de00da947239c6673"), looks := false }, kinds := [], alts := [], laidByText := true, laidKinds := [.data, .data], laidTests := true, laidLooks := .later }
def FnPairFirstCardSaid : Prop := Claim7.holds Tryd.pinned (.plain (OpenSpec.ofChange fnPairFirstSpec)) fnPairFirstCard

/-- THE TIED CARD OF 'laws.FnPairTop'. -/
def fnPairTopCard : Claim7 := { stood := { row := fnPairTopRow, standIns := [], harness := (true, "dc863de6b5625c489ab5724d909683d59822d2727f53e89de00da947239c6673"), looks := false }, kinds := [], alts := [], laidByText := true, laidKinds := [.data, .data], laidTests := true, laidLooks := .later }
def FnPairTopCardSaid : Prop := Claim7.holds Tryd.pinned (.plain (OpenSpec.ofChange fnPairTopSpec)) fnPairTopCard

/-- THE TIED CARD OF 'laws.FnPairWhy'. -/
def fnPairWhyCard : Claim7 := { stood := { row := fnPairWhyRow, standIns := [], harness := (true, "dc863de6b5625c489ab5724d909683d59822d2727f53e89de00da947239c6673"), looks := false }, kinds := [], alts := [], laidByText := true, laidKinds := [.data, .data], laidTests := true, laidLooks := .later }
def FnPairWhyCardSaid : Prop := Claim7.holds Tryd.pinned (.plain (OpenSpec.ofChange fnPairWhySpec)) fnPairWhyCard

/-- THE TIED CARD OF 'laws.FnPairTie'. -/
def fnPairTieCard : Claim7 := { stood := { row := fnPairTieRow, standIns := [], harness := (true, "dc863de6b5625c489ab5724d909683d59822d2727f53e89de00da947239c6673"), looks := false }, kinds := [], alts := [], laidByText := true, laidKinds := [.data, .data], laidTests := true, laidLooks := .later }
def FnPairTieCardSaid : Prop := Claim7.holds Tryd.pinned (.plain (OpenSpec.ofChange fnPairTieSpec)) fnPairTieCard

/-- THE SECOND FORM's CARD OF 'laws.FnExactPairSize'. -/
def fnExactPairSizeUptoCard : Claim7 := { stood := { row := fnExactPairSizeUptoRow, standIns := [], harness := (true, "dc863de6b5625c489ab5724d909683d59822d2727f53e89de00da947239c6673"), looks := false }, kinds := [], alts := [], laidByText := true, laidKinds := [.data, .data], laidTests := true, laidLooks := .later }
def FnExactPairSizeUptoCardSaid : Prop := Claim7.holds Tryd.pinned (.plain (OpenSpec.upto fnExactPairSizeSpec)) fnExactPairSizeUptoCard

/-- THE SECOND FORM's CARD OF 'laws.FnExactPairOf'. -/
def fnExactPairOfUptoCard : Claim7 := { stood := { row := fnExactPairOfUptoRow, standIns := [], harness := (true, "dc863de6b5625c489ab5724d909683d59822d2727f53e89de00da947239c6673"), looks := false }, kinds := [], alts := [], laidByText := true, laidKinds := [.data, .data], laidTests := true, laidLooks := .later }
def FnExactPairOfUptoCardSaid : Prop := Claim7.holds Tryd.pinned (.plain (OpenSpec.upto fnExactPairOfSpec)) fnExactPairOfUptoCard

/-- THE SECOND FORM's CARD OF 'laws.FnExactPairWhy'. -/
def fnExactPairWhyUptoCard : Claim7 := { stood := { row := fnExactPairWhyUptoRow, standIns := [], harness := (true, "dc863de6b5625c489ab5724d909683d59822d2727f53e89de00da947239c6673"), looks := false }, kinds := [], alts := [], laidByText := true, laidKinds := [.data, .data], laidTests := true, laidLooks := .later }
def FnExactPairWhyUptoCardSaid : Prop := Claim7.holds Tryd.pinned (.plain (OpenSpec.upto fnExactPairWhySpec)) fnExactPairWhyUptoCard

/-- THE SECOND FORM's CARD OF 'laws.FnPairHalf'. -/
def fnPairHalfUptoCard : Claim7 := { stood := { row := fnPairHalfUptoRow, standIns := [], harness := (true, "dc863de6b5625c489ab5724d909683d59822d2727f53e89de00da947239c6673"), looks := false }, kinds := [], alts := [], laidByText := true, laidKinds := [.data, .data], laidTests := true, laidLooks := .later }
def FnPairHalfUptoCardSaid : Prop := Claim7.holds Tryd.pinned (.plain (OpenSpec.upto fnPairHalfSpec)) fnPairHalfUptoCard

/-- THE SECOND FORM's CARD OF 'laws.FnPairKnot'. -/
def fnPairKnotUptoCard : Claim7 := { stood := { row := fnPairKnotUptoRow, standIns := [], harness := (true, "dc863de6b5625c489ab5724d909683d59822d2727f53e89de00da947239c6673"), looks := false }, kinds := [], alts := [], laidByText := true, laidKinds := [.data, .data], laidTests := true, laidLooks := .later }
def FnPairKnotUptoCardSaid : Prop := Claim7.holds Tryd.pinned (.plain (OpenSpec.upto fnPairKnotSpec)) fnPairKnotUptoCard

/-- THE SECOND FORM's CARD OF 'laws.FnPairFull'. -/
def fnPairFullUptoCard : Claim7 := { stood := { row := fnPairFullUptoRow, standIns := [], harness := (true, "dc863de6b5625c489ab5724d909683d59822d2727f53e89de00da947239c6673"), looks := false }, kinds := [], alts := [], laidByText := true, laidKinds := [.data, .data], laidTests := true, laidLooks := .later }
def FnPairFullUptoCardSaid : Prop := Claim7.holds Tryd.pinned (.plain (OpenSpec.upto fnPairFullSpec)) fnPairFullUptoCard

/-- THE SECOND FORM's CARD OF 'laws.FnPairOf'. -/
def fnPairOfUptoCard : Claim7 := { stood := { row := fnPairOfUptoRow, standIns := [], harness := (true, "dc863de6b5625c489ab5724d909683d59822d2727f53e89de00da947239c6673"), looks := false }, kinds := [], alts := [], laidByText := true, laidKinds := [.data, .data], laidTests := true, laidLooks := .later }
def FnPairOfUptoCardSaid : Prop := Claim7.holds Tryd.pinned (.plain (OpenSpec.upto fnPairOfSpec)) fnPairOfUptoCard

/-- THE SECOND FORM's CARD OF 'laws.FnPairFirst'. -/
def fnPairFirstUptoCard : Claim7 := { stood := { row := fnPairFirstUptoRow, standIns := [], harness := (true, "dc863de6b5625c489ab5724d909683d59822d2727f53e89de00da947239c6673"), looks := false }, kinds := [], alts := [], laidByText := true, laidKinds := [.data, .data], laidTests := true, laidLooks := .later }
def FnPairFirstUptoCardSaid : Prop := Claim7.holds Tryd.pinned (.plain (OpenSpec.upto fnPairFirstSpec)) fnPairFirstUptoCard

/-- THE SECOND FORM's CARD OF 'laws.FnPairTop'. -/
def fnPairTopUptoCard : Claim7 := { stood := { row := fnPairTopUptoRow, standIns := [], harness := (true, "dc863de6b5625c489ab5724d909683d59822d2727f53e89de00da947239c6673"), looks := false }, kinds := [], alts := [], laidByText := true, laidKinds := [.data, .data], laidTests := true, laidLooks := .later }
def FnPairTopUptoCardSaid : Prop := Claim7.holds Tryd.pinned (.plain (OpenSpec.upto fnPairTopSpec)) fnPairTopUptoCard

/-- THE SECOND FORM's CARD OF 'laws.FnPairWhy'. -/
def fnPairWhyUptoCard : Claim7 := { stood := { row := fnPairWhyUptoRow, standIns := [], harness := (true, "dc863de6b5625c489ab5724d909683d59822d2727f53e89de00da947239c6673"), looks := false }, kinds := [], alts := [], laidByText := true, laidKinds := [.data, .data], laidTests := true, laidLooks := .later }
def FnPairWhyUptoCardSaid : Prop := Claim7.holds Tryd.pinned (.plain (OpenSpec.upto fnPairWhySpec)) fnPairWhyUptoCard

/-- THE SECOND FORM's CARD OF 'laws.FnPairTie'. -/
def fnPairTieUptoCard : Claim7 := { stood := { row := fnPairTieUptoRow, standIns := [], harness := (true, "dc863de6b5625c489ab5724d909683d59822d2727f53e89de00da947239c6673"), looks := false }, kinds := [], alts := [], laidByText := true, laidKinds := [.data, .data], laidTests := true, laidLooks := .later }
def FnPairTieUptoCardSaid : Prop := Claim7.holds Tryd.pinned (.plain (OpenSpec.upto fnPairTieSpec)) fnPairTieUptoCard
end Rows
end Go.Proofs.YtjkeagcenmmknaaDoor
