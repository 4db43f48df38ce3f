/-
  DERIVED. GIVEN WITH THE SEED: THE CARDS: each row of YtojedbogbodkiaaDoorRows.lean that lists a variable, with what it lists TIED to the program's text (the seventh form; the later family's looks); each row that meets fmt, with fmt's text TOLD by the authors' own Lean function (tested against real Go, not proved from fmt's source: count such statements apart). THE CARD IS WHAT COUNTS. Prove the row's statement (the work); the ties are given (YtojedbogbodkiaaDoorTie.lean); close each card by the builder's one call (the guide's Derived/Test/ToyasCard.lean, 'card_holds'). Laid BY PROGRAM, IN A SANDBOX (cutbox-door.mjs). By AI agents, Wed Nov 11 2026. No macro, syntax, notation, axiom, sorry.
-/
import Derived.Test.YtojedbogbodkiaaDoorRows
import GoSem.ClaimSeven
namespace Go.Proofs.YtojedbogbodkiaaDoor
namespace Rows

/-- THE TIED CARD OF 'laws.FnExactPredOf'. -/
def fnExactPredOfCard : Claim7 := { stood := { row := fnExactPredOfRow, standIns := [], harness := (true, "c4978d47bdefe7d7468aeeb52073e60a2e069dbb8932f037953fc8e58d702588"), looks := false }, kinds := [], alts := [], laidByText := true, laidKinds := [.data, .data, .data], laidTests := true, laidLooks := .later }
def FnExactPredOfCardSaid : Prop := Claim7.holds Tryd.pinned (.plain (OpenSpec.ofChange fnExactPredOfSpec)) fnExactPredOfCard

/-- THE TIED CARD OF 'laws.FnExactKnown'. -/
def fnExactKnownCard : Claim7 := { stood := { row := fnExactKnownRow, standIns := [], harness := (true, "c4978d47bdefe7d7468aeeb52073e60a2e069dbb8932f037953fc8e58d702588"), looks := false }, kinds := [], alts := [], laidByText := true, laidKinds := [.data, .data, .data], laidTests := true, laidLooks := .later }
def FnExactKnownCardSaid : Prop := Claim7.holds Tryd.pinned (.plain (OpenSpec.ofChange fnExactKnownSpec)) fnExactKnownCard

/-- THE TIED CARD OF 'laws.FnExactDbOk'. -/
def fnExactDbOkCard : Claim7 := { stood := { row := fnExactDbOkRow, standIns := [], harness := (true, "c4978d47bdefe7d7468aeeb52073e60a2e069dbb8932f037953fc8e58d702588"), looks := false }, kinds := [], alts := [], laidByText := true, laidKinds := [.data, .data, .data], laidTests := true, laidLooks := .later }
def FnExactDbOkCardSaid : Prop := Claim7.holds Tryd.pinned (.plain (OpenSpec.ofChange fnExactDbOkSpec)) fnExactDbOkCard

/-- THE TIED CARD OF 'laws.FnExactClauseOf'. -/
def fnExactClauseOfCard : Claim7 := { stood := { row := fnExactClauseOfRow, standIns := [], harness := (true, "c4978d47bdefe7d7468aeeb52073e60a2e069dbb8932f037953fc8e58d702588"), looks := false }, kinds := [], alts := [], laidByText := true, laidKinds := [.data, .data, .data], laidTests := true, laidLooks := .later }
def FnExactClauseOfCardSaid : Prop := Claim7.holds Tryd.pinned (.plain (OpenSpec.ofChange fnExactClauseOfSpec)) fnExactClauseOfCard

/-- THE TIED CARD OF 'laws.FnExactClausesOf'. -/
def fnExactClausesOfCard : Claim7 := { stood := { row := fnExactClausesOfRow, standIns := [], harness := (true, "c4978d47bdefe7d7468aeeb52073e60a2e069dbb8932f037953fc8e58d702588"), looks := false }, kinds := [], alts := [], laidByText := true, laidKinds := [.data, .data, .data], laidTests := true, laidLooks := .later }
def FnExactClausesOfCardSaid : Prop := Claim7.holds Tryd.pinned (.plain (OpenSpec.ofChange fnExactClausesOfSpec)) fnExactClausesOfCard

/-- THE TIED CARD OF 'laws.FnExactAdded'. -/
def fnExactAddedCard : Claim7 := { stood := { row := fnExactAddedRow, standIns := [], harness := (true, "c4978d47bdefe7d7468aeeb52073e60a2e069dbb8932f037953fc8e58d702588"), looks := false }, kinds := [], alts := [], laidByText := true, laidKinds := [.data, .data, .data], laidTests := true, laidLooks := .later }
def FnExactAddedCardSaid : Prop := Claim7.holds Tryd.pinned (.plain (OpenSpec.ofChange fnExactAddedSpec)) fnExactAddedCard

/-- THE TIED CARD OF 'laws.FnExactGrammarOf'. -/
def fnExactGrammarOfCard : Claim7 := { stood := { row := fnExactGrammarOfRow, standIns := [], harness := (true, "c4978d47bdefe7d7468aeeb52073e60a2e069dbb8932f037953fc8e58d702588"), looks := false }, kinds := [], alts := [], laidByText := true, laidKinds := [.data, .data, .data], laidTests := true, laidLooks := .later }
def FnExactGrammarOfCardSaid : Prop := Claim7.holds Tryd.pinned (.plain (OpenSpec.ofChange fnExactGrammarOfSpec)) fnExactGrammarOfCard

/-- THE SECOND FORM's CARD OF 'laws.FnExactPredOf'. -/
def fnExactPredOfUptoCard : Claim7 := { stood := { row := fnExactPredOfUptoRow, standIns := [], harness := (true, "c4978d47bdefe7d7468aeeb52073e60a2e069dbb8932f037953fc8e58d702588"), looks := false }, kinds := [], alts := [], laidByText := true, laidKinds := [.data, .data, .data], laidTests := true, laidLooks := .later }
def FnExactPredOfUptoCardSaid : Prop := Claim7.holds Tryd.pinned (.plain (OpenSpec.upto fnExactPredOfSpec)) fnExactPredOfUptoCard

/-- THE SECOND FORM's CARD OF 'laws.FnExactKnown'. -/
def fnExactKnownUptoCard : Claim7 := { stood := { row := fnExactKnownUptoRow, standIns := [], harness := (true, "c4978d47bdefe7d7468aeeb52073e60a2e069dbb8932f037953fc8e58d702588"), looks := false }, kinds := [], alts := [], laidByText := true, laidKinds := [.data, .data, .data], laidTests := true, laidLooks := .later }
def FnExactKnownUptoCardSaid : Prop := Claim7.holds Tryd.pinned (.plain (OpenSpec.upto fnExactKnownSpec)) fnExactKnownUptoCard

/-- THE SECOND FORM's CARD OF 'laws.FnExactDbOk'. -/
def fnExactDbOkUptoCard : Claim7 := { stood := { row := fnExactDbOkUptoRow, standIns := [], harness := (true, "c4978d47bdefe7d7468aeeb52073e60a2e069dbb8932f037953fc8e58d702588"), looks := false }, kinds := [], alts := [], laidByText := true, laidKinds := [.data, .data, .data], laidTests := true, laidLooks := .later }
def FnExactDbOkUptoCardSaid : Prop := Claim7.holds Tryd.pinned (.plain (OpenSpec.upto fnExactDbOkSpec)) fnExactDbOkUptoCard

/-- THE SECOND FORM's CARD OF 'laws.FnExactClauseOf'. -/
def fnExactClauseOfUptoCard : Claim7 := { stood := { row := fnExactClauseOfUptoRow, standIns := [], harness := (true, "c4978d47bdefe7d7468aeeb52073e60a2e069dbb8932f037953fc8e58d702588"), looks := false }, kinds := [], alts := [], laidByText := true, laidKinds := [.data, .data, .data], laidTests := true, laidLooks := .later }
def FnExactClauseOfUptoCardSaid : Prop := Claim7.holds Tryd.pinned (.plain (OpenSpec.upto fnExactClauseOfSpec)) fnExactClauseOfUptoCard

/-- THE SECOND FORM's CARD OF 'laws.FnExactClausesOf'. -/
def fnExactClausesOfUptoCard : Claim7 := { stood := { row := fnExactClausesOfUptoRow, standIns := [], harness := (true, "c4978d47bdefe7d7468aeeb52073e60a2e069dbb8932f037953fc8e58d702588"), looks := false }, kinds := [], alts := [], laidByText := true, laidKinds := [.data, .data, .data], laidTests := true, laidLooks := .later }
def FnExactClausesOfUptoCardSaid : Prop := Claim7.holds Tryd.pinned (.plain (OpenSpec.upto fnExactClausesOfSpec)) fnExactClausesOfUptoCard

/-- THE SECOND FORM's CARD OF 'laws.FnExactAdded'. -/
def fnExactAddedUptoCard : Claim7 := { stood := { row := fnExactAddedUptoRow, standIns := [], harness := (true, "c4978d47bdefe7d7468aeeb52073e60a2e069dbb8932f037953fc8e58d702588"), looks := false }, kinds := [], alts := [], laidByText := true, laidKinds := [.data, .data, .data], laidTests := true, laidLooks := .later }
def FnExactAddedUptoCardSaid : Prop := Claim7.holds Tryd.pinned (.plain (OpenSpec.upto fnExactAddedSpec)) fnExactAddedUptoCard

/-- THE SECOND FORM's CARD OF 'laws.FnExactGrammarOf'. -/
def fnExactGrammarOfUptoCard : Claim7 := { stood := { row := fnExactGrammarOfUptoRow, standIns := [], harness := (true, "c4978d47bdefe7d7468aeeb52073e60a2e069dbb8932f037953fc8e58d702588"), looks := false }, kinds := [], alts := [], laidByText := true, laidKinds := [.data, .data, .data], laidTests := true, laidLooks := .later }
def FnExactGrammarOfUptoCardSaid : Prop := Claim7.holds Tryd.pinned (.plain (OpenSpec.upto fnExactGrammarOfSpec)) fnExactGrammarOfUptoCard
end Rows
end Go.Proofs.YtojedbogbodkiaaDoor
