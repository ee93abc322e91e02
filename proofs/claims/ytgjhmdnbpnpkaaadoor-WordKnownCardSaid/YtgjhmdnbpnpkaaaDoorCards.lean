/-
  DERIVED. GIVEN WITH THE SEED: THE CARDS: each row of YtgjhmdnbpnpkaaaDoorRows.lean that lists a variable, with what it lists TIED to the program's text (the seventh form; the later family's looks); each row that meets fmt, with fmt's text TOLD by the authors' own Lean function (tested against real Go, not proved from fmt's source: count such statements apart). THE CARD IS WHAT COUNTS. Prove the row's statement (the work); the ties are given (YtgjhmdnbpnpkaaaDoorTie.lean); close each card by the builder's one call (the guide's Derived/Test/ToyasCard.lean, 'card_holds'). Laid BY PROGRAM, IN A SANDBOX (cutbox-door.mjs). By AI agents, Wed Nov 11 2026. No macro, syntax, notation, axiom, sorry.
-/
import Derived.Test.YtgjhmdnbpnpkaaaDoorRows
import GoSem.ClaimSeven
namespace Go.Proofs.YtgjhmdnbpnpkaaaDoor
namespace Rows

/-- THE TIED CARD OF 'proofmarklaw01.WordMoves'. -/
def wordMovesCard : Claim7 := { stood := { row := wordMovesRow, standIns := [], harness := (true, "696713787233a835e5407259f1825112b0300a97454ee70608080f880f6d708a"), looks := false }, kinds := [], alts := [], laidByText := true, laidKinds := [.data], laidTests := true, laidLooks := .later }
def WordMovesCardSaid : Prop := Claim7.holds Tryd.pinned (.plain (OpenSpec.ofChange wordMovesSpec)) wordMovesCard

/-- THE TIED CARD OF 'proofmarklaw01.WordOrder'. -/
def wordOrderCard : Claim7 := { stood := { row := wordOrderRow, standIns := [], harness := (true, "696713787233a835e5407259f1825112b0300a97454ee70608080f880f6d708a"), looks := false }, kinds := [], alts := [], laidByText := true, laidKinds := [.data], laidTests := true, laidLooks := .later }
def WordOrderCardSaid : Prop := Claim7.holds Tryd.pinned (.plain (OpenSpec.ofChange wordOrderSpec)) wordOrderCard

/-- THE TIED CARD OF 'proofmarklaw01.WordDo'. -/
def wordDoCard : Claim7 := { stood := { row := wordDoRow, standIns := [], harness := (true, "696713787233a835e5407259f1825112b0300a97454ee70608080f880f6d708a"), looks := false }, kinds := [], alts := [], laidByText := true, laidKinds := [.data], laidTests := true, laidLooks := .later }
def WordDoCardSaid : Prop := Claim7.holds Tryd.pinned (.plain (OpenSpec.ofChange wordDoSpec)) wordDoCard

/-- THE TIED CARD OF 'proofmarklaw01.WordFacts'. -/
def wordFactsCard : Claim7 := { stood := { row := wordFactsRow, standIns := [], harness := (true, "696713787233a835e5407259f1825112b0300a97454ee70608080f880f6d708a"), looks := false }, kinds := [], alts := [], laidByText := true, laidKinds := [.data], laidTests := true, laidLooks := .later }
def WordFactsCardSaid : Prop := Claim7.holds Tryd.pinned (.plain (OpenSpec.ofChange wordFactsSpec)) wordFactsCard

/-- THE TIED CARD OF 'proofmarklaw01.WordLaws'. -/
def wordLawsCard : Claim7 := { stood := { row := wordLawsRow, standIns := [], harness := (true, "696713787233a835e5407259f1825112b0300a97454ee70608080f880f6d708a"), looks := false }, kinds := [], alts := [], laidByText := true, laidKinds := [.data], laidTests := true, laidLooks := .later }
def WordLawsCardSaid : Prop := Claim7.holds Tryd.pinned (.plain (OpenSpec.ofChange wordLawsSpec)) wordLawsCard

/-- THE TIED CARD OF 'proofmarklaw01.WordAll'. -/
def wordAllCard : Claim7 := { stood := { row := wordAllRow, standIns := [], harness := (true, "696713787233a835e5407259f1825112b0300a97454ee70608080f880f6d708a"), looks := false }, kinds := [], alts := [], laidByText := true, laidKinds := [.data], laidTests := true, laidLooks := .later }
def WordAllCardSaid : Prop := Claim7.holds Tryd.pinned (.plain (OpenSpec.ofChange wordAllSpec)) wordAllCard

/-- THE TIED CARD OF 'proofmarklaw01.WordKnown'. -/
def wordKnownCard : Claim7 := { stood := { row := wordKnownRow, standIns := [], harness := (true, "696713787233a835e5407259f1825112b0300a97454ee70608080f880f6d708a"), looks := false }, kinds := [], alts := [], laidByText := true, laidKinds := [.data], laidTests := true, laidLooks := .later }
def WordKnownCardSaid : Prop := Claim7.holds Tryd.pinned (.plain (OpenSpec.ofChange wordKnownSpec)) wordKnownCard

/-- THE SECOND FORM's CARD OF 'proofmarklaw01.WordMoves'. -/
def wordMovesUptoCard : Claim7 := { stood := { row := wordMovesUptoRow, standIns := [], harness := (true, "696713787233a835e5407259f1825112b0300a97454ee70608080f880f6d708a"), looks := false }, kinds := [], alts := [], laidByText := true, laidKinds := [.data], laidTests := true, laidLooks := .later }
def WordMovesUptoCardSaid : Prop := Claim7.holds Tryd.pinned (.plain (OpenSpec.upto wordMovesSpec)) wordMovesUptoCard

/-- THE SECOND FORM's CARD OF 'proofmarklaw01.WordOrder'. -/
def wordOrderUptoCard : Claim7 := { stood := { row := wordOrderUptoRow, standIns := [], harness := (true, "696713787233a835e5407259f1825112b0300a97454ee70608080f880f6d708a"), looks := false }, kinds := [], alts := [], laidByText := true, laidKinds := [.data], laidTests := true, laidLooks := .later }
def WordOrderUptoCardSaid : Prop := Claim7.holds Tryd.pinned (.plain (OpenSpec.upto wordOrderSpec)) wordOrderUptoCard

/-- THE SECOND FORM's CARD OF 'proofmarklaw01.WordDo'. -/
def wordDoUptoCard : Claim7 := { stood := { row := wordDoUptoRow, standIns := [], harness := (true, "696713787233a835e5407259f1825112b0300a97454ee70608080f880f6d708a"), looks := false }, kinds := [], alts := [], laidByText := true, laidKinds := [.data], laidTests := true, laidLooks := .later }
def WordDoUptoCardSaid : Prop := Claim7.holds Tryd.pinned (.plain (OpenSpec.upto wordDoSpec)) wordDoUptoCard

/-- THE SECOND FORM's CARD OF 'proofmarklaw01.WordFacts'. -/
def wordFactsUptoCard : Claim7 := { stood := { row := wordFactsUptoRow, standIns := [], harness := (true, "696713787233a835e5407259f1825112b0300a97454ee70608080f880f6d708a"), looks := false }, kinds := [], alts := [], laidByText := true, laidKinds := [.data], laidTests := true, laidLooks := .later }
def WordFactsUptoCardSaid : Prop := Claim7.holds Tryd.pinned (.plain (OpenSpec.upto wordFactsSpec)) wordFactsUptoCard

/-- THE SECOND FORM's CARD OF 'proofmarklaw01.WordLaws'. -/
def wordLawsUptoCard : Claim7 := { stood := { row := wordLawsUptoRow, standIns := [], harness := (true, "696713787233a835e5407259f1825112b0300a97454ee70608080f880f6d708a"), looks := false }, kinds := [], alts := [], laidByText := true, laidKinds := [.data], laidTests := true, laidLooks := .later }
def WordLawsUptoCardSaid : Prop := Claim7.holds Tryd.pinned (.plain (OpenSpec.upto wordLawsSpec)) wordLawsUptoCard

/-- THE SECOND FORM's CARD OF 'proofmarklaw01.WordAll'. -/
def wordAllUptoCard : Claim7 := { stood := { row := wordAllUptoRow, standIns := [], harness := (true, "696713787233a835e5407259f1825112b0300a97454ee70608080f880f6d708a"), looks := false }, kinds := [], alts := [], laidByText := true, laidKinds := [.data], laidTests := true, laidLooks := .later }
def WordAllUptoCardSaid : Prop := Claim7.holds Tryd.pinned (.plain (OpenSpec.upto wordAllSpec)) wordAllUptoCard

/-- THE SECOND FORM's CARD OF 'proofmarklaw01.WordKnown'. -/
def wordKnownUptoCard : Claim7 := { stood := { row := wordKnownUptoRow, standIns := [], harness := (true, "696713787233a835e5407259f1825112b0300a97454ee70608080f880f6d708a"), looks := false }, kinds := [], alts := [], laidByText := true, laidKinds := [.data], laidTests := true, laidLooks := .later }
def WordKnownUptoCardSaid : Prop := Claim7.holds Tryd.pinned (.plain (OpenSpec.upto wordKnownSpec)) wordKnownUptoCard
end Rows
end Go.Proofs.YtgjhmdnbpnpkaaaDoor
