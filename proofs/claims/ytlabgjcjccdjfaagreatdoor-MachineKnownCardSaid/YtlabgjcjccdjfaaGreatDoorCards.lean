/-
  DERIVED. GIVEN WITH THE SEED: THE CARDS: each row of YtlabgjcjccdjfaaGreatDoorRows.lean that lists a variable, with what it lists TIED to the program's text (the seventh form; the later family's looks); each row that meets fmt, with fmt's text TOLD by the authors' own Lean function (tested against real Go, not proved from fmt's source: count such statements apart). THE CARD IS WHAT COUNTS. Prove the row's statement (the work); the ties are given (YtlabgjcjccdjfaaGreatDoorTie.lean); close each card by the builder's one call (the guide's Derived/Test/ToyasCard.lean, 'card_holds'). Laid BY PROGRAM, IN A SANDBOX (cutbox-door.mjs). By AI agents, Wed Nov 11 2026. No macro, syntax, notation, axiom, sorry.
-/
import Derived.Test.YtlabgjcjccdjfaaGreatDoorRows
import GoSem.ClaimSeven
namespace Go.Proofs.YtlabgjcjccdjfaaGreatDoor
namespace Rows

/-- THE TIED CARD OF 'proofmarklaw12.MachineInput'. -/
def machineInputCard : Claim7 := { stood := { row := machineInputRow, standIns := [], harness := (true, "f2b8f0880a658110550d1bb401c41acc054f65dc870758ab7ad6ba63dbeea9eb"), looks := true }, kinds := [], alts := [], laidByText := true, laidKinds := [.handle, .data, .data, .data, .data, .data], laidTests := true, laidLooks := .later }
def MachineInputCardSaid : Prop := Claim7.holds Tryz.pinned (.plain (OpenSpec.ofChange machineInputSpec)) machineInputCard

/-- THE TIED CARD OF 'proofmarklaw12.MachineSplit'. -/
def machineSplitCard : Claim7 := { stood := { row := machineSplitRow, standIns := [], harness := (true, "f2b8f0880a658110550d1bb401c41acc054f65dc870758ab7ad6ba63dbeea9eb"), looks := true }, kinds := [], alts := [], laidByText := true, laidKinds := [.handle, .data, .data, .data, .data, .data], laidTests := true, laidLooks := .later }
def MachineSplitCardSaid : Prop := Claim7.holds Tryz.pinned (.plain (OpenSpec.ofChange machineSplitSpec)) machineSplitCard

/-- THE TIED CARD OF 'proofmarklaw12.MachineKeeps'. -/
def machineKeepsCard : Claim7 := { stood := { row := machineKeepsRow, standIns := [], harness := (true, "f2b8f0880a658110550d1bb401c41acc054f65dc870758ab7ad6ba63dbeea9eb"), looks := true }, kinds := [], alts := [], laidByText := true, laidKinds := [.handle, .data, .data, .data, .data, .data], laidTests := true, laidLooks := .later }
def MachineKeepsCardSaid : Prop := Claim7.holds Tryz.pinned (.plain (OpenSpec.ofChange machineKeepsSpec)) machineKeepsCard

/-- THE TIED CARD OF 'proofmarklaw12.MachineTraps'. -/
def machineTrapsCard : Claim7 := { stood := { row := machineTrapsRow, standIns := [], harness := (true, "f2b8f0880a658110550d1bb401c41acc054f65dc870758ab7ad6ba63dbeea9eb"), looks := true }, kinds := [], alts := [], laidByText := true, laidKinds := [.handle, .data, .data, .data, .data, .data], laidTests := true, laidLooks := .later }
def MachineTrapsCardSaid : Prop := Claim7.holds Tryz.pinned (.plain (OpenSpec.ofChange machineTrapsSpec)) machineTrapsCard

/-- THE TIED CARD OF 'proofmarklaw12.MachineRuns'. -/
def machineRunsCard : Claim7 := { stood := { row := machineRunsRow, standIns := [], harness := (true, "f2b8f0880a658110550d1bb401c41acc054f65dc870758ab7ad6ba63dbeea9eb"), looks := true }, kinds := [], alts := [], laidByText := true, laidKinds := [.handle, .data, .data, .data, .data, .data], laidTests := true, laidLooks := .later }
def MachineRunsCardSaid : Prop := Claim7.holds Tryz.pinned (.plain (OpenSpec.ofChange machineRunsSpec)) machineRunsCard

/-- THE TIED CARD OF 'proofmarklaw12.MachineKnown'. -/
def machineKnownCard : Claim7 := { stood := { row := machineKnownRow, standIns := [], harness := (true, "f2b8f0880a658110550d1bb401c41acc054f65dc870758ab7ad6ba63dbeea9eb"), looks := true }, kinds := [], alts := [], laidByText := true, laidKinds := [.handle, .data, .data, .data, .data, .data], laidTests := true, laidLooks := .later }
def MachineKnownCardSaid : Prop := Claim7.holds Tryz.pinned (.plain (OpenSpec.ofChange machineKnownSpec)) machineKnownCard

/-- THE SECOND FORM's CARD OF 'proofmarklaw12.MachineInput'. -/
def machineInputUptoCard : Claim7 := { stood := { row := machineInputUptoRow, standIns := [], harness := (true, "f2b8f0880a658110550d1bb401c41acc054f65dc870758ab7ad6ba63dbeea9eb"), looks := true }, kinds := [], alts := [], laidByText := true, laidKinds := [.handle, .data, .data, .data, .data, .data], laidTests := true, laidLooks := .later }
def MachineInputUptoCardSaid : Prop := Claim7.holds Tryz.pinned (.plain (OpenSpec.upto machineInputSpec)) machineInputUptoCard

/-- THE SECOND FORM's CARD OF 'proofmarklaw12.MachineSplit'. -/
def machineSplitUptoCard : Claim7 := { stood := { row := machineSplitUptoRow, standIns := [], harness := (true, "f2b8f0880a658110550d1bb401c41acc054f65dc870758ab7ad6ba63dbeea9eb"), looks := true }, kinds := [], alts := [], laidByText := true, laidKinds := [.handle, .data, .data, .data, .data, .data], laidTests := true, laidLooks := .later }
def MachineSplitUptoCardSaid : Prop := Claim7.holds Tryz.pinned (.plain (OpenSpec.upto machineSplitSpec)) machineSplitUptoCard

/-- THE SECOND FORM's CARD OF 'proofmarklaw12.MachineKeeps'. -/
def machineKeepsUptoCard : Claim7 := { stood := { row := machineKeepsUptoRow, standIns := [], harness := (true, "f2b8f0880a658110550d1bb401c41acc054f65dc870758ab7ad6ba63dbeea9eb"), looks := true }, kinds := [], alts := [], laidByText := true, laidKinds := [.handle, .data, .data, .data, .data, .data], laidTests := true, laidLooks := .later }
def MachineKeepsUptoCardSaid : Prop := Claim7.holds Tryz.pinned (.plain (OpenSpec.upto machineKeepsSpec)) machineKeepsUptoCard

/-- THE SECOND FORM's CARD OF 'proofmarklaw12.MachineTraps'. -/
def machineTrapsUptoCard : Claim7 := { stood := { row := machineTrapsUptoRow, standIns := [], harness := (true, "f2b8f0880a658110550d1bb401c41acc054f65dc870758ab7ad6ba63dbeea9eb"), looks := true }, kinds := [], alts := [], laidByText := true, laidKinds := [.handle, .data, .data, .data, .data, .data], laidTests := true, laidLooks := .later }
def MachineTrapsUptoCardSaid : Prop := Claim7.holds Tryz.pinned (.plain (OpenSpec.upto machineTrapsSpec)) machineTrapsUptoCard

/-- THE SECOND FORM's CARD OF 'proofmarklaw12.MachineRuns'. -/
def machineRunsUptoCard : Claim7 := { stood := { row := machineRunsUptoRow, standIns := [], harness := (true, "f2b8f0880a658110550d1bb401c41acc054f65dc870758ab7ad6ba63dbeea9eb"), looks := true }, kinds := [], alts := [], laidByText := true, laidKinds := [.handle, .data, .data, .data, .data, .data], laidTests := true, laidLooks := .later }
def MachineRunsUptoCardSaid : Prop := Claim7.holds Tryz.pinned (.plain (OpenSpec.upto machineRunsSpec)) machineRunsUptoCard

/-- THE SECOND FORM's CARD OF 'proofmarklaw12.MachineKnown'. -/
def machineKnownUptoCard : Claim7 := { stood := { row := machineKnownUptoRow, standIns := [], harness := (true, "f2b8f0880a658110550d1bb401c41acc054f65dc870758ab7ad6ba63dbeea9eb"), looks := true }, kinds := [], alts := [], laidByText := true, laidKinds := [.handle, .data, .data, .data, .data, .data], laidTests := true, laidLooks := .later }
def MachineKnownUptoCardSaid : Prop := Claim7.holds Tryz.pinned (.plain (OpenSpec.upto machineKnownSpec)) machineKnownUptoCard
end Rows
end Go.Proofs.YtlabgjcjccdjfaaGreatDoor
