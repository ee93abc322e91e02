/-
  DERIVED. GIVEN WITH THE SEED: THE PROGRAM's TIES (one call each: nine closed facts by the kernel) AND EACH ROW's TIE, after the 31st guide's Derived/Test/Toyas{Tie, Card}.lean. No idea stands in it: it is a product of the set-up. Laid BY PROGRAM, IN A SANDBOX (cutbox-door.mjs). By AI agents, Wed Nov 11 2026. No macro, syntax, notation, axiom, sorry.
-/
import Derived.Test.YtlabgjcjccdjfaaGreatDoorRows
import Derived.LaidByTextLater
import Derived.SevenTiedAt
import Derived.LaidSub
import Derived.LaidOnce
namespace Go.Proofs.YtlabgjcjccdjfaaGreatDoor
open Go
set_option maxRecDepth 100000
theorem seatTie1 : Tryz.prog.laidByTextLater [("errors.errorType", Rows.laid_errors_errorType), ("proofmark/rv.rd", Rows.laid_proofmark_rv_rd), ("proofmark/rv.f3", Rows.laid_proofmark_rv_f3), ("proofmark/rv.rs1", Rows.laid_proofmark_rv_rs1), ("proofmark/rv.rs2", Rows.laid_proofmark_rv_rs2), ("proofmark/rv.f7", Rows.laid_proofmark_rv_f7)] [.handle, .data, .data, .data, .data, .data] true :=
  Program.laidByTextLater_by_one 41 8 3 (by kernel_rfl) (by kernel_rfl) (by kernel_rfl) (by kernel_rfl) (by kernel_rfl) (by kernel_rfl) (fun _ _ => by kernel_rfl)
theorem noOwnUnsafe : Tryz.pinned.checked.prog.headLifts.contains "ownunsafe" = false := by kernel_rfl
theorem tie : Tryz.prog.laidByTextLater [("errors.errorType", Rows.laid_errors_errorType), ("proofmark/rv.rd", Rows.laid_proofmark_rv_rd), ("proofmark/rv.f3", Rows.laid_proofmark_rv_f3), ("proofmark/rv.rs1", Rows.laid_proofmark_rv_rs1), ("proofmark/rv.rs2", Rows.laid_proofmark_rv_rs2), ("proofmark/rv.f7", Rows.laid_proofmark_rv_f7)] [.handle, .data, .data, .data, .data, .data] true :=
  Program.laidByTextLater.sub seatTie1 ["errors.errorType", "proofmark/rv.rd", "proofmark/rv.f3", "proofmark/rv.rs1", "proofmark/rv.rs2", "proofmark/rv.f7"] (by kernel_rfl) (by kernel_rfl)
theorem machineInput_row_tie : Rows.machineInputRow.laidByTextAt .later Tryz.pinned [.handle, .data, .data, .data, .data, .data] true :=
  OpenClaim.laidByTextAt_later rfl rfl tie noOwnUnsafe
theorem machineSplit_row_tie : Rows.machineSplitRow.laidByTextAt .later Tryz.pinned [.handle, .data, .data, .data, .data, .data] true :=
  OpenClaim.laidByTextAt_later rfl rfl tie noOwnUnsafe
theorem machineKeeps_row_tie : Rows.machineKeepsRow.laidByTextAt .later Tryz.pinned [.handle, .data, .data, .data, .data, .data] true :=
  OpenClaim.laidByTextAt_later rfl rfl tie noOwnUnsafe
theorem machineTraps_row_tie : Rows.machineTrapsRow.laidByTextAt .later Tryz.pinned [.handle, .data, .data, .data, .data, .data] true :=
  OpenClaim.laidByTextAt_later rfl rfl tie noOwnUnsafe
theorem machineRuns_row_tie : Rows.machineRunsRow.laidByTextAt .later Tryz.pinned [.handle, .data, .data, .data, .data, .data] true :=
  OpenClaim.laidByTextAt_later rfl rfl tie noOwnUnsafe
theorem machineKnown_row_tie : Rows.machineKnownRow.laidByTextAt .later Tryz.pinned [.handle, .data, .data, .data, .data, .data] true :=
  OpenClaim.laidByTextAt_later rfl rfl tie noOwnUnsafe
theorem machineInputUpto_row_tie : Rows.machineInputUptoRow.laidByTextAt .later Tryz.pinned [.handle, .data, .data, .data, .data, .data] true :=
  OpenClaim.laidByTextAt_later rfl rfl tie noOwnUnsafe
theorem machineSplitUpto_row_tie : Rows.machineSplitUptoRow.laidByTextAt .later Tryz.pinned [.handle, .data, .data, .data, .data, .data] true :=
  OpenClaim.laidByTextAt_later rfl rfl tie noOwnUnsafe
theorem machineKeepsUpto_row_tie : Rows.machineKeepsUptoRow.laidByTextAt .later Tryz.pinned [.handle, .data, .data, .data, .data, .data] true :=
  OpenClaim.laidByTextAt_later rfl rfl tie noOwnUnsafe
theorem machineTrapsUpto_row_tie : Rows.machineTrapsUptoRow.laidByTextAt .later Tryz.pinned [.handle, .data, .data, .data, .data, .data] true :=
  OpenClaim.laidByTextAt_later rfl rfl tie noOwnUnsafe
theorem machineRunsUpto_row_tie : Rows.machineRunsUptoRow.laidByTextAt .later Tryz.pinned [.handle, .data, .data, .data, .data, .data] true :=
  OpenClaim.laidByTextAt_later rfl rfl tie noOwnUnsafe
theorem machineKnownUpto_row_tie : Rows.machineKnownUptoRow.laidByTextAt .later Tryz.pinned [.handle, .data, .data, .data, .data, .data] true :=
  OpenClaim.laidByTextAt_later rfl rfl tie noOwnUnsafe
end Go.Proofs.YtlabgjcjccdjfaaGreatDoor
