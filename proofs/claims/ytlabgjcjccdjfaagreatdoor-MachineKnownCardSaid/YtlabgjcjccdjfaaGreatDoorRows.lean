/-
  NARROWER THAN 'FOR EVERY INPUT', by the rows' own cells (each row's printed sentence says how): MachineInput: laid · MachineSplit: laid · MachineKeeps: laid · MachineTraps: laid · MachineRuns: laid · MachineKnown: laid.
  DERIVED. THE GIVEN ROWS OF THIS SEAT. 6 by the template 'for every input the law returns true; each argument reads behind the call as it read before'; 0 by the template 'total and deterministic' (their statements: YtlabgjcjccdjfaaGreatDoorTotals.lean).
  GIVEN WITH THE SEED: the statements are not yours to turn. If you find one false, say at which input.
  Laid BY PROGRAM, IN A SANDBOX (cutbox-rows.mjs): the forced cells as the released guide's own fill.sh prints them over the translation 35db06019715f897… (all of the seat's roots in one cut). By AI agents, Wed Nov 11 2026. No macro, syntax, notation, axiom, sorry.
-/
import Derived.Test.YtlabgjcjccdjfaaGreatDoorChecked
import GoSem.Claim
import GoSem.ClaimJoined
import GoSem.ClaimMapViews
import Derived.JoinedTies
import Derived.KernelRfl
namespace Go.Proofs.YtlabgjcjccdjfaaGreatDoor
/- THE CELL 'sum', in the pinned program and in every row, IS THE sha256 OF THE DUMP (.gsa) THAT YtlabgjcjccdjfaaGreatDoorProg.lean LOADS. Nothing in Lean hashes anything: it is a label: what it is worth is what the hold of that sum in a sandbox is worth. -/
noncomputable def Tryz.pinned : Pinned := { name := "ytlabgjcjccdjfaagreatdoor", sum := "35db06019715f89739c4638347d0acf940c1d82a2434fe6fe9e0c82a7fa054a6", checked := Tryz.checked }
namespace Rows
def none {H : Type} : Left H := { results := [], args := [] }

/- WHAT THE LISTED PACKAGE-LEVEL VARIABLES READ AS WHEN THE CALL BEGINS. Each datum BY PROGRAM (the guide's laid-datum.mjs) off the statement by which the dump's own 'gosem.cut.vars' lays the variable. In a bare row this is a premise. The card (YtlabgjcjccdjfaaGreatDoorCards.lean) ties it to the program's text. -/
def laid_errors_errorType {H : Type} : DataW H := .iface "internal/reflectlite.rtype" (.agg [.ptr (.lit (.string [101, 114, 114, 111, 114]))])
def laid_proofmark_rv_rd {H : Type} : DataW H := .agg [.lit (.int .i64 7), .lit (.int .i64 5)]
def laid_proofmark_rv_f3 {H : Type} : DataW H := .agg [.lit (.int .i64 12), .lit (.int .i64 3)]
def laid_proofmark_rv_rs1 {H : Type} : DataW H := .agg [.lit (.int .i64 15), .lit (.int .i64 5)]
def laid_proofmark_rv_rs2 {H : Type} : DataW H := .agg [.lit (.int .i64 20), .lit (.int .i64 5)]
def laid_proofmark_rv_f7 {H : Type} : DataW H := .agg [.lit (.int .i64 25), .lit (.int .i64 7)]

/-- 'proofmarklaw12.MachineInput': WHATEVER THE INPUT: true; the input reads as it did. -/
def machineInputSpec : ChangeSpec := { name := "machineInput", fn := fun _ => fun
  | [d1, d2, d3, d4] => { results := [.lit (.bool true)], args := [d1, d2, d3, d4] }
  | _ => none }
def machineInputRow : OpenClaim := { program := "ytlabgjcjccdjfaagreatdoor", sum := "35db06019715f89739c4638347d0acf940c1d82a2434fe6fe9e0c82a7fa054a6", func := "proofmark/proofmarklaw12.MachineInput", spec := "machineInput", inPlace := ["internal/reflectlite.ValueOf", "(internal/reflectlite.Value).Type", "(internal/reflectlite.Value).IsNil", "internal/reflectlite.TypeOf", "(internal/reflectlite.Value).Elem", "(internal/reflectlite.Value).Set"], unfollowed := true, recurses := true, named := ["proofmark/rv.rd", "proofmark/rv.rs1", "proofmark/rv.rs2", "proofmark/rv.f3", "proofmark/rv.f7", "errors.errorType"], apart := false, laid := [("errors.errorType", laid_errors_errorType), ("proofmark/rv.rd", laid_proofmark_rv_rd), ("proofmark/rv.f3", laid_proofmark_rv_f3), ("proofmark/rv.rs1", laid_proofmark_rv_rs1), ("proofmark/rv.rs2", laid_proofmark_rv_rs2), ("proofmark/rv.f7", laid_proofmark_rv_f7)] }
def MachineInputSaid : Prop := machineInputRow.holds Tryz.pinned (OpenSpec.ofChange machineInputSpec)

/-- ITS FALSE NEIGHBOUR: 'it returns false'. Refute it at one input. -/
def machineInputWrong : ChangeSpec := { name := "machineInput", fn := fun _ => fun
  | [d1, d2, d3, d4] => { results := [.lit (.bool false)], args := [d1, d2, d3, d4] }
  | _ => none }
def MachineInputWrongFalsely : Prop := machineInputRow.holds Tryz.pinned (OpenSpec.ofChange machineInputWrong)

/-- 'proofmarklaw12.MachineSplit': WHATEVER THE INPUT: true; the input reads as it did. -/
def machineSplitSpec : ChangeSpec := { name := "machineSplit", fn := fun _ => fun
  | [d1, d2, d3, d4] => { results := [.lit (.bool true)], args := [d1, d2, d3, d4] }
  | _ => none }
def machineSplitRow : OpenClaim := { program := "ytlabgjcjccdjfaagreatdoor", sum := "35db06019715f89739c4638347d0acf940c1d82a2434fe6fe9e0c82a7fa054a6", func := "proofmark/proofmarklaw12.MachineSplit", spec := "machineSplit", inPlace := ["internal/reflectlite.ValueOf", "(internal/reflectlite.Value).Type", "(internal/reflectlite.Value).IsNil", "internal/reflectlite.TypeOf", "(internal/reflectlite.Value).Elem", "(internal/reflectlite.Value).Set"], unfollowed := true, recurses := true, named := ["proofmark/rv.rd", "proofmark/rv.rs1", "proofmark/rv.rs2", "proofmark/rv.f3", "proofmark/rv.f7", "errors.errorType"], apart := false, laid := [("errors.errorType", laid_errors_errorType), ("proofmark/rv.rd", laid_proofmark_rv_rd), ("proofmark/rv.f3", laid_proofmark_rv_f3), ("proofmark/rv.rs1", laid_proofmark_rv_rs1), ("proofmark/rv.rs2", laid_proofmark_rv_rs2), ("proofmark/rv.f7", laid_proofmark_rv_f7)] }
def MachineSplitSaid : Prop := machineSplitRow.holds Tryz.pinned (OpenSpec.ofChange machineSplitSpec)

/-- ITS FALSE NEIGHBOUR: 'it returns false'. Refute it at one input. -/
def machineSplitWrong : ChangeSpec := { name := "machineSplit", fn := fun _ => fun
  | [d1, d2, d3, d4] => { results := [.lit (.bool false)], args := [d1, d2, d3, d4] }
  | _ => none }
def MachineSplitWrongFalsely : Prop := machineSplitRow.holds Tryz.pinned (OpenSpec.ofChange machineSplitWrong)

/-- 'proofmarklaw12.MachineKeeps': WHATEVER THE INPUT: true; the input reads as it did. -/
def machineKeepsSpec : ChangeSpec := { name := "machineKeeps", fn := fun _ => fun
  | [d1, d2, d3] => { results := [.lit (.bool true)], args := [d1, d2, d3] }
  | _ => none }
def machineKeepsRow : OpenClaim := { program := "ytlabgjcjccdjfaagreatdoor", sum := "35db06019715f89739c4638347d0acf940c1d82a2434fe6fe9e0c82a7fa054a6", func := "proofmark/proofmarklaw12.MachineKeeps", spec := "machineKeeps", inPlace := ["internal/reflectlite.ValueOf", "(internal/reflectlite.Value).Type", "(internal/reflectlite.Value).IsNil", "internal/reflectlite.TypeOf", "(internal/reflectlite.Value).Elem", "(internal/reflectlite.Value).Set"], unfollowed := true, recurses := true, named := ["proofmark/rv.rd", "proofmark/rv.rs1", "proofmark/rv.rs2", "proofmark/rv.f3", "proofmark/rv.f7", "errors.errorType"], apart := false, laid := [("errors.errorType", laid_errors_errorType), ("proofmark/rv.rd", laid_proofmark_rv_rd), ("proofmark/rv.f3", laid_proofmark_rv_f3), ("proofmark/rv.rs1", laid_proofmark_rv_rs1), ("proofmark/rv.rs2", laid_proofmark_rv_rs2), ("proofmark/rv.f7", laid_proofmark_rv_f7)] }
def MachineKeepsSaid : Prop := machineKeepsRow.holds Tryz.pinned (OpenSpec.ofChange machineKeepsSpec)

/-- ITS FALSE NEIGHBOUR: 'it returns false'. Refute it at one input. -/
def machineKeepsWrong : ChangeSpec := { name := "machineKeeps", fn := fun _ => fun
  | [d1, d2, d3] => { results := [.lit (.bool false)], args := [d1, d2, d3] }
  | _ => none }
def MachineKeepsWrongFalsely : Prop := machineKeepsRow.holds Tryz.pinned (OpenSpec.ofChange machineKeepsWrong)

/-- 'proofmarklaw12.MachineTraps': WHATEVER THE INPUT: true; the input reads as it did. -/
def machineTrapsSpec : ChangeSpec := { name := "machineTraps", fn := fun _ => fun
  | [d1, d2] => { results := [.lit (.bool true)], args := [d1, d2] }
  | _ => none }
def machineTrapsRow : OpenClaim := { program := "ytlabgjcjccdjfaagreatdoor", sum := "35db06019715f89739c4638347d0acf940c1d82a2434fe6fe9e0c82a7fa054a6", func := "proofmark/proofmarklaw12.MachineTraps", spec := "machineTraps", inPlace := ["internal/reflectlite.ValueOf", "(internal/reflectlite.Value).Type", "(internal/reflectlite.Value).IsNil", "internal/reflectlite.TypeOf", "(internal/reflectlite.Value).Elem", "(internal/reflectlite.Value).Set"], unfollowed := true, recurses := true, named := ["proofmark/rv.rd", "proofmark/rv.rs1", "proofmark/rv.rs2", "proofmark/rv.f3", "proofmark/rv.f7", "errors.errorType"], apart := false, laid := [("errors.errorType", laid_errors_errorType), ("proofmark/rv.rd", laid_proofmark_rv_rd), ("proofmark/rv.f3", laid_proofmark_rv_f3), ("proofmark/rv.rs1", laid_proofmark_rv_rs1), ("proofmark/rv.rs2", laid_proofmark_rv_rs2), ("proofmark/rv.f7", laid_proofmark_rv_f7)] }
def MachineTrapsSaid : Prop := machineTrapsRow.holds Tryz.pinned (OpenSpec.ofChange machineTrapsSpec)

/-- ITS FALSE NEIGHBOUR: 'it returns false'. Refute it at one input. -/
def machineTrapsWrong : ChangeSpec := { name := "machineTraps", fn := fun _ => fun
  | [d1, d2] => { results := [.lit (.bool false)], args := [d1, d2] }
  | _ => none }
def MachineTrapsWrongFalsely : Prop := machineTrapsRow.holds Tryz.pinned (OpenSpec.ofChange machineTrapsWrong)

/-- 'proofmarklaw12.MachineRuns': WHATEVER THE INPUT: true; the input reads as it did. -/
def machineRunsSpec : ChangeSpec := { name := "machineRuns", fn := fun _ => fun
  | [d1, d2, d3, d4] => { results := [.lit (.bool true)], args := [d1, d2, d3, d4] }
  | _ => none }
def machineRunsRow : OpenClaim := { program := "ytlabgjcjccdjfaagreatdoor", sum := "35db06019715f89739c4638347d0acf940c1d82a2434fe6fe9e0c82a7fa054a6", func := "proofmark/proofmarklaw12.MachineRuns", spec := "machineRuns", inPlace := ["internal/reflectlite.ValueOf", "(internal/reflectlite.Value).Type", "(internal/reflectlite.Value).IsNil", "internal/reflectlite.TypeOf", "(internal/reflectlite.Value).Elem", "(internal/reflectlite.Value).Set"], unfollowed := true, recurses := true, named := ["proofmark/rv.rd", "proofmark/rv.rs1", "proofmark/rv.rs2", "proofmark/rv.f3", "proofmark/rv.f7", "errors.errorType"], apart := false, laid := [("errors.errorType", laid_errors_errorType), ("proofmark/rv.rd", laid_proofmark_rv_rd), ("proofmark/rv.f3", laid_proofmark_rv_f3), ("proofmark/rv.rs1", laid_proofmark_rv_rs1), ("proofmark/rv.rs2", laid_proofmark_rv_rs2), ("proofmark/rv.f7", laid_proofmark_rv_f7)] }
def MachineRunsSaid : Prop := machineRunsRow.holds Tryz.pinned (OpenSpec.ofChange machineRunsSpec)

/-- ITS FALSE NEIGHBOUR: 'it returns false'. Refute it at one input. -/
def machineRunsWrong : ChangeSpec := { name := "machineRuns", fn := fun _ => fun
  | [d1, d2, d3, d4] => { results := [.lit (.bool false)], args := [d1, d2, d3, d4] }
  | _ => none }
def MachineRunsWrongFalsely : Prop := machineRunsRow.holds Tryz.pinned (OpenSpec.ofChange machineRunsWrong)

/-- 'proofmarklaw12.MachineKnown': WHATEVER THE INPUT: true; the input reads as it did. -/
def machineKnownSpec : ChangeSpec := { name := "machineKnown", fn := fun _ => fun
  | [] => { results := [.lit (.bool true)], args := [] }
  | _ => none }
def machineKnownRow : OpenClaim := { program := "ytlabgjcjccdjfaagreatdoor", sum := "35db06019715f89739c4638347d0acf940c1d82a2434fe6fe9e0c82a7fa054a6", func := "proofmark/proofmarklaw12.MachineKnown", spec := "machineKnown", inPlace := ["internal/reflectlite.ValueOf", "(internal/reflectlite.Value).Type", "(internal/reflectlite.Value).IsNil", "internal/reflectlite.TypeOf", "(internal/reflectlite.Value).Elem", "(internal/reflectlite.Value).Set"], unfollowed := true, recurses := true, named := ["errors.errorType", "proofmark/rv.rd", "proofmark/rv.rs1", "proofmark/rv.rs2", "proofmark/rv.f3", "proofmark/rv.f7"], apart := false, laid := [("errors.errorType", laid_errors_errorType), ("proofmark/rv.rd", laid_proofmark_rv_rd), ("proofmark/rv.f3", laid_proofmark_rv_f3), ("proofmark/rv.rs1", laid_proofmark_rv_rs1), ("proofmark/rv.rs2", laid_proofmark_rv_rs2), ("proofmark/rv.f7", laid_proofmark_rv_f7)] }
def MachineKnownSaid : Prop := machineKnownRow.holds Tryz.pinned (OpenSpec.ofChange machineKnownSpec)

/-- ITS FALSE NEIGHBOUR: 'it returns false'. Refute it at one input. -/
def machineKnownWrong : ChangeSpec := { name := "machineKnown", fn := fun _ => fun
  | [] => { results := [.lit (.bool false)], args := [] }
  | _ => none }
def MachineKnownWrongFalsely : Prop := machineKnownRow.holds Tryz.pinned (OpenSpec.ofChange machineKnownWrong)

/- THE SECOND FORM. 'bulk': how many values and letters a reading holds, each counted each time it is reached (what is shared counts as often as it is met; a slice's spare places count too). A statement '..UptoSaid' is the law's where the arguments, and the package variables that the reading takes, are together of bulk at most 1048576: NARROWER than '..Said'. Prove '..Said' where nothing that the law and all that it calls make is longer than what came in: it says more and counts as full. Else prove '..UptoSaid'. A law counts once. -/
mutual
def uptoBulk {H : Type} : DataW H → Nat
  | .lit (.string bytes) => bytes.length + 1
  | .lit _ => 1
  | .nil => 1
  | .ptr d => uptoBulk d + 1
  | .slice elems spare => uptoBulkAll elems + uptoBulkAll spare + 1
  | .agg parts => uptoBulkAll parts + 1
  | .iface _ d => uptoBulk d + 1
  | .map entries => uptoBulkEntries entries + 1
  | .held _ => 1
def uptoBulkAll {H : Type} : List (DataW H) → Nat
  | [] => 0
  | d :: r => uptoBulk d + uptoBulkAll r
def uptoBulkEntries {H : Type} : List (Lit × DataW H) → Nat
  | [] => 0
  | x :: r => uptoBulkEntry x + uptoBulkEntries r
def uptoBulkEntry {H : Type} : Lit × DataW H → Nat
  | (.string bytes, d) => bytes.length + uptoBulk d + 1
  | (_, d) => uptoBulk d + 1
 end
def uptoSmall : (H : Type) → List (DataW H) → Bool := fun _ ds => decide (uptoBulkAll ds ≤ 1048576)
def OpenSpec.upto (s : _root_.Go.ChangeSpec) : _root_.Go.OpenSpec := { _root_.Go.OpenSpec.ofChange s with cond := some uptoSmall }

/-- 'proofmarklaw12.MachineInput', WHERE WHAT IT READS IS OF BULK AT MOST 1048576: true; the input reads as it did. -/
def machineInputUptoRow : OpenClaim := { program := "ytlabgjcjccdjfaagreatdoor", sum := "35db06019715f89739c4638347d0acf940c1d82a2434fe6fe9e0c82a7fa054a6", func := "proofmark/proofmarklaw12.MachineInput", spec := "machineInput", inPlace := ["internal/reflectlite.ValueOf", "(internal/reflectlite.Value).Type", "(internal/reflectlite.Value).IsNil", "internal/reflectlite.TypeOf", "(internal/reflectlite.Value).Elem", "(internal/reflectlite.Value).Set"], unfollowed := true, recurses := true, named := ["proofmark/rv.rd", "proofmark/rv.rs1", "proofmark/rv.rs2", "proofmark/rv.f3", "proofmark/rv.f7", "errors.errorType"], apart := false, laid := [("errors.errorType", laid_errors_errorType), ("proofmark/rv.rd", laid_proofmark_rv_rd), ("proofmark/rv.f3", laid_proofmark_rv_f3), ("proofmark/rv.rs1", laid_proofmark_rv_rs1), ("proofmark/rv.rs2", laid_proofmark_rv_rs2), ("proofmark/rv.f7", laid_proofmark_rv_f7)], narrowed := true }
def MachineInputUptoSaid : Prop := machineInputUptoRow.holds Tryz.pinned (OpenSpec.upto machineInputSpec)

/-- 'proofmarklaw12.MachineSplit', WHERE WHAT IT READS IS OF BULK AT MOST 1048576: true; the input reads as it did. -/
def machineSplitUptoRow : OpenClaim := { program := "ytlabgjcjccdjfaagreatdoor", sum := "35db06019715f89739c4638347d0acf940c1d82a2434fe6fe9e0c82a7fa054a6", func := "proofmark/proofmarklaw12.MachineSplit", spec := "machineSplit", inPlace := ["internal/reflectlite.ValueOf", "(internal/reflectlite.Value).Type", "(internal/reflectlite.Value).IsNil", "internal/reflectlite.TypeOf", "(internal/reflectlite.Value).Elem", "(internal/reflectlite.Value).Set"], unfollowed := true, recurses := true, named := ["proofmark/rv.rd", "proofmark/rv.rs1", "proofmark/rv.rs2", "proofmark/rv.f3", "proofmark/rv.f7", "errors.errorType"], apart := false, laid := [("errors.errorType", laid_errors_errorType), ("proofmark/rv.rd", laid_proofmark_rv_rd), ("proofmark/rv.f3", laid_proofmark_rv_f3), ("proofmark/rv.rs1", laid_proofmark_rv_rs1), ("proofmark/rv.rs2", laid_proofmark_rv_rs2), ("proofmark/rv.f7", laid_proofmark_rv_f7)], narrowed := true }
def MachineSplitUptoSaid : Prop := machineSplitUptoRow.holds Tryz.pinned (OpenSpec.upto machineSplitSpec)

/-- 'proofmarklaw12.MachineKeeps', WHERE WHAT IT READS IS OF BULK AT MOST 1048576: true; the input reads as it did. -/
def machineKeepsUptoRow : OpenClaim := { program := "ytlabgjcjccdjfaagreatdoor", sum := "35db06019715f89739c4638347d0acf940c1d82a2434fe6fe9e0c82a7fa054a6", func := "proofmark/proofmarklaw12.MachineKeeps", spec := "machineKeeps", inPlace := ["internal/reflectlite.ValueOf", "(internal/reflectlite.Value).Type", "(internal/reflectlite.Value).IsNil", "internal/reflectlite.TypeOf", "(internal/reflectlite.Value).Elem", "(internal/reflectlite.Value).Set"], unfollowed := true, recurses := true, named := ["proofmark/rv.rd", "proofmark/rv.rs1", "proofmark/rv.rs2", "proofmark/rv.f3", "proofmark/rv.f7", "errors.errorType"], apart := false, laid := [("errors.errorType", laid_errors_errorType), ("proofmark/rv.rd", laid_proofmark_rv_rd), ("proofmark/rv.f3", laid_proofmark_rv_f3), ("proofmark/rv.rs1", laid_proofmark_rv_rs1), ("proofmark/rv.rs2", laid_proofmark_rv_rs2), ("proofmark/rv.f7", laid_proofmark_rv_f7)], narrowed := true }
def MachineKeepsUptoSaid : Prop := machineKeepsUptoRow.holds Tryz.pinned (OpenSpec.upto machineKeepsSpec)

/-- 'proofmarklaw12.MachineTraps', WHERE WHAT IT READS IS OF BULK AT MOST 1048576: true; the input reads as it did. -/
def machineTrapsUptoRow : OpenClaim := { program := "ytlabgjcjccdjfaagreatdoor", sum := "35db06019715f89739c4638347d0acf940c1d82a2434fe6fe9e0c82a7fa054a6", func := "proofmark/proofmarklaw12.MachineTraps", spec := "machineTraps", inPlace := ["internal/reflectlite.ValueOf", "(internal/reflectlite.Value).Type", "(internal/reflectlite.Value).IsNil", "internal/reflectlite.TypeOf", "(internal/reflectlite.Value).Elem", "(internal/reflectlite.Value).Set"], unfollowed := true, recurses := true, named := ["proofmark/rv.rd", "proofmark/rv.rs1", "proofmark/rv.rs2", "proofmark/rv.f3", "proofmark/rv.f7", "errors.errorType"], apart := false, laid := [("errors.errorType", laid_errors_errorType), ("proofmark/rv.rd", laid_proofmark_rv_rd), ("proofmark/rv.f3", laid_proofmark_rv_f3), ("proofmark/rv.rs1", laid_proofmark_rv_rs1), ("proofmark/rv.rs2", laid_proofmark_rv_rs2), ("proofmark/rv.f7", laid_proofmark_rv_f7)], narrowed := true }
def MachineTrapsUptoSaid : Prop := machineTrapsUptoRow.holds Tryz.pinned (OpenSpec.upto machineTrapsSpec)

/-- 'proofmarklaw12.MachineRuns', WHERE WHAT IT READS IS OF BULK AT MOST 1048576: true; the input reads as it did. -/
def machineRunsUptoRow : OpenClaim := { program := "ytlabgjcjccdjfaagreatdoor", sum := "35db06019715f89739c4638347d0acf940c1d82a2434fe6fe9e0c82a7fa054a6", func := "proofmark/proofmarklaw12.MachineRuns", spec := "machineRuns", inPlace := ["internal/reflectlite.ValueOf", "(internal/reflectlite.Value).Type", "(internal/reflectlite.Value).IsNil", "internal/reflectlite.TypeOf", "(internal/reflectlite.Value).Elem", "(internal/reflectlite.Value).Set"], unfollowed := true, recurses := true, named := ["proofmark/rv.rd", "proofmark/rv.rs1", "proofmark/rv.rs2", "proofmark/rv.f3", "proofmark/rv.f7", "errors.errorType"], apart := false, laid := [("errors.errorType", laid_errors_errorType), ("proofmark/rv.rd", laid_proofmark_rv_rd), ("proofmark/rv.f3", laid_proofmark_rv_f3), ("proofmark/rv.rs1", laid_proofmark_rv_rs1), ("proofmark/rv.rs2", laid_proofmark_rv_rs2), ("proofmark/rv.f7", laid_proofmark_rv_f7)], narrowed := true }
def MachineRunsUptoSaid : Prop := machineRunsUptoRow.holds Tryz.pinned (OpenSpec.upto machineRunsSpec)

/-- 'proofmarklaw12.MachineKnown', WHERE WHAT IT READS IS OF BULK AT MOST 1048576: true; the input reads as it did. -/
def machineKnownUptoRow : OpenClaim := { program := "ytlabgjcjccdjfaagreatdoor", sum := "35db06019715f89739c4638347d0acf940c1d82a2434fe6fe9e0c82a7fa054a6", func := "proofmark/proofmarklaw12.MachineKnown", spec := "machineKnown", inPlace := ["internal/reflectlite.ValueOf", "(internal/reflectlite.Value).Type", "(internal/reflectlite.Value).IsNil", "internal/reflectlite.TypeOf", "(internal/reflectlite.Value).Elem", "(internal/reflectlite.Value).Set"], unfollowed := true, recurses := true, named := ["errors.errorType", "proofmark/rv.rd", "proofmark/rv.rs1", "proofmark/rv.rs2", "proofmark/rv.f3", "proofmark/rv.f7"], apart := false, laid := [("errors.errorType", laid_errors_errorType), ("proofmark/rv.rd", laid_proofmark_rv_rd), ("proofmark/rv.f3", laid_proofmark_rv_f3), ("proofmark/rv.rs1", laid_proofmark_rv_rs1), ("proofmark/rv.rs2", laid_proofmark_rv_rs2), ("proofmark/rv.f7", laid_proofmark_rv_f7)], narrowed := true }
def MachineKnownUptoSaid : Prop := machineKnownUptoRow.holds Tryz.pinned (OpenSpec.upto machineKnownSpec)

end Rows
end Go.Proofs.YtlabgjcjccdjfaaGreatDoor
