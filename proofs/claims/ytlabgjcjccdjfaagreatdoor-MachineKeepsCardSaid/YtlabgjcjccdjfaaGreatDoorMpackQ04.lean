/- Steps of the proof, packed by program: McW4. -/
import Derived.Test.YtlabgjcjccdjfaaGreatDoorRows
import Derived.Test.YtlabgjcjccdjfaaGreatDoorMpackQ02
import Derived.Test.YtlabgjcjccdjfaaGreatDoorMpackQ03
set_option linter.unusedVariables false
set_option linter.unusedSimpArgs false
set_option linter.unnecessarySimpa false
section
set_option linter.unusedSimpArgs false
set_option linter.unusedVariables false
namespace Go.Proofs.M
open Go Go.Ux Go.Ux.Mach Go.Proofs
theorem ag134 : isAggT Tryz.prog 134 = some true := by kernel_rfl
theorem sz134 : sizeT Tryz.prog 134 = some 594 := by kernel_rfl
theorem zt134 : zeroT Tryz.prog 134 = some #[.bool false, .bool false, .bool false, .slice none 0 0, .int .i64 0, .bool false, .int .u32 0, .string ⟨#[]⟩, .int .u32 0, .bool false, .bool false, .bool false, .slice none 0 0, .int .i64 0, .bool false, .int .u32 0, .string ⟨#[]⟩, .int .u32 0, .bool false, .bool false, .bool false, .slice none 0 0, .int .i64 0, .bool false, .int .u32 0, .string ⟨#[]⟩, .int .u32 0, .bool false, .bool false, .bool false, .slice none 0 0, .int .i64 0, .bool false, .int .u32 0, .string ⟨#[]⟩, .int .u32 0, .bool false, .bool false, .bool false, .slice none 0 0, .int .i64 0, .bool false, .int .u32 0, .string ⟨#[]⟩, .int .u32 0, .bool false, .bool false, .bool false, .slice none 0 0, .int .i64 0, .bool false, .int .u32 0, .string ⟨#[]⟩, .int .u32 0, .bool false, .bool false, .bool false, .slice none 0 0, .int .i64 0, .bool false, .int .u32 0, .string ⟨#[]⟩, .int .u32 0, .bool false, .bool false, .bool false, .slice none 0 0, .int .i64 0, .bool false, .int .u32 0, .string ⟨#[]⟩, .int .u32 0, .bool false, .bool false, .bool false, .slice none 0 0, .int .i64 0, .bool false, .int .u32 0, .string ⟨#[]⟩, .int .u32 0, .bool false, .bool false, .bool false, .slice none 0 0, .int .i64 0, .bool false, .int .u32 0, .string ⟨#[]⟩, .int .u32 0, .bool false, .bool false, .bool false, .slice none 0 0, .int .i64 0, .bool false, .int .u32 0, .string ⟨#[]⟩, .int .u32 0, .bool false, .bool false, .bool false, .slice none 0 0, .int .i64 0, .bool false, .int .u32 0, .string ⟨#[]⟩, .int .u32 0, .bool false, .bool false, .bool false, .slice none 0 0, .int .i64 0, .bool false, .int .u32 0, .string ⟨#[]⟩, .int .u32 0, .bool false, .bool false, .bool false, .slice none 0 0, .int .i64 0, .bool false, .int .u32 0, .string ⟨#[]⟩, .int .u32 0, .bool false, .bool false, .bool false, .slice none 0 0, .int .i64 0, .bool false, .int .u32 0, .string ⟨#[]⟩, .int .u32 0, .bool false, .bool false, .bool false, .slice none 0 0, .int .i64 0, .bool false, .int .u32 0, .string ⟨#[]⟩, .int .u32 0, .bool false, .bool false, .bool false, .slice none 0 0, .int .i64 0, .bool false, .int .u32 0, .string ⟨#[]⟩, .int .u32 0, .bool false, .bool false, .bool false, .slice none 0 0, .int .i64 0, .bool false, .int .u32 0, .string ⟨#[]⟩, .int .u32 0, .bool false, .bool false, .bool false, .slice none 0 0, .int .i64 0, .bool false, .int .u32 0, .string ⟨#[]⟩, .int .u32 0, .bool false, .bool false, .bool false, .slice none 0 0, .int .i64 0, .bool false, .int .u32 0, .string ⟨#[]⟩, .int .u32 0, .bool false, .bool false, .bool false, .slice none 0 0, .int .i64 0, .bool false, .int .u32 0, .string ⟨#[]⟩, .int .u32 0, .bool false, .bool false, .bool false, .slice none 0 0, .int .i64 0, .bool false, .int .u32 0, .string ⟨#[]⟩, .int .u32 0, .bool false, .bool false, .bool false, .slice none 0 0, .int .i64 0, .bool false, .int .u32 0, .string ⟨#[]⟩, .int .u32 0, .bool false, .bool false, .bool false, .slice none 0 0, .int .i64 0, .bool false, .int .u32 0, .string ⟨#[]⟩, .int .u32 0, .bool false, .bool false, .bool false, .slice none 0 0, .int .i64 0, .bool false, .int .u32 0, .string ⟨#[]⟩, .int .u32 0, .bool false, .bool false, .bool false, .slice none 0 0, .int .i64 0, .bool false, .int .u32 0, .string ⟨#[]⟩, .int .u32 0, .bool false, .bool false, .bool false, .slice none 0 0, .int .i64 0, .bool false, .int .u32 0, .string ⟨#[]⟩, .int .u32 0, .bool false, .bool false, .bool false, .slice none 0 0, .int .i64 0, .bool false, .int .u32 0, .string ⟨#[]⟩, .int .u32 0, .bool false, .bool false, .bool false, .slice none 0 0, .int .i64 0, .bool false, .int .u32 0, .string ⟨#[]⟩, .int .u32 0, .bool false, .bool false, .bool false, .slice none 0 0, .int .i64 0, .bool false, .int .u32 0, .string ⟨#[]⟩, .int .u32 0, .bool false, .bool false, .bool false, .slice none 0 0, .int .i64 0, .bool false, .int .u32 0, .string ⟨#[]⟩, .int .u32 0, .bool false, .bool false, .bool false, .slice none 0 0, .int .i64 0, .bool false, .int .u32 0, .string ⟨#[]⟩, .int .u32 0, .bool false, .bool false, .bool false, .slice none 0 0, .int .i64 0, .bool false, .int .u32 0, .string ⟨#[]⟩, .int .u32 0, .bool false, .bool false, .bool false, .slice none 0 0, .int .i64 0, .bool false, .int .u32 0, .string ⟨#[]⟩, .int .u32 0, .bool false, .bool false, .bool false, .slice none 0 0, .int .i64 0, .bool false, .int .u32 0, .string ⟨#[]⟩, .int .u32 0, .bool false, .bool false, .bool false, .slice none 0 0, .int .i64 0, .bool false, .int .u32 0, .string ⟨#[]⟩, .int .u32 0, .bool false, .bool false, .bool false, .slice none 0 0, .int .i64 0, .bool false, .int .u32 0, .string ⟨#[]⟩, .int .u32 0, .bool false, .bool false, .bool false, .slice none 0 0, .int .i64 0, .bool false, .int .u32 0, .string ⟨#[]⟩, .int .u32 0, .bool false, .bool false, .bool false, .slice none 0 0, .int .i64 0, .bool false, .int .u32 0, .string ⟨#[]⟩, .int .u32 0, .bool false, .bool false, .bool false, .slice none 0 0, .int .i64 0, .bool false, .int .u32 0, .string ⟨#[]⟩, .int .u32 0, .bool false, .bool false, .bool false, .slice none 0 0, .int .i64 0, .bool false, .int .u32 0, .string ⟨#[]⟩, .int .u32 0, .bool false, .bool false, .bool false, .slice none 0 0, .int .i64 0, .bool false, .int .u32 0, .string ⟨#[]⟩, .int .u32 0, .bool false, .bool false, .bool false, .slice none 0 0, .int .i64 0, .bool false, .int .u32 0, .string ⟨#[]⟩, .int .u32 0, .bool false, .bool false, .bool false, .slice none 0 0, .int .i64 0, .bool false, .int .u32 0, .string ⟨#[]⟩, .int .u32 0, .bool false, .bool false, .bool false, .slice none 0 0, .int .i64 0, .bool false, .int .u32 0, .string ⟨#[]⟩, .int .u32 0, .bool false, .bool false, .bool false, .slice none 0 0, .int .i64 0, .bool false, .int .u32 0, .string ⟨#[]⟩, .int .u32 0, .bool false, .bool false, .bool false, .slice none 0 0, .int .i64 0, .bool false, .int .u32 0, .string ⟨#[]⟩, .int .u32 0, .bool false, .bool false, .bool false, .slice none 0 0, .int .i64 0, .bool false, .int .u32 0, .string ⟨#[]⟩, .int .u32 0, .bool false, .bool false, .bool false, .slice none 0 0, .int .i64 0, .bool false, .int .u32 0, .string ⟨#[]⟩, .int .u32 0, .bool false, .bool false, .bool false, .slice none 0 0, .int .i64 0, .bool false, .int .u32 0, .string ⟨#[]⟩, .int .u32 0, .bool false, .bool false, .bool false, .slice none 0 0, .int .i64 0, .bool false, .int .u32 0, .string ⟨#[]⟩, .int .u32 0, .bool false, .bool false, .bool false, .slice none 0 0, .int .i64 0, .bool false, .int .u32 0, .string ⟨#[]⟩, .int .u32 0, .bool false, .bool false, .bool false, .slice none 0 0, .int .i64 0, .bool false, .int .u32 0, .string ⟨#[]⟩, .int .u32 0, .bool false, .bool false, .bool false, .slice none 0 0, .int .i64 0, .bool false, .int .u32 0, .string ⟨#[]⟩, .int .u32 0, .bool false, .bool false, .bool false, .slice none 0 0, .int .i64 0, .bool false, .int .u32 0, .string ⟨#[]⟩, .int .u32 0, .bool false, .bool false, .bool false, .slice none 0 0, .int .i64 0, .bool false, .int .u32 0, .string ⟨#[]⟩, .int .u32 0, .bool false, .bool false, .bool false, .slice none 0 0, .int .i64 0, .bool false, .int .u32 0, .string ⟨#[]⟩, .int .u32 0, .bool false, .bool false, .bool false, .slice none 0 0, .int .i64 0, .bool false, .int .u32 0, .string ⟨#[]⟩, .int .u32 0, .bool false, .bool false, .bool false, .slice none 0 0, .int .i64 0, .bool false, .int .u32 0, .string ⟨#[]⟩, .int .u32 0, .bool false, .bool false, .bool false, .slice none 0 0, .int .i64 0, .bool false, .int .u32 0, .string ⟨#[]⟩, .int .u32 0, .bool false, .bool false, .bool false, .slice none 0 0, .int .i64 0, .bool false, .int .u32 0, .string ⟨#[]⟩, .int .u32 0, .bool false, .bool false, .bool false, .slice none 0 0, .int .i64 0, .bool false, .int .u32 0, .string ⟨#[]⟩, .int .u32 0, .bool false, .bool false, .bool false, .slice none 0 0, .int .i64 0, .bool false, .int .u32 0, .string ⟨#[]⟩, .int .u32 0, .bool false, .bool false, .bool false, .slice none 0 0, .int .i64 0, .bool false, .int .u32 0, .string ⟨#[]⟩, .int .u32 0, .bool false, .bool false, .bool false, .slice none 0 0, .int .i64 0, .bool false, .int .u32 0, .string ⟨#[]⟩, .int .u32 0, .bool false, .bool false, .bool false, .slice none 0 0, .int .i64 0, .bool false, .int .u32 0, .string ⟨#[]⟩, .int .u32 0] := by kernel_rfl
theorem bld62_10  : ∀ w : World, (Instr.build 116 #[(0, .bool (true)), (1, .bool (true)), (2, .bool (true)), (3, .slice none 0 0), (4, IN (0)), (5, .bool (false)), (6, U32 (4261441663#32))]).run Tryz.prog w = .ok (.agg #[.bool (true), .bool (true), .bool (true), .slice none 0 0, IN (0), .bool (false), U32 (4261441663#32)]) w := fun _ => by kernel_rfl
theorem zt116 : zeroT Tryz.prog 116 = some #[.bool false, .bool false, .bool false, .slice none 0 0, .int .i64 0, .bool false, .int .u32 0] := by kernel_rfl
theorem bld62_11  : ∀ w : World, (Instr.build 125 #[(0, IN (20)), (1, IN (12))]).run Tryz.prog w = .ok (.agg #[IN (20), IN (12)]) w := fun _ => by kernel_rfl
theorem bls62_12  : ∀ w : World, (Instr.buildSlice 114 1 #[(0, .agg #[IN (20), IN (12)])]).run Tryz.prog w = .ok (.slice (some ⟨w.heap.size, 0, none⟩) 1 1) (w.alloc (.cells #[IN (20), IN (12)] 125)) := fun _ => by kernel_rfl
theorem bld62_13 (b12 : Nat) : ∀ w : World, (Instr.build 116 #[(0, .bool (true)), (1, .bool (true)), (2, .bool (false)), (3, .slice (some ⟨b12, 0, none⟩) 1 1), (4, IN (0)), (5, .bool (true)), (6, U32 (28799#32))]).run Tryz.prog w = .ok (.agg #[.bool (true), .bool (true), .bool (false), .slice (some ⟨b12, 0, none⟩) 1 1, IN (0), .bool (true), U32 (28799#32)]) w := fun _ => by kernel_rfl
theorem bld62_14  : ∀ w : World, (Instr.build 125 #[(0, IN (20)), (1, IN (6))]).run Tryz.prog w = .ok (.agg #[IN (20), IN (6)]) w := fun _ => by kernel_rfl
theorem bls62_15  : ∀ w : World, (Instr.buildSlice 114 1 #[(0, .agg #[IN (20), IN (6)])]).run Tryz.prog w = .ok (.slice (some ⟨w.heap.size, 0, none⟩) 1 1) (w.alloc (.cells #[IN (20), IN (6)] 125)) := fun _ => by kernel_rfl
theorem bld62_16 (b15 : Nat) : ∀ w : World, (Instr.build 116 #[(0, .bool (true)), (1, .bool (true)), (2, .bool (false)), (3, .slice (some ⟨b15, 0, none⟩) 1 1), (4, IN (0)), (5, .bool (false)), (6, U32 (4227887231#32))]).run Tryz.prog w = .ok (.agg #[.bool (true), .bool (true), .bool (false), .slice (some ⟨b15, 0, none⟩) 1 1, IN (0), .bool (false), U32 (4227887231#32)]) w := fun _ => by kernel_rfl
theorem bld62_17  : ∀ w : World, (Instr.build 125 #[(0, IN (20)), (1, IN (5))]).run Tryz.prog w = .ok (.agg #[IN (20), IN (5)]) w := fun _ => by kernel_rfl
theorem bls62_18  : ∀ w : World, (Instr.buildSlice 114 1 #[(0, .agg #[IN (20), IN (5)])]).run Tryz.prog w = .ok (.slice (some ⟨w.heap.size, 0, none⟩) 1 1) (w.alloc (.cells #[IN (20), IN (5)] 125)) := fun _ => by kernel_rfl
theorem bld62_19 (b18 : Nat) : ∀ w : World, (Instr.build 116 #[(0, .bool (true)), (1, .bool (true)), (2, .bool (false)), (3, .slice (some ⟨b18, 0, none⟩) 1 1), (4, IN (0)), (5, .bool (false)), (6, U32 (4261441663#32))]).run Tryz.prog w = .ok (.agg #[.bool (true), .bool (true), .bool (false), .slice (some ⟨b18, 0, none⟩) 1 1, IN (0), .bool (false), U32 (4261441663#32)]) w := fun _ => by kernel_rfl
theorem bld62_20  : ∀ w : World, (Instr.build 125 #[(0, IN (25)), (1, IN (7))]).run Tryz.prog w = .ok (.agg #[IN (25), IN (7)]) w := fun _ => by kernel_rfl
theorem bld62_21  : ∀ w : World, (Instr.build 125 #[(0, IN (7)), (1, IN (5))]).run Tryz.prog w = .ok (.agg #[IN (7), IN (5)]) w := fun _ => by kernel_rfl
theorem bls62_22  : ∀ w : World, (Instr.buildSlice 114 2 #[(0, .agg #[IN (25), IN (7)]), (1, .agg #[IN (7), IN (5)])]).run Tryz.prog w = .ok (.slice (some ⟨w.heap.size, 0, none⟩) 2 2) (w.alloc (.cells #[IN (25), IN (7), IN (7), IN (5)] 125)) := fun _ => by kernel_rfl
theorem bld62_23 (b22 : Nat) : ∀ w : World, (Instr.build 116 #[(0, .bool (false)), (1, .bool (true)), (2, .bool (true)), (3, .slice (some ⟨b22, 0, none⟩) 2 2), (4, IN (0)), (5, .bool (true)), (6, U32 (28799#32))]).run Tryz.prog w = .ok (.agg #[.bool (false), .bool (true), .bool (true), .slice (some ⟨b22, 0, none⟩) 2 2, IN (0), .bool (true), U32 (28799#32)]) w := fun _ => by kernel_rfl
theorem bld62_24  : ∀ w : World, (Instr.build 125 #[(0, IN (31)), (1, IN (1))]).run Tryz.prog w = .ok (.agg #[IN (31), IN (1)]) w := fun _ => by kernel_rfl
theorem bld62_25  : ∀ w : World, (Instr.build 125 #[(0, IN (7)), (1, IN (1))]).run Tryz.prog w = .ok (.agg #[IN (7), IN (1)]) w := fun _ => by kernel_rfl
theorem bld62_26  : ∀ w : World, (Instr.build 125 #[(0, IN (25)), (1, IN (6))]).run Tryz.prog w = .ok (.agg #[IN (25), IN (6)]) w := fun _ => by kernel_rfl
theorem bld62_27  : ∀ w : World, (Instr.build 125 #[(0, IN (8)), (1, IN (4))]).run Tryz.prog w = .ok (.agg #[IN (8), IN (4)]) w := fun _ => by kernel_rfl
theorem bls62_28  : ∀ w : World, (Instr.buildSlice 114 4 #[(0, .agg #[IN (31), IN (1)]), (1, .agg #[IN (7), IN (1)]), (2, .agg #[IN (25), IN (6)]), (3, .agg #[IN (8), IN (4)])]).run Tryz.prog w = .ok (.slice (some ⟨w.heap.size, 0, none⟩) 4 4) (w.alloc (.cells #[IN (31), IN (1), IN (7), IN (1), IN (25), IN (6), IN (8), IN (4)] 125)) := fun _ => by kernel_rfl
theorem bld62_29 (b28 : Nat) : ∀ w : World, (Instr.build 116 #[(0, .bool (false)), (1, .bool (true)), (2, .bool (true)), (3, .slice (some ⟨b28, 0, none⟩) 4 4), (4, IN (1)), (5, .bool (true)), (6, U32 (28799#32))]).run Tryz.prog w = .ok (.agg #[.bool (false), .bool (true), .bool (true), .slice (some ⟨b28, 0, none⟩) 4 4, IN (1), .bool (true), U32 (28799#32)]) w := fun _ => by kernel_rfl
theorem bld62_30  : ∀ w : World, (Instr.build 125 #[(0, IN (12)), (1, IN (20))]).run Tryz.prog w = .ok (.agg #[IN (12), IN (20)]) w := fun _ => by kernel_rfl
theorem bls62_31  : ∀ w : World, (Instr.buildSlice 114 1 #[(0, .agg #[IN (12), IN (20)])]).run Tryz.prog w = .ok (.slice (some ⟨w.heap.size, 0, none⟩) 1 1) (w.alloc (.cells #[IN (12), IN (20)] 125)) := fun _ => by kernel_rfl
theorem bld62_32 (b31 : Nat) : ∀ w : World, (Instr.build 116 #[(0, .bool (true)), (1, .bool (false)), (2, .bool (false)), (3, .slice (some ⟨b31, 0, none⟩) 1 1), (4, IN (12)), (5, .bool (true)), (6, U32 (127#32))]).run Tryz.prog w = .ok (.agg #[.bool (true), .bool (false), .bool (false), .slice (some ⟨b31, 0, none⟩) 1 1, IN (12), .bool (true), U32 (127#32)]) w := fun _ => by kernel_rfl
theorem bld62_33  : ∀ w : World, (Instr.build 125 #[(0, IN (31)), (1, IN (1))]).run Tryz.prog w = .ok (.agg #[IN (31), IN (1)]) w := fun _ => by kernel_rfl
theorem bld62_34  : ∀ w : World, (Instr.build 125 #[(0, IN (12)), (1, IN (8))]).run Tryz.prog w = .ok (.agg #[IN (12), IN (8)]) w := fun _ => by kernel_rfl
theorem bld62_35  : ∀ w : World, (Instr.build 125 #[(0, IN (20)), (1, IN (1))]).run Tryz.prog w = .ok (.agg #[IN (20), IN (1)]) w := fun _ => by kernel_rfl
theorem bld62_36  : ∀ w : World, (Instr.build 125 #[(0, IN (21)), (1, IN (10))]).run Tryz.prog w = .ok (.agg #[IN (21), IN (10)]) w := fun _ => by kernel_rfl
theorem bls62_37  : ∀ w : World, (Instr.buildSlice 114 4 #[(0, .agg #[IN (31), IN (1)]), (1, .agg #[IN (12), IN (8)]), (2, .agg #[IN (20), IN (1)]), (3, .agg #[IN (21), IN (10)])]).run Tryz.prog w = .ok (.slice (some ⟨w.heap.size, 0, none⟩) 4 4) (w.alloc (.cells #[IN (31), IN (1), IN (12), IN (8), IN (20), IN (1), IN (21), IN (10)] 125)) := fun _ => by kernel_rfl
theorem bld62_38 (b37 : Nat) : ∀ w : World, (Instr.build 116 #[(0, .bool (true)), (1, .bool (false)), (2, .bool (false)), (3, .slice (some ⟨b37, 0, none⟩) 4 4), (4, IN (1)), (5, .bool (true)), (6, U32 (127#32))]).run Tryz.prog w = .ok (.agg #[.bool (true), .bool (false), .bool (false), .slice (some ⟨b37, 0, none⟩) 4 4, IN (1), .bool (true), U32 (127#32)]) w := fun _ => by kernel_rfl
theorem bld62_39  : ∀ w : World, (Instr.build 116 #[(6, U32 (4294967295#32))]).run Tryz.prog w = .ok (.agg #[.bool (false), .bool (false), .bool (false), .slice none 0 0, IN (0), .bool (false), U32 (4294967295#32)]) w := fun _ => by kernel_rfl
noncomputable def R62 : List Oper := regionIn Tryz.f62 10
theorem R62_t0_0 : (Region.noSelect R62.toArray && Region.free .any R62.toArray (Go.Ux.bits R62.toArray.size 0) 0 && (Region.ready .any R62.toArray (Go.Ux.bits R62.toArray.size 0)).contains 0) = true := by kernel_rfl
theorem R62_t2_1 : (Region.noSelect R62.toArray && Region.free .any R62.toArray (Go.Ux.bits R62.toArray.size 1) 2 && (Region.ready .any R62.toArray (Go.Ux.bits R62.toArray.size 1)).contains 2) = true := by kernel_rfl
theorem R62_t4_5 : (Region.noSelect R62.toArray && Region.free .any R62.toArray (Go.Ux.bits R62.toArray.size 5) 4 && (Region.ready .any R62.toArray (Go.Ux.bits R62.toArray.size 5)).contains 4) = true := by kernel_rfl
theorem R62_t6_15 : (Region.noSelect R62.toArray && Region.free .any R62.toArray (Go.Ux.bits R62.toArray.size 21) 6 && (Region.ready .any R62.toArray (Go.Ux.bits R62.toArray.size 21)).contains 6) = true := by kernel_rfl
theorem R62_t8_55 : (Region.noSelect R62.toArray && Region.free .any R62.toArray (Go.Ux.bits R62.toArray.size 85) 8 && (Region.ready .any R62.toArray (Go.Ux.bits R62.toArray.size 85)).contains 8) = true := by kernel_rfl
theorem R62_t10_155 : (Region.noSelect R62.toArray && Region.free .any R62.toArray (Go.Ux.bits R62.toArray.size 341) 10 && (Region.ready .any R62.toArray (Go.Ux.bits R62.toArray.size 341)).contains 10) = true := by kernel_rfl
theorem R62_t12_555 : (Region.noSelect R62.toArray && Region.free .any R62.toArray (Go.Ux.bits R62.toArray.size 1365) 12 && (Region.ready .any R62.toArray (Go.Ux.bits R62.toArray.size 1365)).contains 12) = true := by kernel_rfl
theorem R62_t14_1555 : (Region.noSelect R62.toArray && Region.free .any R62.toArray (Go.Ux.bits R62.toArray.size 5461) 14 && (Region.ready .any R62.toArray (Go.Ux.bits R62.toArray.size 5461)).contains 14) = true := by kernel_rfl
theorem R62_t16_5555 : (Region.noSelect R62.toArray && Region.free .any R62.toArray (Go.Ux.bits R62.toArray.size 21845) 16 && (Region.ready .any R62.toArray (Go.Ux.bits R62.toArray.size 21845)).contains 16) = true := by kernel_rfl
theorem R62_t18_15555 : (Region.noSelect R62.toArray && Region.free .any R62.toArray (Go.Ux.bits R62.toArray.size 87381) 18 && (Region.ready .any R62.toArray (Go.Ux.bits R62.toArray.size 87381)).contains 18) = true := by kernel_rfl
theorem R62_t20_55555 : (Region.noSelect R62.toArray && Region.free .any R62.toArray (Go.Ux.bits R62.toArray.size 349525) 20 && (Region.ready .any R62.toArray (Go.Ux.bits R62.toArray.size 349525)).contains 20) = true := by kernel_rfl
theorem R62_t22_155555 : (Region.noSelect R62.toArray && Region.free .any R62.toArray (Go.Ux.bits R62.toArray.size 1398101) 22 && (Region.ready .any R62.toArray (Go.Ux.bits R62.toArray.size 1398101)).contains 22) = true := by kernel_rfl
theorem R62_t24_555555 : (Region.noSelect R62.toArray && Region.free .any R62.toArray (Go.Ux.bits R62.toArray.size 5592405) 24 && (Region.ready .any R62.toArray (Go.Ux.bits R62.toArray.size 5592405)).contains 24) = true := by kernel_rfl
theorem R62_t26_1555555 : (Region.noSelect R62.toArray && Region.free .any R62.toArray (Go.Ux.bits R62.toArray.size 22369621) 26 && (Region.ready .any R62.toArray (Go.Ux.bits R62.toArray.size 22369621)).contains 26) = true := by kernel_rfl
theorem R62_t28_5555555 : (Region.noSelect R62.toArray && Region.free .any R62.toArray (Go.Ux.bits R62.toArray.size 89478485) 28 && (Region.ready .any R62.toArray (Go.Ux.bits R62.toArray.size 89478485)).contains 28) = true := by kernel_rfl
theorem R62_t30_15555555 : (Region.noSelect R62.toArray && Region.free .any R62.toArray (Go.Ux.bits R62.toArray.size 357913941) 30 && (Region.ready .any R62.toArray (Go.Ux.bits R62.toArray.size 357913941)).contains 30) = true := by kernel_rfl
theorem R62_t32_55555555 : (Region.noSelect R62.toArray && Region.free .any R62.toArray (Go.Ux.bits R62.toArray.size 1431655765) 32 && (Region.ready .any R62.toArray (Go.Ux.bits R62.toArray.size 1431655765)).contains 32) = true := by kernel_rfl
theorem R62_t34_155555555 : (Region.noSelect R62.toArray && Region.free .any R62.toArray (Go.Ux.bits R62.toArray.size 5726623061) 34 && (Region.ready .any R62.toArray (Go.Ux.bits R62.toArray.size 5726623061)).contains 34) = true := by kernel_rfl
theorem R62_t36_555555555 : (Region.noSelect R62.toArray && Region.free .any R62.toArray (Go.Ux.bits R62.toArray.size 22906492245) 36 && (Region.ready .any R62.toArray (Go.Ux.bits R62.toArray.size 22906492245)).contains 36) = true := by kernel_rfl
theorem R62_t38_1555555555 : (Region.noSelect R62.toArray && Region.free .any R62.toArray (Go.Ux.bits R62.toArray.size 91625968981) 38 && (Region.ready .any R62.toArray (Go.Ux.bits R62.toArray.size 91625968981)).contains 38) = true := by kernel_rfl
theorem R62_t40_5555555555 : (Region.noSelect R62.toArray && Region.free .any R62.toArray (Go.Ux.bits R62.toArray.size 366503875925) 40 && (Region.ready .any R62.toArray (Go.Ux.bits R62.toArray.size 366503875925)).contains 40) = true := by kernel_rfl
theorem R62_t42_15555555555 : (Region.noSelect R62.toArray && Region.free .any R62.toArray (Go.Ux.bits R62.toArray.size 1466015503701) 42 && (Region.ready .any R62.toArray (Go.Ux.bits R62.toArray.size 1466015503701)).contains 42) = true := by kernel_rfl
theorem R62_t44_55555555555 : (Region.noSelect R62.toArray && Region.free .any R62.toArray (Go.Ux.bits R62.toArray.size 5864062014805) 44 && (Region.ready .any R62.toArray (Go.Ux.bits R62.toArray.size 5864062014805)).contains 44) = true := by kernel_rfl
theorem R62_t46_155555555555 : (Region.noSelect R62.toArray && Region.free .any R62.toArray (Go.Ux.bits R62.toArray.size 23456248059221) 46 && (Region.ready .any R62.toArray (Go.Ux.bits R62.toArray.size 23456248059221)).contains 46) = true := by kernel_rfl
theorem R62_t48_555555555555 : (Region.noSelect R62.toArray && Region.free .any R62.toArray (Go.Ux.bits R62.toArray.size 93824992236885) 48 && (Region.ready .any R62.toArray (Go.Ux.bits R62.toArray.size 93824992236885)).contains 48) = true := by kernel_rfl
theorem R62_t50_1555555555555 : (Region.noSelect R62.toArray && Region.free .any R62.toArray (Go.Ux.bits R62.toArray.size 375299968947541) 50 && (Region.ready .any R62.toArray (Go.Ux.bits R62.toArray.size 375299968947541)).contains 50) = true := by kernel_rfl
theorem R62_t52_5555555555555 : (Region.noSelect R62.toArray && Region.free .any R62.toArray (Go.Ux.bits R62.toArray.size 1501199875790165) 52 && (Region.ready .any R62.toArray (Go.Ux.bits R62.toArray.size 1501199875790165)).contains 52) = true := by kernel_rfl
theorem R62_t54_15555555555555 : (Region.noSelect R62.toArray && Region.free .any R62.toArray (Go.Ux.bits R62.toArray.size 6004799503160661) 54 && (Region.ready .any R62.toArray (Go.Ux.bits R62.toArray.size 6004799503160661)).contains 54) = true := by kernel_rfl
theorem R62_t56_55555555555555 : (Region.noSelect R62.toArray && Region.free .any R62.toArray (Go.Ux.bits R62.toArray.size 24019198012642645) 56 && (Region.ready .any R62.toArray (Go.Ux.bits R62.toArray.size 24019198012642645)).contains 56) = true := by kernel_rfl
theorem R62_t58_155555555555555 : (Region.noSelect R62.toArray && Region.free .any R62.toArray (Go.Ux.bits R62.toArray.size 96076792050570581) 58 && (Region.ready .any R62.toArray (Go.Ux.bits R62.toArray.size 96076792050570581)).contains 58) = true := by kernel_rfl
theorem R62_t60_555555555555555 : (Region.noSelect R62.toArray && Region.free .any R62.toArray (Go.Ux.bits R62.toArray.size 384307168202282325) 60 && (Region.ready .any R62.toArray (Go.Ux.bits R62.toArray.size 384307168202282325)).contains 60) = true := by kernel_rfl
theorem R62_t62_1555555555555555 : (Region.noSelect R62.toArray && Region.free .any R62.toArray (Go.Ux.bits R62.toArray.size 1537228672809129301) 62 && (Region.ready .any R62.toArray (Go.Ux.bits R62.toArray.size 1537228672809129301)).contains 62) = true := by kernel_rfl
theorem R62_t64_5555555555555555 : (Region.noSelect R62.toArray && Region.free .any R62.toArray (Go.Ux.bits R62.toArray.size 6148914691236517205) 64 && (Region.ready .any R62.toArray (Go.Ux.bits R62.toArray.size 6148914691236517205)).contains 64) = true := by kernel_rfl
theorem R62_t66_15555555555555555 : (Region.noSelect R62.toArray && Region.free .any R62.toArray (Go.Ux.bits R62.toArray.size 24595658764946068821) 66 && (Region.ready .any R62.toArray (Go.Ux.bits R62.toArray.size 24595658764946068821)).contains 66) = true := by kernel_rfl
theorem R62_t68_55555555555555555 : (Region.noSelect R62.toArray && Region.free .any R62.toArray (Go.Ux.bits R62.toArray.size 98382635059784275285) 68 && (Region.ready .any R62.toArray (Go.Ux.bits R62.toArray.size 98382635059784275285)).contains 68) = true := by kernel_rfl
theorem R62_t70_155555555555555555 : (Region.noSelect R62.toArray && Region.free .any R62.toArray (Go.Ux.bits R62.toArray.size 393530540239137101141) 70 && (Region.ready .any R62.toArray (Go.Ux.bits R62.toArray.size 393530540239137101141)).contains 70) = true := by kernel_rfl
theorem R62_t72_555555555555555555 : (Region.noSelect R62.toArray && Region.free .any R62.toArray (Go.Ux.bits R62.toArray.size 1574122160956548404565) 72 && (Region.ready .any R62.toArray (Go.Ux.bits R62.toArray.size 1574122160956548404565)).contains 72) = true := by kernel_rfl
theorem R62_t74_1555555555555555555 : (Region.noSelect R62.toArray && Region.free .any R62.toArray (Go.Ux.bits R62.toArray.size 6296488643826193618261) 74 && (Region.ready .any R62.toArray (Go.Ux.bits R62.toArray.size 6296488643826193618261)).contains 74) = true := by kernel_rfl
theorem R62_t76_5555555555555555555 : (Region.noSelect R62.toArray && Region.free .any R62.toArray (Go.Ux.bits R62.toArray.size 25185954575304774473045) 76 && (Region.ready .any R62.toArray (Go.Ux.bits R62.toArray.size 25185954575304774473045)).contains 76) = true := by kernel_rfl
theorem R62_t78_15555555555555555555 : (Region.noSelect R62.toArray && Region.free .any R62.toArray (Go.Ux.bits R62.toArray.size 100743818301219097892181) 78 && (Region.ready .any R62.toArray (Go.Ux.bits R62.toArray.size 100743818301219097892181)).contains 78) = true := by kernel_rfl
theorem R62_t80_55555555555555555555 : (Region.noSelect R62.toArray && Region.free .any R62.toArray (Go.Ux.bits R62.toArray.size 402975273204876391568725) 80 && (Region.ready .any R62.toArray (Go.Ux.bits R62.toArray.size 402975273204876391568725)).contains 80) = true := by kernel_rfl
theorem R62_t82_155555555555555555555 : (Region.noSelect R62.toArray && Region.free .any R62.toArray (Go.Ux.bits R62.toArray.size 1611901092819505566274901) 82 && (Region.ready .any R62.toArray (Go.Ux.bits R62.toArray.size 1611901092819505566274901)).contains 82) = true := by kernel_rfl
theorem R62_t84_555555555555555555555 : (Region.noSelect R62.toArray && Region.free .any R62.toArray (Go.Ux.bits R62.toArray.size 6447604371278022265099605) 84 && (Region.ready .any R62.toArray (Go.Ux.bits R62.toArray.size 6447604371278022265099605)).contains 84) = true := by kernel_rfl
theorem R62_t86_1555555555555555555555 : (Region.noSelect R62.toArray && Region.free .any R62.toArray (Go.Ux.bits R62.toArray.size 25790417485112089060398421) 86 && (Region.ready .any R62.toArray (Go.Ux.bits R62.toArray.size 25790417485112089060398421)).contains 86) = true := by kernel_rfl
theorem R62_t88_5555555555555555555555 : (Region.noSelect R62.toArray && Region.free .any R62.toArray (Go.Ux.bits R62.toArray.size 103161669940448356241593685) 88 && (Region.ready .any R62.toArray (Go.Ux.bits R62.toArray.size 103161669940448356241593685)).contains 88) = true := by kernel_rfl
theorem R62_t90_15555555555555555555555 : (Region.noSelect R62.toArray && Region.free .any R62.toArray (Go.Ux.bits R62.toArray.size 412646679761793424966374741) 90 && (Region.ready .any R62.toArray (Go.Ux.bits R62.toArray.size 412646679761793424966374741)).contains 90) = true := by kernel_rfl
theorem R62_t92_55555555555555555555555 : (Region.noSelect R62.toArray && Region.free .any R62.toArray (Go.Ux.bits R62.toArray.size 1650586719047173699865498965) 92 && (Region.ready .any R62.toArray (Go.Ux.bits R62.toArray.size 1650586719047173699865498965)).contains 92) = true := by kernel_rfl
theorem R62_t94_155555555555555555555555 : (Region.noSelect R62.toArray && Region.free .any R62.toArray (Go.Ux.bits R62.toArray.size 6602346876188694799461995861) 94 && (Region.ready .any R62.toArray (Go.Ux.bits R62.toArray.size 6602346876188694799461995861)).contains 94) = true := by kernel_rfl
theorem R62_t96_555555555555555555555555 : (Region.noSelect R62.toArray && Region.free .any R62.toArray (Go.Ux.bits R62.toArray.size 26409387504754779197847983445) 96 && (Region.ready .any R62.toArray (Go.Ux.bits R62.toArray.size 26409387504754779197847983445)).contains 96) = true := by kernel_rfl
theorem R62_t98_1555555555555555555555555 : (Region.noSelect R62.toArray && Region.free .any R62.toArray (Go.Ux.bits R62.toArray.size 105637550019019116791391933781) 98 && (Region.ready .any R62.toArray (Go.Ux.bits R62.toArray.size 105637550019019116791391933781)).contains 98) = true := by kernel_rfl
theorem R62_t100_5555555555555555555555555 : (Region.noSelect R62.toArray && Region.free .any R62.toArray (Go.Ux.bits R62.toArray.size 422550200076076467165567735125) 100 && (Region.ready .any R62.toArray (Go.Ux.bits R62.toArray.size 422550200076076467165567735125)).contains 100) = true := by kernel_rfl
theorem R62_t102_15555555555555555555555555 : (Region.noSelect R62.toArray && Region.free .any R62.toArray (Go.Ux.bits R62.toArray.size 1690200800304305868662270940501) 102 && (Region.ready .any R62.toArray (Go.Ux.bits R62.toArray.size 1690200800304305868662270940501)).contains 102) = true := by kernel_rfl
theorem R62_t104_55555555555555555555555555 : (Region.noSelect R62.toArray && Region.free .any R62.toArray (Go.Ux.bits R62.toArray.size 6760803201217223474649083762005) 104 && (Region.ready .any R62.toArray (Go.Ux.bits R62.toArray.size 6760803201217223474649083762005)).contains 104) = true := by kernel_rfl
theorem R62_t106_155555555555555555555555555 : (Region.noSelect R62.toArray && Region.free .any R62.toArray (Go.Ux.bits R62.toArray.size 27043212804868893898596335048021) 106 && (Region.ready .any R62.toArray (Go.Ux.bits R62.toArray.size 27043212804868893898596335048021)).contains 106) = true := by kernel_rfl
theorem R62_t108_555555555555555555555555555 : (Region.noSelect R62.toArray && Region.free .any R62.toArray (Go.Ux.bits R62.toArray.size 108172851219475575594385340192085) 108 && (Region.ready .any R62.toArray (Go.Ux.bits R62.toArray.size 108172851219475575594385340192085)).contains 108) = true := by kernel_rfl
theorem R62_t110_1555555555555555555555555555 : (Region.noSelect R62.toArray && Region.free .any R62.toArray (Go.Ux.bits R62.toArray.size 432691404877902302377541360768341) 110 && (Region.ready .any R62.toArray (Go.Ux.bits R62.toArray.size 432691404877902302377541360768341)).contains 110) = true := by kernel_rfl
theorem R62_t112_5555555555555555555555555555 : (Region.noSelect R62.toArray && Region.free .any R62.toArray (Go.Ux.bits R62.toArray.size 1730765619511609209510165443073365) 112 && (Region.ready .any R62.toArray (Go.Ux.bits R62.toArray.size 1730765619511609209510165443073365)).contains 112) = true := by kernel_rfl
theorem R62_t114_15555555555555555555555555555 : (Region.noSelect R62.toArray && Region.free .any R62.toArray (Go.Ux.bits R62.toArray.size 6923062478046436838040661772293461) 114 && (Region.ready .any R62.toArray (Go.Ux.bits R62.toArray.size 6923062478046436838040661772293461)).contains 114) = true := by kernel_rfl
theorem R62_t116_55555555555555555555555555555 : (Region.noSelect R62.toArray && Region.free .any R62.toArray (Go.Ux.bits R62.toArray.size 27692249912185747352162647089173845) 116 && (Region.ready .any R62.toArray (Go.Ux.bits R62.toArray.size 27692249912185747352162647089173845)).contains 116) = true := by kernel_rfl
theorem R62_t118_155555555555555555555555555555 : (Region.noSelect R62.toArray && Region.free .any R62.toArray (Go.Ux.bits R62.toArray.size 110768999648742989408650588356695381) 118 && (Region.ready .any R62.toArray (Go.Ux.bits R62.toArray.size 110768999648742989408650588356695381)).contains 118) = true := by kernel_rfl
theorem R62_t120_555555555555555555555555555555 : (Region.noSelect R62.toArray && Region.free .any R62.toArray (Go.Ux.bits R62.toArray.size 443075998594971957634602353426781525) 120 && (Region.ready .any R62.toArray (Go.Ux.bits R62.toArray.size 443075998594971957634602353426781525)).contains 120) = true := by kernel_rfl
theorem R62_t122_1555555555555555555555555555555 : (Region.noSelect R62.toArray && Region.free .any R62.toArray (Go.Ux.bits R62.toArray.size 1772303994379887830538409413707126101) 122 && (Region.ready .any R62.toArray (Go.Ux.bits R62.toArray.size 1772303994379887830538409413707126101)).contains 122) = true := by kernel_rfl
theorem R62_t124_5555555555555555555555555555555 : (Region.noSelect R62.toArray && Region.free .any R62.toArray (Go.Ux.bits R62.toArray.size 7089215977519551322153637654828504405) 124 && (Region.ready .any R62.toArray (Go.Ux.bits R62.toArray.size 7089215977519551322153637654828504405)).contains 124) = true := by kernel_rfl
theorem R62_t126_15555555555555555555555555555555 : (Region.noSelect R62.toArray && Region.free .any R62.toArray (Go.Ux.bits R62.toArray.size 28356863910078205288614550619314017621) 126 && (Region.ready .any R62.toArray (Go.Ux.bits R62.toArray.size 28356863910078205288614550619314017621)).contains 126) = true := by kernel_rfl
theorem R62_t128_55555555555555555555555555555555 : (Region.noSelect R62.toArray && Region.free .any R62.toArray (Go.Ux.bits R62.toArray.size 113427455640312821154458202477256070485) 128 && (Region.ready .any R62.toArray (Go.Ux.bits R62.toArray.size 113427455640312821154458202477256070485)).contains 128) = true := by kernel_rfl
theorem R62_o1_155555555555555555555555555555555 : Region.ready .any R62.toArray (Go.Ux.bits R62.toArray.size 453709822561251284617832809909024281941) = [1] := by kernel_rfl
theorem ca91 : callable Tryz.prog 91 = true := by kernel_rfl
theorem R62_o3_155555555555555555555555555555557 : Region.ready .any R62.toArray (Go.Ux.bits R62.toArray.size 453709822561251284617832809909024281943) = [3] := by kernel_rfl
theorem R62_o5_15555555555555555555555555555555f : Region.ready .any R62.toArray (Go.Ux.bits R62.toArray.size 453709822561251284617832809909024281951) = [5] := by kernel_rfl
theorem R62_o7_15555555555555555555555555555557f : Region.ready .any R62.toArray (Go.Ux.bits R62.toArray.size 453709822561251284617832809909024281983) = [7] := by kernel_rfl
theorem R62_o9_1555555555555555555555555555555ff : Region.ready .any R62.toArray (Go.Ux.bits R62.toArray.size 453709822561251284617832809909024282111) = [9] := by kernel_rfl
theorem R62_o11_1555555555555555555555555555557ff : Region.ready .any R62.toArray (Go.Ux.bits R62.toArray.size 453709822561251284617832809909024282623) = [11] := by kernel_rfl
theorem R62_o13_155555555555555555555555555555fff : Region.ready .any R62.toArray (Go.Ux.bits R62.toArray.size 453709822561251284617832809909024284671) = [13] := by kernel_rfl
theorem R62_o15_155555555555555555555555555557fff : Region.ready .any R62.toArray (Go.Ux.bits R62.toArray.size 453709822561251284617832809909024292863) = [15] := by kernel_rfl
theorem R62_o17_15555555555555555555555555555ffff : Region.ready .any R62.toArray (Go.Ux.bits R62.toArray.size 453709822561251284617832809909024325631) = [17] := by kernel_rfl
theorem R62_o19_15555555555555555555555555557ffff : Region.ready .any R62.toArray (Go.Ux.bits R62.toArray.size 453709822561251284617832809909024456703) = [19] := by kernel_rfl
theorem R62_o21_1555555555555555555555555555fffff : Region.ready .any R62.toArray (Go.Ux.bits R62.toArray.size 453709822561251284617832809909024980991) = [21] := by kernel_rfl
theorem R62_o23_1555555555555555555555555557fffff : Region.ready .any R62.toArray (Go.Ux.bits R62.toArray.size 453709822561251284617832809909027078143) = [23] := by kernel_rfl
theorem R62_o25_155555555555555555555555555ffffff : Region.ready .any R62.toArray (Go.Ux.bits R62.toArray.size 453709822561251284617832809909035466751) = [25] := by kernel_rfl
theorem R62_o27_155555555555555555555555557ffffff : Region.ready .any R62.toArray (Go.Ux.bits R62.toArray.size 453709822561251284617832809909069021183) = [27] := by kernel_rfl
theorem R62_o29_15555555555555555555555555fffffff : Region.ready .any R62.toArray (Go.Ux.bits R62.toArray.size 453709822561251284617832809909203238911) = [29] := by kernel_rfl
theorem R62_o31_15555555555555555555555557fffffff : Region.ready .any R62.toArray (Go.Ux.bits R62.toArray.size 453709822561251284617832809909740109823) = [31] := by kernel_rfl
theorem R62_o33_1555555555555555555555555ffffffff : Region.ready .any R62.toArray (Go.Ux.bits R62.toArray.size 453709822561251284617832809911887593471) = [33] := by kernel_rfl
theorem R62_o35_1555555555555555555555557ffffffff : Region.ready .any R62.toArray (Go.Ux.bits R62.toArray.size 453709822561251284617832809920477528063) = [35] := by kernel_rfl
theorem R62_o37_155555555555555555555555fffffffff : Region.ready .any R62.toArray (Go.Ux.bits R62.toArray.size 453709822561251284617832809954837266431) = [37] := by kernel_rfl
theorem R62_o39_155555555555555555555557fffffffff : Region.ready .any R62.toArray (Go.Ux.bits R62.toArray.size 453709822561251284617832810092276219903) = [39] := by kernel_rfl
theorem R62_o41_15555555555555555555555ffffffffff : Region.ready .any R62.toArray (Go.Ux.bits R62.toArray.size 453709822561251284617832810642032033791) = [41] := by kernel_rfl
theorem R62_o43_15555555555555555555557ffffffffff : Region.ready .any R62.toArray (Go.Ux.bits R62.toArray.size 453709822561251284617832812841055289343) = [43] := by kernel_rfl
theorem R62_o45_1555555555555555555555fffffffffff : Region.ready .any R62.toArray (Go.Ux.bits R62.toArray.size 453709822561251284617832821637148311551) = [45] := by kernel_rfl
theorem R62_o47_1555555555555555555557fffffffffff : Region.ready .any R62.toArray (Go.Ux.bits R62.toArray.size 453709822561251284617832856821520400383) = [47] := by kernel_rfl
theorem R62_o49_155555555555555555555ffffffffffff : Region.ready .any R62.toArray (Go.Ux.bits R62.toArray.size 453709822561251284617832997559008755711) = [49] := by kernel_rfl
theorem R62_o51_155555555555555555557ffffffffffff : Region.ready .any R62.toArray (Go.Ux.bits R62.toArray.size 453709822561251284617833560508962177023) = [51] := by kernel_rfl
theorem R62_o53_15555555555555555555fffffffffffff : Region.ready .any R62.toArray (Go.Ux.bits R62.toArray.size 453709822561251284617835812308775862271) = [53] := by kernel_rfl
theorem R62_o55_15555555555555555557fffffffffffff : Region.ready .any R62.toArray (Go.Ux.bits R62.toArray.size 453709822561251284617844819508030603263) = [55] := by kernel_rfl
theorem R62_o57_1555555555555555555ffffffffffffff : Region.ready .any R62.toArray (Go.Ux.bits R62.toArray.size 453709822561251284617880848305049567231) = [57] := by kernel_rfl
theorem R62_o59_1555555555555555557ffffffffffffff : Region.ready .any R62.toArray (Go.Ux.bits R62.toArray.size 453709822561251284618024963493125423103) = [59] := by kernel_rfl
theorem R62_o61_155555555555555555fffffffffffffff : Region.ready .any R62.toArray (Go.Ux.bits R62.toArray.size 453709822561251284618601424245428846591) = [61] := by kernel_rfl
theorem R62_o63_155555555555555557fffffffffffffff : Region.ready .any R62.toArray (Go.Ux.bits R62.toArray.size 453709822561251284620907267254642540543) = [63] := by kernel_rfl
theorem R62_o65_15555555555555555ffffffffffffffff : Region.ready .any R62.toArray (Go.Ux.bits R62.toArray.size 453709822561251284630130639291497316351) = [65] := by kernel_rfl
theorem R62_o67_15555555555555557ffffffffffffffff : Region.ready .any R62.toArray (Go.Ux.bits R62.toArray.size 453709822561251284667024127438916419583) = [67] := by kernel_rfl
theorem R62_o69_1555555555555555fffffffffffffffff : Region.ready .any R62.toArray (Go.Ux.bits R62.toArray.size 453709822561251284814598080028592832511) = [69] := by kernel_rfl
theorem R62_o71_1555555555555557fffffffffffffffff : Region.ready .any R62.toArray (Go.Ux.bits R62.toArray.size 453709822561251285404893890387298484223) = [71] := by kernel_rfl
theorem R62_o73_155555555555555ffffffffffffffffff : Region.ready .any R62.toArray (Go.Ux.bits R62.toArray.size 453709822561251287766077131822121091071) = [73] := by kernel_rfl
theorem R62_o75_155555555555557ffffffffffffffffff : Region.ready .any R62.toArray (Go.Ux.bits R62.toArray.size 453709822561251297210810097561411518463) = [75] := by kernel_rfl
theorem R62_o77_15555555555555fffffffffffffffffff : Region.ready .any R62.toArray (Go.Ux.bits R62.toArray.size 453709822561251334989741960518573228031) = [77] := by kernel_rfl
theorem R62_o79_15555555555557fffffffffffffffffff : Region.ready .any R62.toArray (Go.Ux.bits R62.toArray.size 453709822561251486105469412347220066303) = [79] := by kernel_rfl
theorem R62_o81_1555555555555ffffffffffffffffffff : Region.ready .any R62.toArray (Go.Ux.bits R62.toArray.size 453709822561252090568379219661807419391) = [81] := by kernel_rfl
theorem R62_o83_1555555555557ffffffffffffffffffff : Region.ready .any R62.toArray (Go.Ux.bits R62.toArray.size 453709822561254508420018448920156831743) = [83] := by kernel_rfl
theorem R62_o85_155555555555fffffffffffffffffffff : Region.ready .any R62.toArray (Go.Ux.bits R62.toArray.size 453709822561264179826575365953554481151) = [85] := by kernel_rfl
theorem R62_o87_155555555557fffffffffffffffffffff : Region.ready .any R62.toArray (Go.Ux.bits R62.toArray.size 453709822561302865452803034087145078783) = [87] := by kernel_rfl
theorem R62_o89_15555555555ffffffffffffffffffffff : Region.ready .any R62.toArray (Go.Ux.bits R62.toArray.size 453709822561457607957713706621507469311) = [89] := by kernel_rfl
theorem R62_o91_15555555557ffffffffffffffffffffff : Region.ready .any R62.toArray (Go.Ux.bits R62.toArray.size 453709822562076577977356396758957031423) = [91] := by kernel_rfl
theorem R62_o93_1555555555fffffffffffffffffffffff : Region.ready .any R62.toArray (Go.Ux.bits R62.toArray.size 453709822564552458055927157308755279871) = [93] := by kernel_rfl
theorem R62_o95_1555555557fffffffffffffffffffffff : Region.ready .any R62.toArray (Go.Ux.bits R62.toArray.size 453709822574455978370210199507948273663) = [95] := by kernel_rfl
theorem R62_o97_155555555ffffffffffffffffffffffff : Region.ready .any R62.toArray (Go.Ux.bits R62.toArray.size 453709822614070059627342368304720248831) = [97] := by kernel_rfl
theorem R62_o99_155555557ffffffffffffffffffffffff : Region.ready .any R62.toArray (Go.Ux.bits R62.toArray.size 453709822772526384655871043491808149503) = [99] := by kernel_rfl
theorem R62_o101_15555555fffffffffffffffffffffffff : Region.ready .any R62.toArray (Go.Ux.bits R62.toArray.size 453709823406351684769985744240159752191) = [101] := by kernel_rfl
theorem R62_o103_15555557fffffffffffffffffffffffff : Region.ready .any R62.toArray (Go.Ux.bits R62.toArray.size 453709825941652885226444547233566162943) = [103] := by kernel_rfl
theorem R62_o105_1555555ffffffffffffffffffffffffff : Region.ready .any R62.toArray (Go.Ux.bits R62.toArray.size 453709836082857687052279759207191805951) = [105] := by kernel_rfl
theorem R62_o107_1555557ffffffffffffffffffffffffff : Region.ready .any R62.toArray (Go.Ux.bits R62.toArray.size 453709876647676894355620607101694377983) = [107] := by kernel_rfl
theorem R62_o109_155555fffffffffffffffffffffffffff : Region.ready .any R62.toArray (Go.Ux.bits R62.toArray.size 453710038906953723568983998679704666111) = [109] := by kernel_rfl
theorem R62_o111_155557fffffffffffffffffffffffffff : Region.ready .any R62.toArray (Go.Ux.bits R62.toArray.size 453710687944061040422437564991745818623) = [111] := by kernel_rfl
theorem R62_o113_15555ffffffffffffffffffffffffffff : Region.ready .any R62.toArray (Go.Ux.bits R62.toArray.size 453713284092490307836251830239910428671) = [113] := by kernel_rfl
theorem R62_o115_15557ffffffffffffffffffffffffffff : Region.ready .any R62.toArray (Go.Ux.bits R62.toArray.size 453723668686207377491508891232568868863) = [115] := by kernel_rfl
theorem R62_o117_1555fffffffffffffffffffffffffffff : Region.ready .any R62.toArray (Go.Ux.bits R62.toArray.size 453765207061075656112537135203202629631) = [117] := by kernel_rfl
theorem R62_o119_1557fffffffffffffffffffffffffffff : Region.ready .any R62.toArray (Go.Ux.bits R62.toArray.size 453931360560548770596650111085737672703) = [119] := by kernel_rfl
theorem R62_o121_155ffffffffffffffffffffffffffffff : Region.ready .any R62.toArray (Go.Ux.bits R62.toArray.size 454595974558441228533102014615877844991) = [121] := by kernel_rfl
theorem R62_o123_157ffffffffffffffffffffffffffffff : Region.ready .any R62.toArray (Go.Ux.bits R62.toArray.size 457254430550011060278909628736438534143) = [123] := by kernel_rfl
theorem R62_o125_15fffffffffffffffffffffffffffffff : Region.ready .any R62.toArray (Go.Ux.bits R62.toArray.size 467888254516290387262140085218681290751) = [125] := by kernel_rfl
theorem R62_o127_17fffffffffffffffffffffffffffffff : Region.ready .any R62.toArray (Go.Ux.bits R62.toArray.size 510423550381407695195061911147652317183) = [127] := by kernel_rfl
theorem R62_o129_1ffffffffffffffffffffffffffffffff : Region.ready .any R62.toArray (Go.Ux.bits R62.toArray.size 680564733841876926926749214863536422911) = [129] := by kernel_rfl
theorem bld62_170 (b12 b15 b18 b22 b28 b31 b37 : Nat) : ∀ w : World, (Instr.build 134 #[(1, rowVal (.slice (some ⟨b31, 0, none⟩) 1 1) (tellsD .U [108, 117, 105] 55#32 0#32 0#32)), (2, rowVal (.slice (some ⟨b31, 0, none⟩) 1 1) (tellsD .U [97, 117, 105, 112, 99] 23#32 0#32 0#32)), (3, rowVal (.slice (some ⟨b37, 0, none⟩) 4 4) (tellsD .J [106, 97, 108] 111#32 0#32 0#32)), (4, rowVal (.slice (some ⟨b12, 0, none⟩) 1 1) (tellsD .I [106, 97, 108, 114] 103#32 0#32 0#32)), (5, rowVal (.slice (some ⟨b28, 0, none⟩) 4 4) (tellsD .B [98, 101, 113] 99#32 0#32 0#32)), (6, rowVal (.slice (some ⟨b28, 0, none⟩) 4 4) (tellsD .B [98, 110, 101] 99#32 1#32 0#32)), (7, rowVal (.slice (some ⟨b28, 0, none⟩) 4 4) (tellsD .B [98, 108, 116] 99#32 4#32 0#32)), (8, rowVal (.slice (some ⟨b28, 0, none⟩) 4 4) (tellsD .B [98, 103, 101] 99#32 5#32 0#32)), (9, rowVal (.slice (some ⟨b28, 0, none⟩) 4 4) (tellsD .B [98, 108, 116, 117] 99#32 6#32 0#32)), (10, rowVal (.slice (some ⟨b28, 0, none⟩) 4 4) (tellsD .B [98, 103, 101, 117] 99#32 7#32 0#32)), (11, rowVal (.slice (some ⟨b12, 0, none⟩) 1 1) (tellsD .I [108, 98] 3#32 0#32 0#32)), (12, rowVal (.slice (some ⟨b12, 0, none⟩) 1 1) (tellsD .I [108, 104] 3#32 1#32 0#32)), (13, rowVal (.slice (some ⟨b12, 0, none⟩) 1 1) (tellsD .I [108, 119] 3#32 2#32 0#32)), (14, rowVal (.slice (some ⟨b12, 0, none⟩) 1 1) (tellsD .I [108, 100] 3#32 3#32 0#32)), (15, rowVal (.slice (some ⟨b12, 0, none⟩) 1 1) (tellsD .I [108, 98, 117] 3#32 4#32 0#32)), (16, rowVal (.slice (some ⟨b12, 0, none⟩) 1 1) (tellsD .I [108, 104, 117] 3#32 5#32 0#32)), (17, rowVal (.slice (some ⟨b12, 0, none⟩) 1 1) (tellsD .I [108, 119, 117] 3#32 6#32 0#32)), (18, rowVal (.slice (some ⟨b22, 0, none⟩) 2 2) (tellsD .S [115, 98] 35#32 0#32 0#32)), (19, rowVal (.slice (some ⟨b22, 0, none⟩) 2 2) (tellsD .S [115, 104] 35#32 1#32 0#32)), (20, rowVal (.slice (some ⟨b22, 0, none⟩) 2 2) (tellsD .S [115, 119] 35#32 2#32 0#32)), (21, rowVal (.slice (some ⟨b22, 0, none⟩) 2 2) (tellsD .S [115, 100] 35#32 3#32 0#32)), (22, rowVal (.slice (some ⟨b12, 0, none⟩) 1 1) (tellsD .I [97, 100, 100, 105] 19#32 0#32 0#32)), (23, rowVal (.slice (some ⟨b12, 0, none⟩) 1 1) (tellsD .I [115, 108, 116, 105] 19#32 2#32 0#32)), (24, rowVal (.slice (some ⟨b12, 0, none⟩) 1 1) (tellsD .I [115, 108, 116, 105, 117] 19#32 3#32 0#32)), (25, rowVal (.slice (some ⟨b12, 0, none⟩) 1 1) (tellsD .I [120, 111, 114, 105] 19#32 4#32 0#32)), (26, rowVal (.slice (some ⟨b12, 0, none⟩) 1 1) (tellsD .I [111, 114, 105] 19#32 6#32 0#32)), (27, rowVal (.slice (some ⟨b12, 0, none⟩) 1 1) (tellsD .I [97, 110, 100, 105] 19#32 7#32 0#32)), (28, rowVal (.slice (some ⟨b15, 0, none⟩) 1 1) (tellsD .H [115, 108, 108, 105] 19#32 1#32 0#32)), (29, rowVal (.slice (some ⟨b15, 0, none⟩) 1 1) (tellsD .H [115, 114, 108, 105] 19#32 5#32 0#32)), (30, rowVal (.slice (some ⟨b15, 0, none⟩) 1 1) (tellsD .H [115, 114, 97, 105] 19#32 5#32 32#32)), (31, rowVal (.slice none 0 0) (tellsD .R [97, 100, 100] 51#32 0#32 0#32)), (32, rowVal (.slice none 0 0) (tellsD .R [115, 117, 98] 51#32 0#32 32#32)), (33, rowVal (.slice none 0 0) (tellsD .R [115, 108, 108] 51#32 1#32 0#32)), (34, rowVal (.slice none 0 0) (tellsD .R [115, 108, 116] 51#32 2#32 0#32)), (35, rowVal (.slice none 0 0) (tellsD .R [115, 108, 116, 117] 51#32 3#32 0#32)), (36, rowVal (.slice none 0 0) (tellsD .R [120, 111, 114] 51#32 4#32 0#32)), (37, rowVal (.slice none 0 0) (tellsD .R [115, 114, 108] 51#32 5#32 0#32)), (38, rowVal (.slice none 0 0) (tellsD .R [115, 114, 97] 51#32 5#32 32#32)), (39, rowVal (.slice none 0 0) (tellsD .R [111, 114] 51#32 6#32 0#32)), (40, rowVal (.slice none 0 0) (tellsD .R [97, 110, 100] 51#32 7#32 0#32)), (41, rowVal (.slice (some ⟨b12, 0, none⟩) 1 1) (tellsD .I [97, 100, 100, 105, 119] 27#32 0#32 0#32)), (42, rowVal (.slice (some ⟨b18, 0, none⟩) 1 1) (tellsD .W [115, 108, 108, 105, 119] 27#32 1#32 0#32)), (43, rowVal (.slice (some ⟨b18, 0, none⟩) 1 1) (tellsD .W [115, 114, 108, 105, 119] 27#32 5#32 0#32)), (44, rowVal (.slice (some ⟨b18, 0, none⟩) 1 1) (tellsD .W [115, 114, 97, 105, 119] 27#32 5#32 32#32)), (45, rowVal (.slice none 0 0) (tellsD .R [97, 100, 100, 119] 59#32 0#32 0#32)), (46, rowVal (.slice none 0 0) (tellsD .R [115, 117, 98, 119] 59#32 0#32 32#32)), (47, rowVal (.slice none 0 0) (tellsD .R [115, 108, 108, 119] 59#32 1#32 0#32)), (48, rowVal (.slice none 0 0) (tellsD .R [115, 114, 108, 119] 59#32 5#32 0#32)), (49, rowVal (.slice none 0 0) (tellsD .R [115, 114, 97, 119] 59#32 5#32 32#32)), (50, rowVal (.slice none 0 0) (tellsD .R [109, 117, 108] 51#32 0#32 1#32)), (51, rowVal (.slice none 0 0) (tellsD .R [109, 117, 108, 104] 51#32 1#32 1#32)), (52, rowVal (.slice none 0 0) (tellsD .R [109, 117, 108, 104, 115, 117] 51#32 2#32 1#32)), (53, rowVal (.slice none 0 0) (tellsD .R [109, 117, 108, 104, 117] 51#32 3#32 1#32)), (54, rowVal (.slice none 0 0) (tellsD .R [100, 105, 118] 51#32 4#32 1#32)), (55, rowVal (.slice none 0 0) (tellsD .R [100, 105, 118, 117] 51#32 5#32 1#32)), (56, rowVal (.slice none 0 0) (tellsD .R [114, 101, 109] 51#32 6#32 1#32)), (57, rowVal (.slice none 0 0) (tellsD .R [114, 101, 109, 117] 51#32 7#32 1#32)), (58, rowVal (.slice none 0 0) (tellsD .R [109, 117, 108, 119] 59#32 0#32 1#32)), (59, rowVal (.slice none 0 0) (tellsD .R [100, 105, 118, 119] 59#32 4#32 1#32)), (60, rowVal (.slice none 0 0) (tellsD .R [100, 105, 118, 117, 119] 59#32 5#32 1#32)), (61, rowVal (.slice none 0 0) (tellsD .R [114, 101, 109, 119] 59#32 6#32 1#32)), (62, rowVal (.slice none 0 0) (tellsD .R [114, 101, 109, 117, 119] 59#32 7#32 1#32)), (63, rowVal (.slice (some ⟨b12, 0, none⟩) 1 1) (tellsD .I [102, 101, 110, 99, 101] 15#32 0#32 0#32)), (64, rowVal (.slice none 0 0) (tellsD .E [101, 99, 97, 108, 108] 115#32 0#32 0#32)), (65, rowVal (.slice none 0 0) (tellsD .E [101, 98, 114, 101, 97, 107] 1048691#32 0#32 0#32))]).run Tryz.prog w = .ok (tableV (ivT b12 b15 b18 b22 b28 b31 b37)) w := fun _ => by kernel_rfl
theorem R62_t130_3ffffffffffffffffffffffffffffffff : (Region.noSelect R62.toArray && Region.free .any R62.toArray (Go.Ux.bits R62.toArray.size 1361129467683753853853498429727072845823) 130 && (Region.ready .any R62.toArray (Go.Ux.bits R62.toArray.size 1361129467683753853853498429727072845823)).contains 130) = true := by kernel_rfl
theorem R62_o131_7ffffffffffffffffffffffffffffffff : Region.ready .any R62.toArray (Go.Ux.bits R62.toArray.size 2722258935367507707706996859454145691647) = [131] := by kernel_rfl
theorem R62_d0_fffffffffffffffffffffffffffffffff : Region.ready .any R62.toArray (Go.Ux.bits R62.toArray.size 5444517870735015415413993718908291383295) = [] := by kernel_rfl
theorem table_size (iv : FK → Value) : (tableV iv).cells.size = 594 := by kernel_rfl
theorem table_len (iv : FK → Value) : (tableD.flatMap (rowCells iv)).length = 594 := by kernel_rfl
theorem table_ones {iv : FK → Value} (h : ∀ k, (iv k).oneCell' = true) : (tableV iv).cells.toList.all (fun u => u.oneCell') = true := by
  show (tableD.flatMap (rowCells iv)).all (fun u => u.oneCell') = true
  rw [List.all_flatMap, List.all_eq_true]
  intro r _
  show ((formCells (iv r.k) (formOf r.k)) ++ [St r.name, U32 r.mtch]).all (fun u => u.oneCell') = true
  simp only [formCells, List.all_append, List.all_cons, List.all_nil, h]; rfl
theorem ivT_one (b12 b15 b18 b22 b28 b31 b37 : Nat) (k : FK) : (ivT b12 b15 b18 b22 b28 b31 b37 k).oneCell' = true := by cases k <;> rfl
set_option maxHeartbeats 4000000 in
set_option maxRecDepth 100000 in
theorem table_spec (w : World) (hG : Glob w) : CallsR Tryz.prog 62 #[] w (fun v w' => ∃ iv, v = tableV iv ∧ (∀ k, Sl w' (iv k) 2 (formOf k).imm.length (bitsCells (formOf k).imm)) ∧ (∀ k, From w.heap.size (iv k)) ∧ Ext w w') := by
  refine callsR_of Tryz.func62 rfl rfl rfl ?_
  refine WC.seq (WC.region (WL.alloc zt134 rfl ?_))
  intro b0 w0 n0
  have E1 : Ext w w0 := Mod.trans (Mod.refl _ _) (n0.ext)
  refine WL.nil (WC.seq (WC.region (WL.build (v := .agg #[.bool (true), .bool (true), .bool (true), .slice none 0 0, IN (0), .bool (false), U32 (4261441663#32)]) (vs := [(0, .bool (true)), (1, .bool (true)), (2, .bool (true)), (3, .slice none 0 0), (4, IN (0)), (5, .bool (false)), (6, U32 (4261441663#32))]) rfl (bld62_10) rfl (WL.allocStore (v := .agg #[.bool (true), .bool (true), .bool (true), .slice none 0 0, IN (0), .bool (false), U32 (4261441663#32)]) zt116 rfl sz116 rfl rfl rfl rfl ?_))))
  intro b1 w1 n1
  have E2 : Ext w w1 := Mod.trans (E1) (n1.ext)
  refine WL.nil (WC.seq (WC.region (WL.build (v := .agg #[IN (20), IN (12)]) (vs := [(0, IN (20)), (1, IN (12))]) rfl (bld62_11) rfl (WL.buildSlice (vs := [(0, .agg #[IN (20), IN (12)])]) rfl (bls62_12) rfl ?_))))
  intro b12 w12 n12
  have E3 : Ext w w12 := Mod.trans (E2) (n12.ext)
  refine WL.build (v := .agg #[.bool (true), .bool (true), .bool (false), .slice (some ⟨b12, 0, none⟩) 1 1, IN (0), .bool (true), U32 (28799#32)]) (vs := [(0, .bool (true)), (1, .bool (true)), (2, .bool (false)), (3, .slice (some ⟨b12, 0, none⟩) 1 1), (4, IN (0)), (5, .bool (true)), (6, U32 (28799#32))]) rfl (bld62_13 b12) rfl (WL.allocStore (v := .agg #[.bool (true), .bool (true), .bool (false), .slice (some ⟨b12, 0, none⟩) 1 1, IN (0), .bool (true), U32 (28799#32)]) zt116 rfl sz116 rfl rfl rfl rfl ?_)
  intro b2 w2 n2
  have E4 : Ext w w2 := Mod.trans (E3) (n2.ext)
  refine WL.nil (WC.seq (WC.region (WL.build (v := .agg #[IN (20), IN (6)]) (vs := [(0, IN (20)), (1, IN (6))]) rfl (bld62_14) rfl (WL.buildSlice (vs := [(0, .agg #[IN (20), IN (6)])]) rfl (bls62_15) rfl ?_))))
  intro b15 w15 n15
  have E5 : Ext w w15 := Mod.trans (E4) (n15.ext)
  refine WL.build (v := .agg #[.bool (true), .bool (true), .bool (false), .slice (some ⟨b15, 0, none⟩) 1 1, IN (0), .bool (false), U32 (4227887231#32)]) (vs := [(0, .bool (true)), (1, .bool (true)), (2, .bool (false)), (3, .slice (some ⟨b15, 0, none⟩) 1 1), (4, IN (0)), (5, .bool (false)), (6, U32 (4227887231#32))]) rfl (bld62_16 b15) rfl (WL.allocStore (v := .agg #[.bool (true), .bool (true), .bool (false), .slice (some ⟨b15, 0, none⟩) 1 1, IN (0), .bool (false), U32 (4227887231#32)]) zt116 rfl sz116 rfl rfl rfl rfl ?_)
  intro b3 w3 n3
  have E6 : Ext w w3 := Mod.trans (E5) (n3.ext)
  refine WL.nil (WC.seq (WC.region (WL.build (v := .agg #[IN (20), IN (5)]) (vs := [(0, IN (20)), (1, IN (5))]) rfl (bld62_17) rfl (WL.buildSlice (vs := [(0, .agg #[IN (20), IN (5)])]) rfl (bls62_18) rfl ?_))))
  intro b18 w18 n18
  have E7 : Ext w w18 := Mod.trans (E6) (n18.ext)
  refine WL.build (v := .agg #[.bool (true), .bool (true), .bool (false), .slice (some ⟨b18, 0, none⟩) 1 1, IN (0), .bool (false), U32 (4261441663#32)]) (vs := [(0, .bool (true)), (1, .bool (true)), (2, .bool (false)), (3, .slice (some ⟨b18, 0, none⟩) 1 1), (4, IN (0)), (5, .bool (false)), (6, U32 (4261441663#32))]) rfl (bld62_19 b18) rfl (WL.allocStore (v := .agg #[.bool (true), .bool (true), .bool (false), .slice (some ⟨b18, 0, none⟩) 1 1, IN (0), .bool (false), U32 (4261441663#32)]) zt116 rfl sz116 rfl rfl rfl rfl ?_)
  intro b4 w4 n4
  have E8 : Ext w w4 := Mod.trans (E7) (n4.ext)
  refine WL.nil (WC.seq (WC.region (WL.build (v := .agg #[IN (25), IN (7)]) (vs := [(0, IN (25)), (1, IN (7))]) rfl (bld62_20) rfl (WL.build (v := .agg #[IN (7), IN (5)]) (vs := [(0, IN (7)), (1, IN (5))]) rfl (bld62_21) rfl (WL.buildSlice (vs := [(0, .agg #[IN (25), IN (7)]), (1, .agg #[IN (7), IN (5)])]) rfl (bls62_22) rfl ?_)))))
  intro b22 w22 n22
  have E9 : Ext w w22 := Mod.trans (E8) (n22.ext)
  refine WL.build (v := .agg #[.bool (false), .bool (true), .bool (true), .slice (some ⟨b22, 0, none⟩) 2 2, IN (0), .bool (true), U32 (28799#32)]) (vs := [(0, .bool (false)), (1, .bool (true)), (2, .bool (true)), (3, .slice (some ⟨b22, 0, none⟩) 2 2), (4, IN (0)), (5, .bool (true)), (6, U32 (28799#32))]) rfl (bld62_23 b22) rfl (WL.allocStore (v := .agg #[.bool (false), .bool (true), .bool (true), .slice (some ⟨b22, 0, none⟩) 2 2, IN (0), .bool (true), U32 (28799#32)]) zt116 rfl sz116 rfl rfl rfl rfl ?_)
  intro b5 w5 n5
  have E10 : Ext w w5 := Mod.trans (E9) (n5.ext)
  refine WL.nil (WC.seq (WC.region (WL.build (v := .agg #[IN (31), IN (1)]) (vs := [(0, IN (31)), (1, IN (1))]) rfl (bld62_24) rfl (WL.build (v := .agg #[IN (7), IN (1)]) (vs := [(0, IN (7)), (1, IN (1))]) rfl (bld62_25) rfl (WL.build (v := .agg #[IN (25), IN (6)]) (vs := [(0, IN (25)), (1, IN (6))]) rfl (bld62_26) rfl (WL.build (v := .agg #[IN (8), IN (4)]) (vs := [(0, IN (8)), (1, IN (4))]) rfl (bld62_27) rfl (WL.buildSlice (vs := [(0, .agg #[IN (31), IN (1)]), (1, .agg #[IN (7), IN (1)]), (2, .agg #[IN (25), IN (6)]), (3, .agg #[IN (8), IN (4)])]) rfl (bls62_28) rfl ?_)))))))
  intro b28 w28 n28
  have E11 : Ext w w28 := Mod.trans (E10) (n28.ext)
  refine WL.build (v := .agg #[.bool (false), .bool (true), .bool (true), .slice (some ⟨b28, 0, none⟩) 4 4, IN (1), .bool (true), U32 (28799#32)]) (vs := [(0, .bool (false)), (1, .bool (true)), (2, .bool (true)), (3, .slice (some ⟨b28, 0, none⟩) 4 4), (4, IN (1)), (5, .bool (true)), (6, U32 (28799#32))]) rfl (bld62_29 b28) rfl (WL.allocStore (v := .agg #[.bool (false), .bool (true), .bool (true), .slice (some ⟨b28, 0, none⟩) 4 4, IN (1), .bool (true), U32 (28799#32)]) zt116 rfl sz116 rfl rfl rfl rfl ?_)
  intro b6 w6 n6
  have E12 : Ext w w6 := Mod.trans (E11) (n6.ext)
  refine WL.nil (WC.seq (WC.region (WL.build (v := .agg #[IN (12), IN (20)]) (vs := [(0, IN (12)), (1, IN (20))]) rfl (bld62_30) rfl (WL.buildSlice (vs := [(0, .agg #[IN (12), IN (20)])]) rfl (bls62_31) rfl ?_))))
  intro b31 w31 n31
  have E13 : Ext w w31 := Mod.trans (E12) (n31.ext)
  refine WL.build (v := .agg #[.bool (true), .bool (false), .bool (false), .slice (some ⟨b31, 0, none⟩) 1 1, IN (12), .bool (true), U32 (127#32)]) (vs := [(0, .bool (true)), (1, .bool (false)), (2, .bool (false)), (3, .slice (some ⟨b31, 0, none⟩) 1 1), (4, IN (12)), (5, .bool (true)), (6, U32 (127#32))]) rfl (bld62_32 b31) rfl (WL.allocStore (v := .agg #[.bool (true), .bool (false), .bool (false), .slice (some ⟨b31, 0, none⟩) 1 1, IN (12), .bool (true), U32 (127#32)]) zt116 rfl sz116 rfl rfl rfl rfl ?_)
  intro b7 w7 n7
  have E14 : Ext w w7 := Mod.trans (E13) (n7.ext)
  refine WL.nil (WC.seq (WC.region (WL.build (v := .agg #[IN (31), IN (1)]) (vs := [(0, IN (31)), (1, IN (1))]) rfl (bld62_33) rfl (WL.build (v := .agg #[IN (12), IN (8)]) (vs := [(0, IN (12)), (1, IN (8))]) rfl (bld62_34) rfl (WL.build (v := .agg #[IN (20), IN (1)]) (vs := [(0, IN (20)), (1, IN (1))]) rfl (bld62_35) rfl (WL.build (v := .agg #[IN (21), IN (10)]) (vs := [(0, IN (21)), (1, IN (10))]) rfl (bld62_36) rfl (WL.buildSlice (vs := [(0, .agg #[IN (31), IN (1)]), (1, .agg #[IN (12), IN (8)]), (2, .agg #[IN (20), IN (1)]), (3, .agg #[IN (21), IN (10)])]) rfl (bls62_37) rfl ?_)))))))
  intro b37 w37 n37
  have E15 : Ext w w37 := Mod.trans (E14) (n37.ext)
  refine WL.build (v := .agg #[.bool (true), .bool (false), .bool (false), .slice (some ⟨b37, 0, none⟩) 4 4, IN (1), .bool (true), U32 (127#32)]) (vs := [(0, .bool (true)), (1, .bool (false)), (2, .bool (false)), (3, .slice (some ⟨b37, 0, none⟩) 4 4), (4, IN (1)), (5, .bool (true)), (6, U32 (127#32))]) rfl (bld62_38 b37) rfl (WL.allocStore (v := .agg #[.bool (true), .bool (false), .bool (false), .slice (some ⟨b37, 0, none⟩) 4 4, IN (1), .bool (true), U32 (127#32)]) zt116 rfl sz116 rfl rfl rfl rfl ?_)
  intro b8 w8 n8
  have E16 : Ext w w8 := Mod.trans (E15) (n8.ext)
  refine WL.nil (WC.seq (WC.region (WL.build (v := .agg #[.bool (false), .bool (false), .bool (false), .slice none 0 0, IN (0), .bool (false), U32 (4294967295#32)]) (vs := [(6, U32 (4294967295#32))]) rfl (bld62_39) rfl (WL.allocStore (v := .agg #[.bool (false), .bool (false), .bool (false), .slice none 0 0, IN (0), .bool (false), U32 (4294967295#32)]) zt116 rfl sz116 rfl rfl rfl rfl ?_))))
  intro b9 w9 n9
  have E17 : Ext w w9 := Mod.trans (E16) (n9.ext)
  refine WL.nil (WC.seq (WC.draw (fun w_ => Ext w w_ ∧ Blk w_ b1 #[.bool (true), .bool (true), .bool (true), .slice none 0 0, IN (0), .bool (false), U32 (4261441663#32)] 116 ∧ Blk w_ b2 #[.bool (true), .bool (true), .bool (false), .slice (some ⟨b12, 0, none⟩) 1 1, IN (0), .bool (true), U32 (28799#32)] 116 ∧ Blk w_ b3 #[.bool (true), .bool (true), .bool (false), .slice (some ⟨b15, 0, none⟩) 1 1, IN (0), .bool (false), U32 (4227887231#32)] 116 ∧ Blk w_ b4 #[.bool (true), .bool (true), .bool (false), .slice (some ⟨b18, 0, none⟩) 1 1, IN (0), .bool (false), U32 (4261441663#32)] 116 ∧ Blk w_ b5 #[.bool (false), .bool (true), .bool (true), .slice (some ⟨b22, 0, none⟩) 2 2, IN (0), .bool (true), U32 (28799#32)] 116 ∧ Blk w_ b6 #[.bool (false), .bool (true), .bool (true), .slice (some ⟨b28, 0, none⟩) 4 4, IN (1), .bool (true), U32 (28799#32)] 116 ∧ Blk w_ b7 #[.bool (true), .bool (false), .bool (false), .slice (some ⟨b31, 0, none⟩) 1 1, IN (12), .bool (true), U32 (127#32)] 116 ∧ Blk w_ b8 #[.bool (true), .bool (false), .bool (false), .slice (some ⟨b37, 0, none⟩) 4 4, IN (1), .bool (true), U32 (127#32)] 116 ∧ Blk w_ b9 #[.bool (false), .bool (false), .bool (false), .slice none 0 0, IN (0), .bool (false), U32 (4294967295#32)] 116) 132 rfl mixed ?_))
  intro wd_10 ed_10
  have E18 : Ext w wd_10 := Mod.trans (E17) (ed_10)
  change WA Tryz.prog R62.toArray _ _ _ _ _ _ _
  have B19 := ((((((((((((((((n1.blk).ext (n12.ext)).ext (n2.ext)).ext (n15.ext)).ext (n3.ext)).ext (n18.ext)).ext (n4.ext)).ext (n22.ext)).ext (n5.ext)).ext (n28.ext)).ext (n6.ext)).ext (n31.ext)).ext (n7.ext)).ext (n37.ext)).ext (n8.ext)).ext (n9.ext)).ext (ed_10)
  have B20 := ((((((((((((((n2.blk).ext (n15.ext)).ext (n3.ext)).ext (n18.ext)).ext (n4.ext)).ext (n22.ext)).ext (n5.ext)).ext (n28.ext)).ext (n6.ext)).ext (n31.ext)).ext (n7.ext)).ext (n37.ext)).ext (n8.ext)).ext (n9.ext)).ext (ed_10)
  have B21 := ((((((((((((n3.blk).ext (n18.ext)).ext (n4.ext)).ext (n22.ext)).ext (n5.ext)).ext (n28.ext)).ext (n6.ext)).ext (n31.ext)).ext (n7.ext)).ext (n37.ext)).ext (n8.ext)).ext (n9.ext)).ext (ed_10)
  have B22 := ((((((((((n4.blk).ext (n22.ext)).ext (n5.ext)).ext (n28.ext)).ext (n6.ext)).ext (n31.ext)).ext (n7.ext)).ext (n37.ext)).ext (n8.ext)).ext (n9.ext)).ext (ed_10)
  have B23 := ((((((((n5.blk).ext (n28.ext)).ext (n6.ext)).ext (n31.ext)).ext (n7.ext)).ext (n37.ext)).ext (n8.ext)).ext (n9.ext)).ext (ed_10)
  have B24 := ((((((n6.blk).ext (n31.ext)).ext (n7.ext)).ext (n37.ext)).ext (n8.ext)).ext (n9.ext)).ext (ed_10)
  have B25 := ((((n7.blk).ext (n37.ext)).ext (n8.ext)).ext (n9.ext)).ext (ed_10)
  have B26 := ((n8.blk).ext (n9.ext)).ext (ed_10)
  have B27 := (n9.blk).ext (ed_10)
  refine WA.take (i := 0) (m' := 1) (v := .agg #[.bool (true), .bool (false), .bool (false), .slice (some ⟨b31, 0, none⟩) 1 1, IN (12), .bool (true), U32 (127#32)]) rfl rfl rfl rfl R62_t0_0 rfl (fun _ _ _ h => h) (fun wx hS => ?_) (⟨E18, B19, B20, B21, B22, B23, B24, B25, B26, B27⟩) ?_
  · exact WL.loadS [.bool (true), .bool (false), .bool (false), .slice (some ⟨b31, 0, none⟩) 1 1, IN (12), .bool (true), U32 (127#32)] rfl ag116 sz116 rfl (hS.2.2.2.2.2.2.2.1.sub (o := 0) (vs := [.bool (true), .bool (false), .bool (false), .slice (some ⟨b31, 0, none⟩) 1 1, IN (12), .bool (true), U32 (127#32)]) rfl) rfl (WL.nil ⟨rfl, rfl, rfl⟩)
  refine WA.take (i := 2) (m' := 5) (v := .agg #[.bool (true), .bool (false), .bool (false), .slice (some ⟨b31, 0, none⟩) 1 1, IN (12), .bool (true), U32 (127#32)]) rfl rfl rfl rfl R62_t2_1 rfl (fun _ _ _ h => h) (fun wx hS => ?_) (⟨E18, B19, B20, B21, B22, B23, B24, B25, B26, B27⟩) ?_
  · exact WL.loadS [.bool (true), .bool (false), .bool (false), .slice (some ⟨b31, 0, none⟩) 1 1, IN (12), .bool (true), U32 (127#32)] rfl ag116 sz116 rfl (hS.2.2.2.2.2.2.2.1.sub (o := 0) (vs := [.bool (true), .bool (false), .bool (false), .slice (some ⟨b31, 0, none⟩) 1 1, IN (12), .bool (true), U32 (127#32)]) rfl) rfl (WL.nil ⟨rfl, rfl, rfl⟩)
  refine WA.take (i := 4) (m' := 21) (v := .agg #[.bool (true), .bool (false), .bool (false), .slice (some ⟨b37, 0, none⟩) 4 4, IN (1), .bool (true), U32 (127#32)]) rfl rfl rfl rfl R62_t4_5 rfl (fun _ _ _ h => h) (fun wx hS => ?_) (⟨E18, B19, B20, B21, B22, B23, B24, B25, B26, B27⟩) ?_
  · exact WL.loadS [.bool (true), .bool (false), .bool (false), .slice (some ⟨b37, 0, none⟩) 4 4, IN (1), .bool (true), U32 (127#32)] rfl ag116 sz116 rfl (hS.2.2.2.2.2.2.2.2.1.sub (o := 0) (vs := [.bool (true), .bool (false), .bool (false), .slice (some ⟨b37, 0, none⟩) 4 4, IN (1), .bool (true), U32 (127#32)]) rfl) rfl (WL.nil ⟨rfl, rfl, rfl⟩)
  refine WA.take (i := 6) (m' := 85) (v := .agg #[.bool (true), .bool (true), .bool (false), .slice (some ⟨b12, 0, none⟩) 1 1, IN (0), .bool (true), U32 (28799#32)]) rfl rfl rfl rfl R62_t6_15 rfl (fun _ _ _ h => h) (fun wx hS => ?_) (⟨E18, B19, B20, B21, B22, B23, B24, B25, B26, B27⟩) ?_
  · exact WL.loadS [.bool (true), .bool (true), .bool (false), .slice (some ⟨b12, 0, none⟩) 1 1, IN (0), .bool (true), U32 (28799#32)] rfl ag116 sz116 rfl (hS.2.2.1.sub (o := 0) (vs := [.bool (true), .bool (true), .bool (false), .slice (some ⟨b12, 0, none⟩) 1 1, IN (0), .bool (true), U32 (28799#32)]) rfl) rfl (WL.nil ⟨rfl, rfl, rfl⟩)
  refine WA.take (i := 8) (m' := 341) (v := .agg #[.bool (false), .bool (true), .bool (true), .slice (some ⟨b28, 0, none⟩) 4 4, IN (1), .bool (true), U32 (28799#32)]) rfl rfl rfl rfl R62_t8_55 rfl (fun _ _ _ h => h) (fun wx hS => ?_) (⟨E18, B19, B20, B21, B22, B23, B24, B25, B26, B27⟩) ?_
  · exact WL.loadS [.bool (false), .bool (true), .bool (true), .slice (some ⟨b28, 0, none⟩) 4 4, IN (1), .bool (true), U32 (28799#32)] rfl ag116 sz116 rfl (hS.2.2.2.2.2.2.1.sub (o := 0) (vs := [.bool (false), .bool (true), .bool (true), .slice (some ⟨b28, 0, none⟩) 4 4, IN (1), .bool (true), U32 (28799#32)]) rfl) rfl (WL.nil ⟨rfl, rfl, rfl⟩)
  refine WA.take (i := 10) (m' := 1365) (v := .agg #[.bool (false), .bool (true), .bool (true), .slice (some ⟨b28, 0, none⟩) 4 4, IN (1), .bool (true), U32 (28799#32)]) rfl rfl rfl rfl R62_t10_155 rfl (fun _ _ _ h => h) (fun wx hS => ?_) (⟨E18, B19, B20, B21, B22, B23, B24, B25, B26, B27⟩) ?_
  · exact WL.loadS [.bool (false), .bool (true), .bool (true), .slice (some ⟨b28, 0, none⟩) 4 4, IN (1), .bool (true), U32 (28799#32)] rfl ag116 sz116 rfl (hS.2.2.2.2.2.2.1.sub (o := 0) (vs := [.bool (false), .bool (true), .bool (true), .slice (some ⟨b28, 0, none⟩) 4 4, IN (1), .bool (true), U32 (28799#32)]) rfl) rfl (WL.nil ⟨rfl, rfl, rfl⟩)
  refine WA.take (i := 12) (m' := 5461) (v := .agg #[.bool (false), .bool (true), .bool (true), .slice (some ⟨b28, 0, none⟩) 4 4, IN (1), .bool (true), U32 (28799#32)]) rfl rfl rfl rfl R62_t12_555 rfl (fun _ _ _ h => h) (fun wx hS => ?_) (⟨E18, B19, B20, B21, B22, B23, B24, B25, B26, B27⟩) ?_
  · exact WL.loadS [.bool (false), .bool (true), .bool (true), .slice (some ⟨b28, 0, none⟩) 4 4, IN (1), .bool (true), U32 (28799#32)] rfl ag116 sz116 rfl (hS.2.2.2.2.2.2.1.sub (o := 0) (vs := [.bool (false), .bool (true), .bool (true), .slice (some ⟨b28, 0, none⟩) 4 4, IN (1), .bool (true), U32 (28799#32)]) rfl) rfl (WL.nil ⟨rfl, rfl, rfl⟩)
  refine WA.take (i := 14) (m' := 21845) (v := .agg #[.bool (false), .bool (true), .bool (true), .slice (some ⟨b28, 0, none⟩) 4 4, IN (1), .bool (true), U32 (28799#32)]) rfl rfl rfl rfl R62_t14_1555 rfl (fun _ _ _ h => h) (fun wx hS => ?_) (⟨E18, B19, B20, B21, B22, B23, B24, B25, B26, B27⟩) ?_
  · exact WL.loadS [.bool (false), .bool (true), .bool (true), .slice (some ⟨b28, 0, none⟩) 4 4, IN (1), .bool (true), U32 (28799#32)] rfl ag116 sz116 rfl (hS.2.2.2.2.2.2.1.sub (o := 0) (vs := [.bool (false), .bool (true), .bool (true), .slice (some ⟨b28, 0, none⟩) 4 4, IN (1), .bool (true), U32 (28799#32)]) rfl) rfl (WL.nil ⟨rfl, rfl, rfl⟩)
  refine WA.take (i := 16) (m' := 87381) (v := .agg #[.bool (false), .bool (true), .bool (true), .slice (some ⟨b28, 0, none⟩) 4 4, IN (1), .bool (true), U32 (28799#32)]) rfl rfl rfl rfl R62_t16_5555 rfl (fun _ _ _ h => h) (fun wx hS => ?_) (⟨E18, B19, B20, B21, B22, B23, B24, B25, B26, B27⟩) ?_
  · exact WL.loadS [.bool (false), .bool (true), .bool (true), .slice (some ⟨b28, 0, none⟩) 4 4, IN (1), .bool (true), U32 (28799#32)] rfl ag116 sz116 rfl (hS.2.2.2.2.2.2.1.sub (o := 0) (vs := [.bool (false), .bool (true), .bool (true), .slice (some ⟨b28, 0, none⟩) 4 4, IN (1), .bool (true), U32 (28799#32)]) rfl) rfl (WL.nil ⟨rfl, rfl, rfl⟩)
  refine WA.take (i := 18) (m' := 349525) (v := .agg #[.bool (false), .bool (true), .bool (true), .slice (some ⟨b28, 0, none⟩) 4 4, IN (1), .bool (true), U32 (28799#32)]) rfl rfl rfl rfl R62_t18_15555 rfl (fun _ _ _ h => h) (fun wx hS => ?_) (⟨E18, B19, B20, B21, B22, B23, B24, B25, B26, B27⟩) ?_
  · exact WL.loadS [.bool (false), .bool (true), .bool (true), .slice (some ⟨b28, 0, none⟩) 4 4, IN (1), .bool (true), U32 (28799#32)] rfl ag116 sz116 rfl (hS.2.2.2.2.2.2.1.sub (o := 0) (vs := [.bool (false), .bool (true), .bool (true), .slice (some ⟨b28, 0, none⟩) 4 4, IN (1), .bool (true), U32 (28799#32)]) rfl) rfl (WL.nil ⟨rfl, rfl, rfl⟩)
  refine WA.take (i := 20) (m' := 1398101) (v := .agg #[.bool (true), .bool (true), .bool (false), .slice (some ⟨b12, 0, none⟩) 1 1, IN (0), .bool (true), U32 (28799#32)]) rfl rfl rfl rfl R62_t20_55555 rfl (fun _ _ _ h => h) (fun wx hS => ?_) (⟨E18, B19, B20, B21, B22, B23, B24, B25, B26, B27⟩) ?_
  · exact WL.loadS [.bool (true), .bool (true), .bool (false), .slice (some ⟨b12, 0, none⟩) 1 1, IN (0), .bool (true), U32 (28799#32)] rfl ag116 sz116 rfl (hS.2.2.1.sub (o := 0) (vs := [.bool (true), .bool (true), .bool (false), .slice (some ⟨b12, 0, none⟩) 1 1, IN (0), .bool (true), U32 (28799#32)]) rfl) rfl (WL.nil ⟨rfl, rfl, rfl⟩)
  refine WA.take (i := 22) (m' := 5592405) (v := .agg #[.bool (true), .bool (true), .bool (false), .slice (some ⟨b12, 0, none⟩) 1 1, IN (0), .bool (true), U32 (28799#32)]) rfl rfl rfl rfl R62_t22_155555 rfl (fun _ _ _ h => h) (fun wx hS => ?_) (⟨E18, B19, B20, B21, B22, B23, B24, B25, B26, B27⟩) ?_
  · exact WL.loadS [.bool (true), .bool (true), .bool (false), .slice (some ⟨b12, 0, none⟩) 1 1, IN (0), .bool (true), U32 (28799#32)] rfl ag116 sz116 rfl (hS.2.2.1.sub (o := 0) (vs := [.bool (true), .bool (true), .bool (false), .slice (some ⟨b12, 0, none⟩) 1 1, IN (0), .bool (true), U32 (28799#32)]) rfl) rfl (WL.nil ⟨rfl, rfl, rfl⟩)
  refine WA.take (i := 24) (m' := 22369621) (v := .agg #[.bool (true), .bool (true), .bool (false), .slice (some ⟨b12, 0, none⟩) 1 1, IN (0), .bool (true), U32 (28799#32)]) rfl rfl rfl rfl R62_t24_555555 rfl (fun _ _ _ h => h) (fun wx hS => ?_) (⟨E18, B19, B20, B21, B22, B23, B24, B25, B26, B27⟩) ?_
  · exact WL.loadS [.bool (true), .bool (true), .bool (false), .slice (some ⟨b12, 0, none⟩) 1 1, IN (0), .bool (true), U32 (28799#32)] rfl ag116 sz116 rfl (hS.2.2.1.sub (o := 0) (vs := [.bool (true), .bool (true), .bool (false), .slice (some ⟨b12, 0, none⟩) 1 1, IN (0), .bool (true), U32 (28799#32)]) rfl) rfl (WL.nil ⟨rfl, rfl, rfl⟩)
  refine WA.take (i := 26) (m' := 89478485) (v := .agg #[.bool (true), .bool (true), .bool (false), .slice (some ⟨b12, 0, none⟩) 1 1, IN (0), .bool (true), U32 (28799#32)]) rfl rfl rfl rfl R62_t26_1555555 rfl (fun _ _ _ h => h) (fun wx hS => ?_) (⟨E18, B19, B20, B21, B22, B23, B24, B25, B26, B27⟩) ?_
  · exact WL.loadS [.bool (true), .bool (true), .bool (false), .slice (some ⟨b12, 0, none⟩) 1 1, IN (0), .bool (true), U32 (28799#32)] rfl ag116 sz116 rfl (hS.2.2.1.sub (o := 0) (vs := [.bool (true), .bool (true), .bool (false), .slice (some ⟨b12, 0, none⟩) 1 1, IN (0), .bool (true), U32 (28799#32)]) rfl) rfl (WL.nil ⟨rfl, rfl, rfl⟩)
  refine WA.take (i := 28) (m' := 357913941) (v := .agg #[.bool (true), .bool (true), .bool (false), .slice (some ⟨b12, 0, none⟩) 1 1, IN (0), .bool (true), U32 (28799#32)]) rfl rfl rfl rfl R62_t28_5555555 rfl (fun _ _ _ h => h) (fun wx hS => ?_) (⟨E18, B19, B20, B21, B22, B23, B24, B25, B26, B27⟩) ?_
  · exact WL.loadS [.bool (true), .bool (true), .bool (false), .slice (some ⟨b12, 0, none⟩) 1 1, IN (0), .bool (true), U32 (28799#32)] rfl ag116 sz116 rfl (hS.2.2.1.sub (o := 0) (vs := [.bool (true), .bool (true), .bool (false), .slice (some ⟨b12, 0, none⟩) 1 1, IN (0), .bool (true), U32 (28799#32)]) rfl) rfl (WL.nil ⟨rfl, rfl, rfl⟩)
  refine WA.take (i := 30) (m' := 1431655765) (v := .agg #[.bool (true), .bool (true), .bool (false), .slice (some ⟨b12, 0, none⟩) 1 1, IN (0), .bool (true), U32 (28799#32)]) rfl rfl rfl rfl R62_t30_15555555 rfl (fun _ _ _ h => h) (fun wx hS => ?_) (⟨E18, B19, B20, B21, B22, B23, B24, B25, B26, B27⟩) ?_
  · exact WL.loadS [.bool (true), .bool (true), .bool (false), .slice (some ⟨b12, 0, none⟩) 1 1, IN (0), .bool (true), U32 (28799#32)] rfl ag116 sz116 rfl (hS.2.2.1.sub (o := 0) (vs := [.bool (true), .bool (true), .bool (false), .slice (some ⟨b12, 0, none⟩) 1 1, IN (0), .bool (true), U32 (28799#32)]) rfl) rfl (WL.nil ⟨rfl, rfl, rfl⟩)
  refine WA.take (i := 32) (m' := 5726623061) (v := .agg #[.bool (true), .bool (true), .bool (false), .slice (some ⟨b12, 0, none⟩) 1 1, IN (0), .bool (true), U32 (28799#32)]) rfl rfl rfl rfl R62_t32_55555555 rfl (fun _ _ _ h => h) (fun wx hS => ?_) (⟨E18, B19, B20, B21, B22, B23, B24, B25, B26, B27⟩) ?_
  · exact WL.loadS [.bool (true), .bool (true), .bool (false), .slice (some ⟨b12, 0, none⟩) 1 1, IN (0), .bool (true), U32 (28799#32)] rfl ag116 sz116 rfl (hS.2.2.1.sub (o := 0) (vs := [.bool (true), .bool (true), .bool (false), .slice (some ⟨b12, 0, none⟩) 1 1, IN (0), .bool (true), U32 (28799#32)]) rfl) rfl (WL.nil ⟨rfl, rfl, rfl⟩)
  refine WA.take (i := 34) (m' := 22906492245) (v := .agg #[.bool (false), .bool (true), .bool (true), .slice (some ⟨b22, 0, none⟩) 2 2, IN (0), .bool (true), U32 (28799#32)]) rfl rfl rfl rfl R62_t34_155555555 rfl (fun _ _ _ h => h) (fun wx hS => ?_) (⟨E18, B19, B20, B21, B22, B23, B24, B25, B26, B27⟩) ?_
  · exact WL.loadS [.bool (false), .bool (true), .bool (true), .slice (some ⟨b22, 0, none⟩) 2 2, IN (0), .bool (true), U32 (28799#32)] rfl ag116 sz116 rfl (hS.2.2.2.2.2.1.sub (o := 0) (vs := [.bool (false), .bool (true), .bool (true), .slice (some ⟨b22, 0, none⟩) 2 2, IN (0), .bool (true), U32 (28799#32)]) rfl) rfl (WL.nil ⟨rfl, rfl, rfl⟩)
  refine WA.take (i := 36) (m' := 91625968981) (v := .agg #[.bool (false), .bool (true), .bool (true), .slice (some ⟨b22, 0, none⟩) 2 2, IN (0), .bool (true), U32 (28799#32)]) rfl rfl rfl rfl R62_t36_555555555 rfl (fun _ _ _ h => h) (fun wx hS => ?_) (⟨E18, B19, B20, B21, B22, B23, B24, B25, B26, B27⟩) ?_
  · exact WL.loadS [.bool (false), .bool (true), .bool (true), .slice (some ⟨b22, 0, none⟩) 2 2, IN (0), .bool (true), U32 (28799#32)] rfl ag116 sz116 rfl (hS.2.2.2.2.2.1.sub (o := 0) (vs := [.bool (false), .bool (true), .bool (true), .slice (some ⟨b22, 0, none⟩) 2 2, IN (0), .bool (true), U32 (28799#32)]) rfl) rfl (WL.nil ⟨rfl, rfl, rfl⟩)
  refine WA.take (i := 38) (m' := 366503875925) (v := .agg #[.bool (false), .bool (true), .bool (true), .slice (some ⟨b22, 0, none⟩) 2 2, IN (0), .bool (true), U32 (28799#32)]) rfl rfl rfl rfl R62_t38_1555555555 rfl (fun _ _ _ h => h) (fun wx hS => ?_) (⟨E18, B19, B20, B21, B22, B23, B24, B25, B26, B27⟩) ?_
  · exact WL.loadS [.bool (false), .bool (true), .bool (true), .slice (some ⟨b22, 0, none⟩) 2 2, IN (0), .bool (true), U32 (28799#32)] rfl ag116 sz116 rfl (hS.2.2.2.2.2.1.sub (o := 0) (vs := [.bool (false), .bool (true), .bool (true), .slice (some ⟨b22, 0, none⟩) 2 2, IN (0), .bool (true), U32 (28799#32)]) rfl) rfl (WL.nil ⟨rfl, rfl, rfl⟩)
  refine WA.take (i := 40) (m' := 1466015503701) (v := .agg #[.bool (false), .bool (true), .bool (true), .slice (some ⟨b22, 0, none⟩) 2 2, IN (0), .bool (true), U32 (28799#32)]) rfl rfl rfl rfl R62_t40_5555555555 rfl (fun _ _ _ h => h) (fun wx hS => ?_) (⟨E18, B19, B20, B21, B22, B23, B24, B25, B26, B27⟩) ?_
  · exact WL.loadS [.bool (false), .bool (true), .bool (true), .slice (some ⟨b22, 0, none⟩) 2 2, IN (0), .bool (true), U32 (28799#32)] rfl ag116 sz116 rfl (hS.2.2.2.2.2.1.sub (o := 0) (vs := [.bool (false), .bool (true), .bool (true), .slice (some ⟨b22, 0, none⟩) 2 2, IN (0), .bool (true), U32 (28799#32)]) rfl) rfl (WL.nil ⟨rfl, rfl, rfl⟩)
  refine WA.take (i := 42) (m' := 5864062014805) (v := .agg #[.bool (true), .bool (true), .bool (false), .slice (some ⟨b12, 0, none⟩) 1 1, IN (0), .bool (true), U32 (28799#32)]) rfl rfl rfl rfl R62_t42_15555555555 rfl (fun _ _ _ h => h) (fun wx hS => ?_) (⟨E18, B19, B20, B21, B22, B23, B24, B25, B26, B27⟩) ?_
  · exact WL.loadS [.bool (true), .bool (true), .bool (false), .slice (some ⟨b12, 0, none⟩) 1 1, IN (0), .bool (true), U32 (28799#32)] rfl ag116 sz116 rfl (hS.2.2.1.sub (o := 0) (vs := [.bool (true), .bool (true), .bool (false), .slice (some ⟨b12, 0, none⟩) 1 1, IN (0), .bool (true), U32 (28799#32)]) rfl) rfl (WL.nil ⟨rfl, rfl, rfl⟩)
  refine WA.take (i := 44) (m' := 23456248059221) (v := .agg #[.bool (true), .bool (true), .bool (false), .slice (some ⟨b12, 0, none⟩) 1 1, IN (0), .bool (true), U32 (28799#32)]) rfl rfl rfl rfl R62_t44_55555555555 rfl (fun _ _ _ h => h) (fun wx hS => ?_) (⟨E18, B19, B20, B21, B22, B23, B24, B25, B26, B27⟩) ?_
  · exact WL.loadS [.bool (true), .bool (true), .bool (false), .slice (some ⟨b12, 0, none⟩) 1 1, IN (0), .bool (true), U32 (28799#32)] rfl ag116 sz116 rfl (hS.2.2.1.sub (o := 0) (vs := [.bool (true), .bool (true), .bool (false), .slice (some ⟨b12, 0, none⟩) 1 1, IN (0), .bool (true), U32 (28799#32)]) rfl) rfl (WL.nil ⟨rfl, rfl, rfl⟩)
  refine WA.take (i := 46) (m' := 93824992236885) (v := .agg #[.bool (true), .bool (true), .bool (false), .slice (some ⟨b12, 0, none⟩) 1 1, IN (0), .bool (true), U32 (28799#32)]) rfl rfl rfl rfl R62_t46_155555555555 rfl (fun _ _ _ h => h) (fun wx hS => ?_) (⟨E18, B19, B20, B21, B22, B23, B24, B25, B26, B27⟩) ?_
  · exact WL.loadS [.bool (true), .bool (true), .bool (false), .slice (some ⟨b12, 0, none⟩) 1 1, IN (0), .bool (true), U32 (28799#32)] rfl ag116 sz116 rfl (hS.2.2.1.sub (o := 0) (vs := [.bool (true), .bool (true), .bool (false), .slice (some ⟨b12, 0, none⟩) 1 1, IN (0), .bool (true), U32 (28799#32)]) rfl) rfl (WL.nil ⟨rfl, rfl, rfl⟩)
  refine WA.take (i := 48) (m' := 375299968947541) (v := .agg #[.bool (true), .bool (true), .bool (false), .slice (some ⟨b12, 0, none⟩) 1 1, IN (0), .bool (true), U32 (28799#32)]) rfl rfl rfl rfl R62_t48_555555555555 rfl (fun _ _ _ h => h) (fun wx hS => ?_) (⟨E18, B19, B20, B21, B22, B23, B24, B25, B26, B27⟩) ?_
  · exact WL.loadS [.bool (true), .bool (true), .bool (false), .slice (some ⟨b12, 0, none⟩) 1 1, IN (0), .bool (true), U32 (28799#32)] rfl ag116 sz116 rfl (hS.2.2.1.sub (o := 0) (vs := [.bool (true), .bool (true), .bool (false), .slice (some ⟨b12, 0, none⟩) 1 1, IN (0), .bool (true), U32 (28799#32)]) rfl) rfl (WL.nil ⟨rfl, rfl, rfl⟩)
  refine WA.take (i := 50) (m' := 1501199875790165) (v := .agg #[.bool (true), .bool (true), .bool (false), .slice (some ⟨b12, 0, none⟩) 1 1, IN (0), .bool (true), U32 (28799#32)]) rfl rfl rfl rfl R62_t50_1555555555555 rfl (fun _ _ _ h => h) (fun wx hS => ?_) (⟨E18, B19, B20, B21, B22, B23, B24, B25, B26, B27⟩) ?_
  · exact WL.loadS [.bool (true), .bool (true), .bool (false), .slice (some ⟨b12, 0, none⟩) 1 1, IN (0), .bool (true), U32 (28799#32)] rfl ag116 sz116 rfl (hS.2.2.1.sub (o := 0) (vs := [.bool (true), .bool (true), .bool (false), .slice (some ⟨b12, 0, none⟩) 1 1, IN (0), .bool (true), U32 (28799#32)]) rfl) rfl (WL.nil ⟨rfl, rfl, rfl⟩)
  refine WA.take (i := 52) (m' := 6004799503160661) (v := .agg #[.bool (true), .bool (true), .bool (false), .slice (some ⟨b12, 0, none⟩) 1 1, IN (0), .bool (true), U32 (28799#32)]) rfl rfl rfl rfl R62_t52_5555555555555 rfl (fun _ _ _ h => h) (fun wx hS => ?_) (⟨E18, B19, B20, B21, B22, B23, B24, B25, B26, B27⟩) ?_
  · exact WL.loadS [.bool (true), .bool (true), .bool (false), .slice (some ⟨b12, 0, none⟩) 1 1, IN (0), .bool (true), U32 (28799#32)] rfl ag116 sz116 rfl (hS.2.2.1.sub (o := 0) (vs := [.bool (true), .bool (true), .bool (false), .slice (some ⟨b12, 0, none⟩) 1 1, IN (0), .bool (true), U32 (28799#32)]) rfl) rfl (WL.nil ⟨rfl, rfl, rfl⟩)
  refine WA.take (i := 54) (m' := 24019198012642645) (v := .agg #[.bool (true), .bool (true), .bool (false), .slice (some ⟨b15, 0, none⟩) 1 1, IN (0), .bool (false), U32 (4227887231#32)]) rfl rfl rfl rfl R62_t54_15555555555555 rfl (fun _ _ _ h => h) (fun wx hS => ?_) (⟨E18, B19, B20, B21, B22, B23, B24, B25, B26, B27⟩) ?_
  · exact WL.loadS [.bool (true), .bool (true), .bool (false), .slice (some ⟨b15, 0, none⟩) 1 1, IN (0), .bool (false), U32 (4227887231#32)] rfl ag116 sz116 rfl (hS.2.2.2.1.sub (o := 0) (vs := [.bool (true), .bool (true), .bool (false), .slice (some ⟨b15, 0, none⟩) 1 1, IN (0), .bool (false), U32 (4227887231#32)]) rfl) rfl (WL.nil ⟨rfl, rfl, rfl⟩)
  refine WA.take (i := 56) (m' := 96076792050570581) (v := .agg #[.bool (true), .bool (true), .bool (false), .slice (some ⟨b15, 0, none⟩) 1 1, IN (0), .bool (false), U32 (4227887231#32)]) rfl rfl rfl rfl R62_t56_55555555555555 rfl (fun _ _ _ h => h) (fun wx hS => ?_) (⟨E18, B19, B20, B21, B22, B23, B24, B25, B26, B27⟩) ?_
  · exact WL.loadS [.bool (true), .bool (true), .bool (false), .slice (some ⟨b15, 0, none⟩) 1 1, IN (0), .bool (false), U32 (4227887231#32)] rfl ag116 sz116 rfl (hS.2.2.2.1.sub (o := 0) (vs := [.bool (true), .bool (true), .bool (false), .slice (some ⟨b15, 0, none⟩) 1 1, IN (0), .bool (false), U32 (4227887231#32)]) rfl) rfl (WL.nil ⟨rfl, rfl, rfl⟩)
  refine WA.take (i := 58) (m' := 384307168202282325) (v := .agg #[.bool (true), .bool (true), .bool (false), .slice (some ⟨b15, 0, none⟩) 1 1, IN (0), .bool (false), U32 (4227887231#32)]) rfl rfl rfl rfl R62_t58_155555555555555 rfl (fun _ _ _ h => h) (fun wx hS => ?_) (⟨E18, B19, B20, B21, B22, B23, B24, B25, B26, B27⟩) ?_
  · exact WL.loadS [.bool (true), .bool (true), .bool (false), .slice (some ⟨b15, 0, none⟩) 1 1, IN (0), .bool (false), U32 (4227887231#32)] rfl ag116 sz116 rfl (hS.2.2.2.1.sub (o := 0) (vs := [.bool (true), .bool (true), .bool (false), .slice (some ⟨b15, 0, none⟩) 1 1, IN (0), .bool (false), U32 (4227887231#32)]) rfl) rfl (WL.nil ⟨rfl, rfl, rfl⟩)
  refine WA.take (i := 60) (m' := 1537228672809129301) (v := .agg #[.bool (true), .bool (true), .bool (true), .slice none 0 0, IN (0), .bool (false), U32 (4261441663#32)]) rfl rfl rfl rfl R62_t60_555555555555555 rfl (fun _ _ _ h => h) (fun wx hS => ?_) (⟨E18, B19, B20, B21, B22, B23, B24, B25, B26, B27⟩) ?_
  · exact WL.loadS [.bool (true), .bool (true), .bool (true), .slice none 0 0, IN (0), .bool (false), U32 (4261441663#32)] rfl ag116 sz116 rfl (hS.2.1.sub (o := 0) (vs := [.bool (true), .bool (true), .bool (true), .slice none 0 0, IN (0), .bool (false), U32 (4261441663#32)]) rfl) rfl (WL.nil ⟨rfl, rfl, rfl⟩)
  refine WA.take (i := 62) (m' := 6148914691236517205) (v := .agg #[.bool (true), .bool (true), .bool (true), .slice none 0 0, IN (0), .bool (false), U32 (4261441663#32)]) rfl rfl rfl rfl R62_t62_1555555555555555 rfl (fun _ _ _ h => h) (fun wx hS => ?_) (⟨E18, B19, B20, B21, B22, B23, B24, B25, B26, B27⟩) ?_
  · exact WL.loadS [.bool (true), .bool (true), .bool (true), .slice none 0 0, IN (0), .bool (false), U32 (4261441663#32)] rfl ag116 sz116 rfl (hS.2.1.sub (o := 0) (vs := [.bool (true), .bool (true), .bool (true), .slice none 0 0, IN (0), .bool (false), U32 (4261441663#32)]) rfl) rfl (WL.nil ⟨rfl, rfl, rfl⟩)
  refine WA.take (i := 64) (m' := 24595658764946068821) (v := .agg #[.bool (true), .bool (true), .bool (true), .slice none 0 0, IN (0), .bool (false), U32 (4261441663#32)]) rfl rfl rfl rfl R62_t64_5555555555555555 rfl (fun _ _ _ h => h) (fun wx hS => ?_) (⟨E18, B19, B20, B21, B22, B23, B24, B25, B26, B27⟩) ?_
  · exact WL.loadS [.bool (true), .bool (true), .bool (true), .slice none 0 0, IN (0), .bool (false), U32 (4261441663#32)] rfl ag116 sz116 rfl (hS.2.1.sub (o := 0) (vs := [.bool (true), .bool (true), .bool (true), .slice none 0 0, IN (0), .bool (false), U32 (4261441663#32)]) rfl) rfl (WL.nil ⟨rfl, rfl, rfl⟩)
  refine WA.take (i := 66) (m' := 98382635059784275285) (v := .agg #[.bool (true), .bool (true), .bool (true), .slice none 0 0, IN (0), .bool (false), U32 (4261441663#32)]) rfl rfl rfl rfl R62_t66_15555555555555555 rfl (fun _ _ _ h => h) (fun wx hS => ?_) (⟨E18, B19, B20, B21, B22, B23, B24, B25, B26, B27⟩) ?_
  · exact WL.loadS [.bool (true), .bool (true), .bool (true), .slice none 0 0, IN (0), .bool (false), U32 (4261441663#32)] rfl ag116 sz116 rfl (hS.2.1.sub (o := 0) (vs := [.bool (true), .bool (true), .bool (true), .slice none 0 0, IN (0), .bool (false), U32 (4261441663#32)]) rfl) rfl (WL.nil ⟨rfl, rfl, rfl⟩)
  refine WA.take (i := 68) (m' := 393530540239137101141) (v := .agg #[.bool (true), .bool (true), .bool (true), .slice none 0 0, IN (0), .bool (false), U32 (4261441663#32)]) rfl rfl rfl rfl R62_t68_55555555555555555 rfl (fun _ _ _ h => h) (fun wx hS => ?_) (⟨E18, B19, B20, B21, B22, B23, B24, B25, B26, B27⟩) ?_
  · exact WL.loadS [.bool (true), .bool (true), .bool (true), .slice none 0 0, IN (0), .bool (false), U32 (4261441663#32)] rfl ag116 sz116 rfl (hS.2.1.sub (o := 0) (vs := [.bool (true), .bool (true), .bool (true), .slice none 0 0, IN (0), .bool (false), U32 (4261441663#32)]) rfl) rfl (WL.nil ⟨rfl, rfl, rfl⟩)
  refine WA.take (i := 70) (m' := 1574122160956548404565) (v := .agg #[.bool (true), .bool (true), .bool (true), .slice none 0 0, IN (0), .bool (false), U32 (4261441663#32)]) rfl rfl rfl rfl R62_t70_155555555555555555 rfl (fun _ _ _ h => h) (fun wx hS => ?_) (⟨E18, B19, B20, B21, B22, B23, B24, B25, B26, B27⟩) ?_
  · exact WL.loadS [.bool (true), .bool (true), .bool (true), .slice none 0 0, IN (0), .bool (false), U32 (4261441663#32)] rfl ag116 sz116 rfl (hS.2.1.sub (o := 0) (vs := [.bool (true), .bool (true), .bool (true), .slice none 0 0, IN (0), .bool (false), U32 (4261441663#32)]) rfl) rfl (WL.nil ⟨rfl, rfl, rfl⟩)
  refine WA.take (i := 72) (m' := 6296488643826193618261) (v := .agg #[.bool (true), .bool (true), .bool (true), .slice none 0 0, IN (0), .bool (false), U32 (4261441663#32)]) rfl rfl rfl rfl R62_t72_555555555555555555 rfl (fun _ _ _ h => h) (fun wx hS => ?_) (⟨E18, B19, B20, B21, B22, B23, B24, B25, B26, B27⟩) ?_
  · exact WL.loadS [.bool (true), .bool (true), .bool (true), .slice none 0 0, IN (0), .bool (false), U32 (4261441663#32)] rfl ag116 sz116 rfl (hS.2.1.sub (o := 0) (vs := [.bool (true), .bool (true), .bool (true), .slice none 0 0, IN (0), .bool (false), U32 (4261441663#32)]) rfl) rfl (WL.nil ⟨rfl, rfl, rfl⟩)
  refine WA.take (i := 74) (m' := 25185954575304774473045) (v := .agg #[.bool (true), .bool (true), .bool (true), .slice none 0 0, IN (0), .bool (false), U32 (4261441663#32)]) rfl rfl rfl rfl R62_t74_1555555555555555555 rfl (fun _ _ _ h => h) (fun wx hS => ?_) (⟨E18, B19, B20, B21, B22, B23, B24, B25, B26, B27⟩) ?_
  · exact WL.loadS [.bool (true), .bool (true), .bool (true), .slice none 0 0, IN (0), .bool (false), U32 (4261441663#32)] rfl ag116 sz116 rfl (hS.2.1.sub (o := 0) (vs := [.bool (true), .bool (true), .bool (true), .slice none 0 0, IN (0), .bool (false), U32 (4261441663#32)]) rfl) rfl (WL.nil ⟨rfl, rfl, rfl⟩)
  refine WA.take (i := 76) (m' := 100743818301219097892181) (v := .agg #[.bool (true), .bool (true), .bool (true), .slice none 0 0, IN (0), .bool (false), U32 (4261441663#32)]) rfl rfl rfl rfl R62_t76_5555555555555555555 rfl (fun _ _ _ h => h) (fun wx hS => ?_) (⟨E18, B19, B20, B21, B22, B23, B24, B25, B26, B27⟩) ?_
  · exact WL.loadS [.bool (true), .bool (true), .bool (true), .slice none 0 0, IN (0), .bool (false), U32 (4261441663#32)] rfl ag116 sz116 rfl (hS.2.1.sub (o := 0) (vs := [.bool (true), .bool (true), .bool (true), .slice none 0 0, IN (0), .bool (false), U32 (4261441663#32)]) rfl) rfl (WL.nil ⟨rfl, rfl, rfl⟩)
  refine WA.take (i := 78) (m' := 402975273204876391568725) (v := .agg #[.bool (true), .bool (true), .bool (true), .slice none 0 0, IN (0), .bool (false), U32 (4261441663#32)]) rfl rfl rfl rfl R62_t78_15555555555555555555 rfl (fun _ _ _ h => h) (fun wx hS => ?_) (⟨E18, B19, B20, B21, B22, B23, B24, B25, B26, B27⟩) ?_
  · exact WL.loadS [.bool (true), .bool (true), .bool (true), .slice none 0 0, IN (0), .bool (false), U32 (4261441663#32)] rfl ag116 sz116 rfl (hS.2.1.sub (o := 0) (vs := [.bool (true), .bool (true), .bool (true), .slice none 0 0, IN (0), .bool (false), U32 (4261441663#32)]) rfl) rfl (WL.nil ⟨rfl, rfl, rfl⟩)
  refine WA.take (i := 80) (m' := 1611901092819505566274901) (v := .agg #[.bool (true), .bool (true), .bool (false), .slice (some ⟨b12, 0, none⟩) 1 1, IN (0), .bool (true), U32 (28799#32)]) rfl rfl rfl rfl R62_t80_55555555555555555555 rfl (fun _ _ _ h => h) (fun wx hS => ?_) (⟨E18, B19, B20, B21, B22, B23, B24, B25, B26, B27⟩) ?_
  · exact WL.loadS [.bool (true), .bool (true), .bool (false), .slice (some ⟨b12, 0, none⟩) 1 1, IN (0), .bool (true), U32 (28799#32)] rfl ag116 sz116 rfl (hS.2.2.1.sub (o := 0) (vs := [.bool (true), .bool (true), .bool (false), .slice (some ⟨b12, 0, none⟩) 1 1, IN (0), .bool (true), U32 (28799#32)]) rfl) rfl (WL.nil ⟨rfl, rfl, rfl⟩)
  refine WA.take (i := 82) (m' := 6447604371278022265099605) (v := .agg #[.bool (true), .bool (true), .bool (false), .slice (some ⟨b18, 0, none⟩) 1 1, IN (0), .bool (false), U32 (4261441663#32)]) rfl rfl rfl rfl R62_t82_155555555555555555555 rfl (fun _ _ _ h => h) (fun wx hS => ?_) (⟨E18, B19, B20, B21, B22, B23, B24, B25, B26, B27⟩) ?_
  · exact WL.loadS [.bool (true), .bool (true), .bool (false), .slice (some ⟨b18, 0, none⟩) 1 1, IN (0), .bool (false), U32 (4261441663#32)] rfl ag116 sz116 rfl (hS.2.2.2.2.1.sub (o := 0) (vs := [.bool (true), .bool (true), .bool (false), .slice (some ⟨b18, 0, none⟩) 1 1, IN (0), .bool (false), U32 (4261441663#32)]) rfl) rfl (WL.nil ⟨rfl, rfl, rfl⟩)
  refine WA.take (i := 84) (m' := 25790417485112089060398421) (v := .agg #[.bool (true), .bool (true), .bool (false), .slice (some ⟨b18, 0, none⟩) 1 1, IN (0), .bool (false), U32 (4261441663#32)]) rfl rfl rfl rfl R62_t84_555555555555555555555 rfl (fun _ _ _ h => h) (fun wx hS => ?_) (⟨E18, B19, B20, B21, B22, B23, B24, B25, B26, B27⟩) ?_
  · exact WL.loadS [.bool (true), .bool (true), .bool (false), .slice (some ⟨b18, 0, none⟩) 1 1, IN (0), .bool (false), U32 (4261441663#32)] rfl ag116 sz116 rfl (hS.2.2.2.2.1.sub (o := 0) (vs := [.bool (true), .bool (true), .bool (false), .slice (some ⟨b18, 0, none⟩) 1 1, IN (0), .bool (false), U32 (4261441663#32)]) rfl) rfl (WL.nil ⟨rfl, rfl, rfl⟩)
  refine WA.take (i := 86) (m' := 103161669940448356241593685) (v := .agg #[.bool (true), .bool (true), .bool (false), .slice (some ⟨b18, 0, none⟩) 1 1, IN (0), .bool (false), U32 (4261441663#32)]) rfl rfl rfl rfl R62_t86_1555555555555555555555 rfl (fun _ _ _ h => h) (fun wx hS => ?_) (⟨E18, B19, B20, B21, B22, B23, B24, B25, B26, B27⟩) ?_
  · exact WL.loadS [.bool (true), .bool (true), .bool (false), .slice (some ⟨b18, 0, none⟩) 1 1, IN (0), .bool (false), U32 (4261441663#32)] rfl ag116 sz116 rfl (hS.2.2.2.2.1.sub (o := 0) (vs := [.bool (true), .bool (true), .bool (false), .slice (some ⟨b18, 0, none⟩) 1 1, IN (0), .bool (false), U32 (4261441663#32)]) rfl) rfl (WL.nil ⟨rfl, rfl, rfl⟩)
  refine WA.take (i := 88) (m' := 412646679761793424966374741) (v := .agg #[.bool (true), .bool (true), .bool (true), .slice none 0 0, IN (0), .bool (false), U32 (4261441663#32)]) rfl rfl rfl rfl R62_t88_5555555555555555555555 rfl (fun _ _ _ h => h) (fun wx hS => ?_) (⟨E18, B19, B20, B21, B22, B23, B24, B25, B26, B27⟩) ?_
  · exact WL.loadS [.bool (true), .bool (true), .bool (true), .slice none 0 0, IN (0), .bool (false), U32 (4261441663#32)] rfl ag116 sz116 rfl (hS.2.1.sub (o := 0) (vs := [.bool (true), .bool (true), .bool (true), .slice none 0 0, IN (0), .bool (false), U32 (4261441663#32)]) rfl) rfl (WL.nil ⟨rfl, rfl, rfl⟩)
  refine WA.take (i := 90) (m' := 1650586719047173699865498965) (v := .agg #[.bool (true), .bool (true), .bool (true), .slice none 0 0, IN (0), .bool (false), U32 (4261441663#32)]) rfl rfl rfl rfl R62_t90_15555555555555555555555 rfl (fun _ _ _ h => h) (fun wx hS => ?_) (⟨E18, B19, B20, B21, B22, B23, B24, B25, B26, B27⟩) ?_
  · exact WL.loadS [.bool (true), .bool (true), .bool (true), .slice none 0 0, IN (0), .bool (false), U32 (4261441663#32)] rfl ag116 sz116 rfl (hS.2.1.sub (o := 0) (vs := [.bool (true), .bool (true), .bool (true), .slice none 0 0, IN (0), .bool (false), U32 (4261441663#32)]) rfl) rfl (WL.nil ⟨rfl, rfl, rfl⟩)
  refine WA.take (i := 92) (m' := 6602346876188694799461995861) (v := .agg #[.bool (true), .bool (true), .bool (true), .slice none 0 0, IN (0), .bool (false), U32 (4261441663#32)]) rfl rfl rfl rfl R62_t92_55555555555555555555555 rfl (fun _ _ _ h => h) (fun wx hS => ?_) (⟨E18, B19, B20, B21, B22, B23, B24, B25, B26, B27⟩) ?_
  · exact WL.loadS [.bool (true), .bool (true), .bool (true), .slice none 0 0, IN (0), .bool (false), U32 (4261441663#32)] rfl ag116 sz116 rfl (hS.2.1.sub (o := 0) (vs := [.bool (true), .bool (true), .bool (true), .slice none 0 0, IN (0), .bool (false), U32 (4261441663#32)]) rfl) rfl (WL.nil ⟨rfl, rfl, rfl⟩)
  refine WA.take (i := 94) (m' := 26409387504754779197847983445) (v := .agg #[.bool (true), .bool (true), .bool (true), .slice none 0 0, IN (0), .bool (false), U32 (4261441663#32)]) rfl rfl rfl rfl R62_t94_155555555555555555555555 rfl (fun _ _ _ h => h) (fun wx hS => ?_) (⟨E18, B19, B20, B21, B22, B23, B24, B25, B26, B27⟩) ?_
  · exact WL.loadS [.bool (true), .bool (true), .bool (true), .slice none 0 0, IN (0), .bool (false), U32 (4261441663#32)] rfl ag116 sz116 rfl (hS.2.1.sub (o := 0) (vs := [.bool (true), .bool (true), .bool (true), .slice none 0 0, IN (0), .bool (false), U32 (4261441663#32)]) rfl) rfl (WL.nil ⟨rfl, rfl, rfl⟩)
  refine WA.take (i := 96) (m' := 105637550019019116791391933781) (v := .agg #[.bool (true), .bool (true), .bool (true), .slice none 0 0, IN (0), .bool (false), U32 (4261441663#32)]) rfl rfl rfl rfl R62_t96_555555555555555555555555 rfl (fun _ _ _ h => h) (fun wx hS => ?_) (⟨E18, B19, B20, B21, B22, B23, B24, B25, B26, B27⟩) ?_
  · exact WL.loadS [.bool (true), .bool (true), .bool (true), .slice none 0 0, IN (0), .bool (false), U32 (4261441663#32)] rfl ag116 sz116 rfl (hS.2.1.sub (o := 0) (vs := [.bool (true), .bool (true), .bool (true), .slice none 0 0, IN (0), .bool (false), U32 (4261441663#32)]) rfl) rfl (WL.nil ⟨rfl, rfl, rfl⟩)
  refine WA.take (i := 98) (m' := 422550200076076467165567735125) (v := .agg #[.bool (true), .bool (true), .bool (true), .slice none 0 0, IN (0), .bool (false), U32 (4261441663#32)]) rfl rfl rfl rfl R62_t98_1555555555555555555555555 rfl (fun _ _ _ h => h) (fun wx hS => ?_) (⟨E18, B19, B20, B21, B22, B23, B24, B25, B26, B27⟩) ?_
  · exact WL.loadS [.bool (true), .bool (true), .bool (true), .slice none 0 0, IN (0), .bool (false), U32 (4261441663#32)] rfl ag116 sz116 rfl (hS.2.1.sub (o := 0) (vs := [.bool (true), .bool (true), .bool (true), .slice none 0 0, IN (0), .bool (false), U32 (4261441663#32)]) rfl) rfl (WL.nil ⟨rfl, rfl, rfl⟩)
  refine WA.take (i := 100) (m' := 1690200800304305868662270940501) (v := .agg #[.bool (true), .bool (true), .bool (true), .slice none 0 0, IN (0), .bool (false), U32 (4261441663#32)]) rfl rfl rfl rfl R62_t100_5555555555555555555555555 rfl (fun _ _ _ h => h) (fun wx hS => ?_) (⟨E18, B19, B20, B21, B22, B23, B24, B25, B26, B27⟩) ?_
  · exact WL.loadS [.bool (true), .bool (true), .bool (true), .slice none 0 0, IN (0), .bool (false), U32 (4261441663#32)] rfl ag116 sz116 rfl (hS.2.1.sub (o := 0) (vs := [.bool (true), .bool (true), .bool (true), .slice none 0 0, IN (0), .bool (false), U32 (4261441663#32)]) rfl) rfl (WL.nil ⟨rfl, rfl, rfl⟩)
  refine WA.take (i := 102) (m' := 6760803201217223474649083762005) (v := .agg #[.bool (true), .bool (true), .bool (true), .slice none 0 0, IN (0), .bool (false), U32 (4261441663#32)]) rfl rfl rfl rfl R62_t102_15555555555555555555555555 rfl (fun _ _ _ h => h) (fun wx hS => ?_) (⟨E18, B19, B20, B21, B22, B23, B24, B25, B26, B27⟩) ?_
  · exact WL.loadS [.bool (true), .bool (true), .bool (true), .slice none 0 0, IN (0), .bool (false), U32 (4261441663#32)] rfl ag116 sz116 rfl (hS.2.1.sub (o := 0) (vs := [.bool (true), .bool (true), .bool (true), .slice none 0 0, IN (0), .bool (false), U32 (4261441663#32)]) rfl) rfl (WL.nil ⟨rfl, rfl, rfl⟩)
  refine WA.take (i := 104) (m' := 27043212804868893898596335048021) (v := .agg #[.bool (true), .bool (true), .bool (true), .slice none 0 0, IN (0), .bool (false), U32 (4261441663#32)]) rfl rfl rfl rfl R62_t104_55555555555555555555555555 rfl (fun _ _ _ h => h) (fun wx hS => ?_) (⟨E18, B19, B20, B21, B22, B23, B24, B25, B26, B27⟩) ?_
  · exact WL.loadS [.bool (true), .bool (true), .bool (true), .slice none 0 0, IN (0), .bool (false), U32 (4261441663#32)] rfl ag116 sz116 rfl (hS.2.1.sub (o := 0) (vs := [.bool (true), .bool (true), .bool (true), .slice none 0 0, IN (0), .bool (false), U32 (4261441663#32)]) rfl) rfl (WL.nil ⟨rfl, rfl, rfl⟩)
  refine WA.take (i := 106) (m' := 108172851219475575594385340192085) (v := .agg #[.bool (true), .bool (true), .bool (true), .slice none 0 0, IN (0), .bool (false), U32 (4261441663#32)]) rfl rfl rfl rfl R62_t106_155555555555555555555555555 rfl (fun _ _ _ h => h) (fun wx hS => ?_) (⟨E18, B19, B20, B21, B22, B23, B24, B25, B26, B27⟩) ?_
  · exact WL.loadS [.bool (true), .bool (true), .bool (true), .slice none 0 0, IN (0), .bool (false), U32 (4261441663#32)] rfl ag116 sz116 rfl (hS.2.1.sub (o := 0) (vs := [.bool (true), .bool (true), .bool (true), .slice none 0 0, IN (0), .bool (false), U32 (4261441663#32)]) rfl) rfl (WL.nil ⟨rfl, rfl, rfl⟩)
  refine WA.take (i := 108) (m' := 432691404877902302377541360768341) (v := .agg #[.bool (true), .bool (true), .bool (true), .slice none 0 0, IN (0), .bool (false), U32 (4261441663#32)]) rfl rfl rfl rfl R62_t108_555555555555555555555555555 rfl (fun _ _ _ h => h) (fun wx hS => ?_) (⟨E18, B19, B20, B21, B22, B23, B24, B25, B26, B27⟩) ?_
  · exact WL.loadS [.bool (true), .bool (true), .bool (true), .slice none 0 0, IN (0), .bool (false), U32 (4261441663#32)] rfl ag116 sz116 rfl (hS.2.1.sub (o := 0) (vs := [.bool (true), .bool (true), .bool (true), .slice none 0 0, IN (0), .bool (false), U32 (4261441663#32)]) rfl) rfl (WL.nil ⟨rfl, rfl, rfl⟩)
  refine WA.take (i := 110) (m' := 1730765619511609209510165443073365) (v := .agg #[.bool (true), .bool (true), .bool (true), .slice none 0 0, IN (0), .bool (false), U32 (4261441663#32)]) rfl rfl rfl rfl R62_t110_1555555555555555555555555555 rfl (fun _ _ _ h => h) (fun wx hS => ?_) (⟨E18, B19, B20, B21, B22, B23, B24, B25, B26, B27⟩) ?_
  · exact WL.loadS [.bool (true), .bool (true), .bool (true), .slice none 0 0, IN (0), .bool (false), U32 (4261441663#32)] rfl ag116 sz116 rfl (hS.2.1.sub (o := 0) (vs := [.bool (true), .bool (true), .bool (true), .slice none 0 0, IN (0), .bool (false), U32 (4261441663#32)]) rfl) rfl (WL.nil ⟨rfl, rfl, rfl⟩)
  refine WA.take (i := 112) (m' := 6923062478046436838040661772293461) (v := .agg #[.bool (true), .bool (true), .bool (true), .slice none 0 0, IN (0), .bool (false), U32 (4261441663#32)]) rfl rfl rfl rfl R62_t112_5555555555555555555555555555 rfl (fun _ _ _ h => h) (fun wx hS => ?_) (⟨E18, B19, B20, B21, B22, B23, B24, B25, B26, B27⟩) ?_
  · exact WL.loadS [.bool (true), .bool (true), .bool (true), .slice none 0 0, IN (0), .bool (false), U32 (4261441663#32)] rfl ag116 sz116 rfl (hS.2.1.sub (o := 0) (vs := [.bool (true), .bool (true), .bool (true), .slice none 0 0, IN (0), .bool (false), U32 (4261441663#32)]) rfl) rfl (WL.nil ⟨rfl, rfl, rfl⟩)
  refine WA.take (i := 114) (m' := 27692249912185747352162647089173845) (v := .agg #[.bool (true), .bool (true), .bool (true), .slice none 0 0, IN (0), .bool (false), U32 (4261441663#32)]) rfl rfl rfl rfl R62_t114_15555555555555555555555555555 rfl (fun _ _ _ h => h) (fun wx hS => ?_) (⟨E18, B19, B20, B21, B22, B23, B24, B25, B26, B27⟩) ?_
  · exact WL.loadS [.bool (true), .bool (true), .bool (true), .slice none 0 0, IN (0), .bool (false), U32 (4261441663#32)] rfl ag116 sz116 rfl (hS.2.1.sub (o := 0) (vs := [.bool (true), .bool (true), .bool (true), .slice none 0 0, IN (0), .bool (false), U32 (4261441663#32)]) rfl) rfl (WL.nil ⟨rfl, rfl, rfl⟩)
  refine WA.take (i := 116) (m' := 110768999648742989408650588356695381) (v := .agg #[.bool (true), .bool (true), .bool (true), .slice none 0 0, IN (0), .bool (false), U32 (4261441663#32)]) rfl rfl rfl rfl R62_t116_55555555555555555555555555555 rfl (fun _ _ _ h => h) (fun wx hS => ?_) (⟨E18, B19, B20, B21, B22, B23, B24, B25, B26, B27⟩) ?_
  · exact WL.loadS [.bool (true), .bool (true), .bool (true), .slice none 0 0, IN (0), .bool (false), U32 (4261441663#32)] rfl ag116 sz116 rfl (hS.2.1.sub (o := 0) (vs := [.bool (true), .bool (true), .bool (true), .slice none 0 0, IN (0), .bool (false), U32 (4261441663#32)]) rfl) rfl (WL.nil ⟨rfl, rfl, rfl⟩)
  refine WA.take (i := 118) (m' := 443075998594971957634602353426781525) (v := .agg #[.bool (true), .bool (true), .bool (true), .slice none 0 0, IN (0), .bool (false), U32 (4261441663#32)]) rfl rfl rfl rfl R62_t118_155555555555555555555555555555 rfl (fun _ _ _ h => h) (fun wx hS => ?_) (⟨E18, B19, B20, B21, B22, B23, B24, B25, B26, B27⟩) ?_
  · exact WL.loadS [.bool (true), .bool (true), .bool (true), .slice none 0 0, IN (0), .bool (false), U32 (4261441663#32)] rfl ag116 sz116 rfl (hS.2.1.sub (o := 0) (vs := [.bool (true), .bool (true), .bool (true), .slice none 0 0, IN (0), .bool (false), U32 (4261441663#32)]) rfl) rfl (WL.nil ⟨rfl, rfl, rfl⟩)
  refine WA.take (i := 120) (m' := 1772303994379887830538409413707126101) (v := .agg #[.bool (true), .bool (true), .bool (true), .slice none 0 0, IN (0), .bool (false), U32 (4261441663#32)]) rfl rfl rfl rfl R62_t120_555555555555555555555555555555 rfl (fun _ _ _ h => h) (fun wx hS => ?_) (⟨E18, B19, B20, B21, B22, B23, B24, B25, B26, B27⟩) ?_
  · exact WL.loadS [.bool (true), .bool (true), .bool (true), .slice none 0 0, IN (0), .bool (false), U32 (4261441663#32)] rfl ag116 sz116 rfl (hS.2.1.sub (o := 0) (vs := [.bool (true), .bool (true), .bool (true), .slice none 0 0, IN (0), .bool (false), U32 (4261441663#32)]) rfl) rfl (WL.nil ⟨rfl, rfl, rfl⟩)
  refine WA.take (i := 122) (m' := 7089215977519551322153637654828504405) (v := .agg #[.bool (true), .bool (true), .bool (true), .slice none 0 0, IN (0), .bool (false), U32 (4261441663#32)]) rfl rfl rfl rfl R62_t122_1555555555555555555555555555555 rfl (fun _ _ _ h => h) (fun wx hS => ?_) (⟨E18, B19, B20, B21, B22, B23, B24, B25, B26, B27⟩) ?_
  · exact WL.loadS [.bool (true), .bool (true), .bool (true), .slice none 0 0, IN (0), .bool (false), U32 (4261441663#32)] rfl ag116 sz116 rfl (hS.2.1.sub (o := 0) (vs := [.bool (true), .bool (true), .bool (true), .slice none 0 0, IN (0), .bool (false), U32 (4261441663#32)]) rfl) rfl (WL.nil ⟨rfl, rfl, rfl⟩)
  refine WA.take (i := 124) (m' := 28356863910078205288614550619314017621) (v := .agg #[.bool (true), .bool (true), .bool (false), .slice (some ⟨b12, 0, none⟩) 1 1, IN (0), .bool (true), U32 (28799#32)]) rfl rfl rfl rfl R62_t124_5555555555555555555555555555555 rfl (fun _ _ _ h => h) (fun wx hS => ?_) (⟨E18, B19, B20, B21, B22, B23, B24, B25, B26, B27⟩) ?_
  · exact WL.loadS [.bool (true), .bool (true), .bool (false), .slice (some ⟨b12, 0, none⟩) 1 1, IN (0), .bool (true), U32 (28799#32)] rfl ag116 sz116 rfl (hS.2.2.1.sub (o := 0) (vs := [.bool (true), .bool (true), .bool (false), .slice (some ⟨b12, 0, none⟩) 1 1, IN (0), .bool (true), U32 (28799#32)]) rfl) rfl (WL.nil ⟨rfl, rfl, rfl⟩)
  refine WA.take (i := 126) (m' := 113427455640312821154458202477256070485) (v := .agg #[.bool (false), .bool (false), .bool (false), .slice none 0 0, IN (0), .bool (false), U32 (4294967295#32)]) rfl rfl rfl rfl R62_t126_15555555555555555555555555555555 rfl (fun _ _ _ h => h) (fun wx hS => ?_) (⟨E18, B19, B20, B21, B22, B23, B24, B25, B26, B27⟩) ?_
  · exact WL.loadS [.bool (false), .bool (false), .bool (false), .slice none 0 0, IN (0), .bool (false), U32 (4294967295#32)] rfl ag116 sz116 rfl (hS.2.2.2.2.2.2.2.2.2.sub (o := 0) (vs := [.bool (false), .bool (false), .bool (false), .slice none 0 0, IN (0), .bool (false), U32 (4294967295#32)]) rfl) rfl (WL.nil ⟨rfl, rfl, rfl⟩)
  refine WA.take (i := 128) (m' := 453709822561251284617832809909024281941) (v := .agg #[.bool (false), .bool (false), .bool (false), .slice none 0 0, IN (0), .bool (false), U32 (4294967295#32)]) rfl rfl rfl rfl R62_t128_55555555555555555555555555555555 rfl (fun _ _ _ h => h) (fun wx hS => ?_) (⟨E18, B19, B20, B21, B22, B23, B24, B25, B26, B27⟩) ?_
  · exact WL.loadS [.bool (false), .bool (false), .bool (false), .slice none 0 0, IN (0), .bool (false), U32 (4294967295#32)] rfl ag116 sz116 rfl (hS.2.2.2.2.2.2.2.2.2.sub (o := 0) (vs := [.bool (false), .bool (false), .bool (false), .slice none 0 0, IN (0), .bool (false), U32 (4294967295#32)]) rfl) rfl (WL.nil ⟨rfl, rfl, rfl⟩)
  refine WA.one (i := 1) (m' := 453709822561251284617832809909024281943) R62_o1_155555555555555555555555555555555 rfl rfl ?_
  have B28 := (((((n31.blk).ext (n7.ext)).ext (n37.ext)).ext (n8.ext)).ext (n9.ext)).ext (ed_10)
  refine WL.call ca91 (rfl) rfl (tells_spec _ (hG.ext (E18)) .U (.slice (some ⟨b31, 0, none⟩) 1 1) (Sl.ofCells (B28).cells rfl) [108, 117, 105] 55#32 0#32 0#32) ?_
  rintro _ wd41 ⟨rfl, ed41⟩
  have E29 : Ext w wd41 := Mod.trans (E18) (ed41)
  have B30 := (B19).ext (ed41)
  have B31 := (B20).ext (ed41)
  have B32 := (B21).ext (ed41)
  have B33 := (B22).ext (ed41)
  have B34 := (B23).ext (ed41)
  have B35 := (B24).ext (ed41)
  have B36 := (B25).ext (ed41)
  have B37 := (B26).ext (ed41)
  have B38 := (B27).ext (ed41)
  refine WL.behind (⟨E29, B30, B31, B32, B33, B34, B35, B36, B37, B38⟩) ?_
  refine WA.one (i := 3) (m' := 453709822561251284617832809909024281951) R62_o3_155555555555555555555555555555557 rfl rfl ?_
  have B39 := (B28).ext (ed41)
  refine WL.call ca91 (rfl) rfl (tells_spec _ (hG.ext (E29)) .U (.slice (some ⟨b31, 0, none⟩) 1 1) (Sl.ofCells (B39).cells rfl) [97, 117, 105, 112, 99] 23#32 0#32 0#32) ?_
  rintro _ wd43 ⟨rfl, ed43⟩
  have E40 : Ext w wd43 := Mod.trans (E29) (ed43)
  have B41 := (B30).ext (ed43)
  have B42 := (B31).ext (ed43)
  have B43 := (B32).ext (ed43)
  have B44 := (B33).ext (ed43)
  have B45 := (B34).ext (ed43)
  have B46 := (B35).ext (ed43)
  have B47 := (B36).ext (ed43)
  have B48 := (B37).ext (ed43)
  have B49 := (B38).ext (ed43)
  refine WL.behind (⟨E40, B41, B42, B43, B44, B45, B46, B47, B48, B49⟩) ?_
  refine WA.one (i := 5) (m' := 453709822561251284617832809909024281983) R62_o5_15555555555555555555555555555555f rfl rfl ?_
  have B50 := (((((n37.blk).ext (n8.ext)).ext (n9.ext)).ext (ed_10)).ext (ed41)).ext (ed43)
  refine WL.call ca91 (rfl) rfl (tells_spec _ (hG.ext (E40)) .J (.slice (some ⟨b37, 0, none⟩) 4 4) (Sl.ofCells (B50).cells rfl) [106, 97, 108] 111#32 0#32 0#32) ?_
  rintro _ wd45 ⟨rfl, ed45⟩
  have E51 : Ext w wd45 := Mod.trans (E40) (ed45)
  have B52 := (B41).ext (ed45)
  have B53 := (B42).ext (ed45)
  have B54 := (B43).ext (ed45)
  have B55 := (B44).ext (ed45)
  have B56 := (B45).ext (ed45)
  have B57 := (B46).ext (ed45)
  have B58 := (B47).ext (ed45)
  have B59 := (B48).ext (ed45)
  have B60 := (B49).ext (ed45)
  refine WL.behind (⟨E51, B52, B53, B54, B55, B56, B57, B58, B59, B60⟩) ?_
  refine WA.one (i := 7) (m' := 453709822561251284617832809909024282111) R62_o7_15555555555555555555555555555557f rfl rfl ?_
  have B61 := ((((((((((((((((((n12.blk).ext (n2.ext)).ext (n15.ext)).ext (n3.ext)).ext (n18.ext)).ext (n4.ext)).ext (n22.ext)).ext (n5.ext)).ext (n28.ext)).ext (n6.ext)).ext (n31.ext)).ext (n7.ext)).ext (n37.ext)).ext (n8.ext)).ext (n9.ext)).ext (ed_10)).ext (ed41)).ext (ed43)).ext (ed45)
  refine WL.call ca91 (rfl) rfl (tells_spec _ (hG.ext (E51)) .I (.slice (some ⟨b12, 0, none⟩) 1 1) (Sl.ofCells (B61).cells rfl) [106, 97, 108, 114] 103#32 0#32 0#32) ?_
  rintro _ wd47 ⟨rfl, ed47⟩
  have E62 : Ext w wd47 := Mod.trans (E51) (ed47)
  have B63 := (B52).ext (ed47)
  have B64 := (B53).ext (ed47)
  have B65 := (B54).ext (ed47)
  have B66 := (B55).ext (ed47)
  have B67 := (B56).ext (ed47)
  have B68 := (B57).ext (ed47)
  have B69 := (B58).ext (ed47)
  have B70 := (B59).ext (ed47)
  have B71 := (B60).ext (ed47)
  refine WL.behind (⟨E62, B63, B64, B65, B66, B67, B68, B69, B70, B71⟩) ?_
  refine WA.one (i := 9) (m' := 453709822561251284617832809909024282623) R62_o9_1555555555555555555555555555555ff rfl rfl ?_
  have B72 := (((((((((((n28.blk).ext (n6.ext)).ext (n31.ext)).ext (n7.ext)).ext (n37.ext)).ext (n8.ext)).ext (n9.ext)).ext (ed_10)).ext (ed41)).ext (ed43)).ext (ed45)).ext (ed47)
  refine WL.call ca91 (rfl) rfl (tells_spec _ (hG.ext (E62)) .B (.slice (some ⟨b28, 0, none⟩) 4 4) (Sl.ofCells (B72).cells rfl) [98, 101, 113] 99#32 0#32 0#32) ?_
  rintro _ wd49 ⟨rfl, ed49⟩
  have E73 : Ext w wd49 := Mod.trans (E62) (ed49)
  have B74 := (B63).ext (ed49)
  have B75 := (B64).ext (ed49)
  have B76 := (B65).ext (ed49)
  have B77 := (B66).ext (ed49)
  have B78 := (B67).ext (ed49)
  have B79 := (B68).ext (ed49)
  have B80 := (B69).ext (ed49)
  have B81 := (B70).ext (ed49)
  have B82 := (B71).ext (ed49)
  refine WL.behind (⟨E73, B74, B75, B76, B77, B78, B79, B80, B81, B82⟩) ?_
  refine WA.one (i := 11) (m' := 453709822561251284617832809909024284671) R62_o11_1555555555555555555555555555557ff rfl rfl ?_
  have B83 := (B72).ext (ed49)
  refine WL.call ca91 (rfl) rfl (tells_spec _ (hG.ext (E73)) .B (.slice (some ⟨b28, 0, none⟩) 4 4) (Sl.ofCells (B83).cells rfl) [98, 110, 101] 99#32 1#32 0#32) ?_
  rintro _ wd51 ⟨rfl, ed51⟩
  have E84 : Ext w wd51 := Mod.trans (E73) (ed51)
  have B85 := (B74).ext (ed51)
  have B86 := (B75).ext (ed51)
  have B87 := (B76).ext (ed51)
  have B88 := (B77).ext (ed51)
  have B89 := (B78).ext (ed51)
  have B90 := (B79).ext (ed51)
  have B91 := (B80).ext (ed51)
  have B92 := (B81).ext (ed51)
  have B93 := (B82).ext (ed51)
  refine WL.behind (⟨E84, B85, B86, B87, B88, B89, B90, B91, B92, B93⟩) ?_
  refine WA.one (i := 13) (m' := 453709822561251284617832809909024292863) R62_o13_155555555555555555555555555555fff rfl rfl ?_
  have B94 := (B83).ext (ed51)
  refine WL.call ca91 (rfl) rfl (tells_spec _ (hG.ext (E84)) .B (.slice (some ⟨b28, 0, none⟩) 4 4) (Sl.ofCells (B94).cells rfl) [98, 108, 116] 99#32 4#32 0#32) ?_
  rintro _ wd53 ⟨rfl, ed53⟩
  have E95 : Ext w wd53 := Mod.trans (E84) (ed53)
  have B96 := (B85).ext (ed53)
  have B97 := (B86).ext (ed53)
  have B98 := (B87).ext (ed53)
  have B99 := (B88).ext (ed53)
  have B100 := (B89).ext (ed53)
  have B101 := (B90).ext (ed53)
  have B102 := (B91).ext (ed53)
  have B103 := (B92).ext (ed53)
  have B104 := (B93).ext (ed53)
  refine WL.behind (⟨E95, B96, B97, B98, B99, B100, B101, B102, B103, B104⟩) ?_
  refine WA.one (i := 15) (m' := 453709822561251284617832809909024325631) R62_o15_155555555555555555555555555557fff rfl rfl ?_
  have B105 := (B94).ext (ed53)
  refine WL.call ca91 (rfl) rfl (tells_spec _ (hG.ext (E95)) .B (.slice (some ⟨b28, 0, none⟩) 4 4) (Sl.ofCells (B105).cells rfl) [98, 103, 101] 99#32 5#32 0#32) ?_
  rintro _ wd55 ⟨rfl, ed55⟩
  have E106 : Ext w wd55 := Mod.trans (E95) (ed55)
  have B107 := (B96).ext (ed55)
  have B108 := (B97).ext (ed55)
  have B109 := (B98).ext (ed55)
  have B110 := (B99).ext (ed55)
  have B111 := (B100).ext (ed55)
  have B112 := (B101).ext (ed55)
  have B113 := (B102).ext (ed55)
  have B114 := (B103).ext (ed55)
  have B115 := (B104).ext (ed55)
  refine WL.behind (⟨E106, B107, B108, B109, B110, B111, B112, B113, B114, B115⟩) ?_
  refine WA.one (i := 17) (m' := 453709822561251284617832809909024456703) R62_o17_15555555555555555555555555555ffff rfl rfl ?_
  have B116 := (B105).ext (ed55)
  refine WL.call ca91 (rfl) rfl (tells_spec _ (hG.ext (E106)) .B (.slice (some ⟨b28, 0, none⟩) 4 4) (Sl.ofCells (B116).cells rfl) [98, 108, 116, 117] 99#32 6#32 0#32) ?_
  rintro _ wd57 ⟨rfl, ed57⟩
  have E117 : Ext w wd57 := Mod.trans (E106) (ed57)
  have B118 := (B107).ext (ed57)
  have B119 := (B108).ext (ed57)
  have B120 := (B109).ext (ed57)
  have B121 := (B110).ext (ed57)
  have B122 := (B111).ext (ed57)
  have B123 := (B112).ext (ed57)
  have B124 := (B113).ext (ed57)
  have B125 := (B114).ext (ed57)
  have B126 := (B115).ext (ed57)
  refine WL.behind (⟨E117, B118, B119, B120, B121, B122, B123, B124, B125, B126⟩) ?_
  refine WA.one (i := 19) (m' := 453709822561251284617832809909024980991) R62_o19_15555555555555555555555555557ffff rfl rfl ?_
  have B127 := (B116).ext (ed57)
  refine WL.call ca91 (rfl) rfl (tells_spec _ (hG.ext (E117)) .B (.slice (some ⟨b28, 0, none⟩) 4 4) (Sl.ofCells (B127).cells rfl) [98, 103, 101, 117] 99#32 7#32 0#32) ?_
  rintro _ wd59 ⟨rfl, ed59⟩
  have E128 : Ext w wd59 := Mod.trans (E117) (ed59)
  have B129 := (B118).ext (ed59)
  have B130 := (B119).ext (ed59)
  have B131 := (B120).ext (ed59)
  have B132 := (B121).ext (ed59)
  have B133 := (B122).ext (ed59)
  have B134 := (B123).ext (ed59)
  have B135 := (B124).ext (ed59)
  have B136 := (B125).ext (ed59)
  have B137 := (B126).ext (ed59)
  refine WL.behind (⟨E128, B129, B130, B131, B132, B133, B134, B135, B136, B137⟩) ?_
  refine WA.one (i := 21) (m' := 453709822561251284617832809909027078143) R62_o21_1555555555555555555555555555fffff rfl rfl ?_
  have B138 := (((((((B61).ext (ed47)).ext (ed49)).ext (ed51)).ext (ed53)).ext (ed55)).ext (ed57)).ext (ed59)
  refine WL.call ca91 (rfl) rfl (tells_spec _ (hG.ext (E128)) .I (.slice (some ⟨b12, 0, none⟩) 1 1) (Sl.ofCells (B138).cells rfl) [108, 98] 3#32 0#32 0#32) ?_
  rintro _ wd61 ⟨rfl, ed61⟩
  have E139 : Ext w wd61 := Mod.trans (E128) (ed61)
  have B140 := (B129).ext (ed61)
  have B141 := (B130).ext (ed61)
  have B142 := (B131).ext (ed61)
  have B143 := (B132).ext (ed61)
  have B144 := (B133).ext (ed61)
  have B145 := (B134).ext (ed61)
  have B146 := (B135).ext (ed61)
  have B147 := (B136).ext (ed61)
  have B148 := (B137).ext (ed61)
  refine WL.behind (⟨E139, B140, B141, B142, B143, B144, B145, B146, B147, B148⟩) ?_
  refine WA.one (i := 23) (m' := 453709822561251284617832809909035466751) R62_o23_1555555555555555555555555557fffff rfl rfl ?_
  have B149 := (B138).ext (ed61)
  refine WL.call ca91 (rfl) rfl (tells_spec _ (hG.ext (E139)) .I (.slice (some ⟨b12, 0, none⟩) 1 1) (Sl.ofCells (B149).cells rfl) [108, 104] 3#32 1#32 0#32) ?_
  rintro _ wd63 ⟨rfl, ed63⟩
  have E150 : Ext w wd63 := Mod.trans (E139) (ed63)
  have B151 := (B140).ext (ed63)
  have B152 := (B141).ext (ed63)
  have B153 := (B142).ext (ed63)
  have B154 := (B143).ext (ed63)
  have B155 := (B144).ext (ed63)
  have B156 := (B145).ext (ed63)
  have B157 := (B146).ext (ed63)
  have B158 := (B147).ext (ed63)
  have B159 := (B148).ext (ed63)
  refine WL.behind (⟨E150, B151, B152, B153, B154, B155, B156, B157, B158, B159⟩) ?_
  refine WA.one (i := 25) (m' := 453709822561251284617832809909069021183) R62_o25_155555555555555555555555555ffffff rfl rfl ?_
  have B160 := (B149).ext (ed63)
  refine WL.call ca91 (rfl) rfl (tells_spec _ (hG.ext (E150)) .I (.slice (some ⟨b12, 0, none⟩) 1 1) (Sl.ofCells (B160).cells rfl) [108, 119] 3#32 2#32 0#32) ?_
  rintro _ wd65 ⟨rfl, ed65⟩
  have E161 : Ext w wd65 := Mod.trans (E150) (ed65)
  have B162 := (B151).ext (ed65)
  have B163 := (B152).ext (ed65)
  have B164 := (B153).ext (ed65)
  have B165 := (B154).ext (ed65)
  have B166 := (B155).ext (ed65)
  have B167 := (B156).ext (ed65)
  have B168 := (B157).ext (ed65)
  have B169 := (B158).ext (ed65)
  have B170 := (B159).ext (ed65)
  refine WL.behind (⟨E161, B162, B163, B164, B165, B166, B167, B168, B169, B170⟩) ?_
  refine WA.one (i := 27) (m' := 453709822561251284617832809909203238911) R62_o27_155555555555555555555555557ffffff rfl rfl ?_
  have B171 := (B160).ext (ed65)
  refine WL.call ca91 (rfl) rfl (tells_spec _ (hG.ext (E161)) .I (.slice (some ⟨b12, 0, none⟩) 1 1) (Sl.ofCells (B171).cells rfl) [108, 100] 3#32 3#32 0#32) ?_
  rintro _ wd67 ⟨rfl, ed67⟩
  have E172 : Ext w wd67 := Mod.trans (E161) (ed67)
  have B173 := (B162).ext (ed67)
  have B174 := (B163).ext (ed67)
  have B175 := (B164).ext (ed67)
  have B176 := (B165).ext (ed67)
  have B177 := (B166).ext (ed67)
  have B178 := (B167).ext (ed67)
  have B179 := (B168).ext (ed67)
  have B180 := (B169).ext (ed67)
  have B181 := (B170).ext (ed67)
  refine WL.behind (⟨E172, B173, B174, B175, B176, B177, B178, B179, B180, B181⟩) ?_
  refine WA.one (i := 29) (m' := 453709822561251284617832809909740109823) R62_o29_15555555555555555555555555fffffff rfl rfl ?_
  have B182 := (B171).ext (ed67)
  refine WL.call ca91 (rfl) rfl (tells_spec _ (hG.ext (E172)) .I (.slice (some ⟨b12, 0, none⟩) 1 1) (Sl.ofCells (B182).cells rfl) [108, 98, 117] 3#32 4#32 0#32) ?_
  rintro _ wd69 ⟨rfl, ed69⟩
  have E183 : Ext w wd69 := Mod.trans (E172) (ed69)
  have B184 := (B173).ext (ed69)
  have B185 := (B174).ext (ed69)
  have B186 := (B175).ext (ed69)
  have B187 := (B176).ext (ed69)
  have B188 := (B177).ext (ed69)
  have B189 := (B178).ext (ed69)
  have B190 := (B179).ext (ed69)
  have B191 := (B180).ext (ed69)
  have B192 := (B181).ext (ed69)
  refine WL.behind (⟨E183, B184, B185, B186, B187, B188, B189, B190, B191, B192⟩) ?_
  refine WA.one (i := 31) (m' := 453709822561251284617832809911887593471) R62_o31_15555555555555555555555557fffffff rfl rfl ?_
  have B193 := (B182).ext (ed69)
  refine WL.call ca91 (rfl) rfl (tells_spec _ (hG.ext (E183)) .I (.slice (some ⟨b12, 0, none⟩) 1 1) (Sl.ofCells (B193).cells rfl) [108, 104, 117] 3#32 5#32 0#32) ?_
  rintro _ wd71 ⟨rfl, ed71⟩
  have E194 : Ext w wd71 := Mod.trans (E183) (ed71)
  have B195 := (B184).ext (ed71)
  have B196 := (B185).ext (ed71)
  have B197 := (B186).ext (ed71)
  have B198 := (B187).ext (ed71)
  have B199 := (B188).ext (ed71)
  have B200 := (B189).ext (ed71)
  have B201 := (B190).ext (ed71)
  have B202 := (B191).ext (ed71)
  have B203 := (B192).ext (ed71)
  refine WL.behind (⟨E194, B195, B196, B197, B198, B199, B200, B201, B202, B203⟩) ?_
  refine WA.one (i := 33) (m' := 453709822561251284617832809920477528063) R62_o33_1555555555555555555555555ffffffff rfl rfl ?_
  have B204 := (B193).ext (ed71)
  refine WL.call ca91 (rfl) rfl (tells_spec _ (hG.ext (E194)) .I (.slice (some ⟨b12, 0, none⟩) 1 1) (Sl.ofCells (B204).cells rfl) [108, 119, 117] 3#32 6#32 0#32) ?_
  rintro _ wd73 ⟨rfl, ed73⟩
  have E205 : Ext w wd73 := Mod.trans (E194) (ed73)
  have B206 := (B195).ext (ed73)
  have B207 := (B196).ext (ed73)
  have B208 := (B197).ext (ed73)
  have B209 := (B198).ext (ed73)
  have B210 := (B199).ext (ed73)
  have B211 := (B200).ext (ed73)
  have B212 := (B201).ext (ed73)
  have B213 := (B202).ext (ed73)
  have B214 := (B203).ext (ed73)
  refine WL.behind (⟨E205, B206, B207, B208, B209, B210, B211, B212, B213, B214⟩) ?_
  refine WA.one (i := 35) (m' := 453709822561251284617832809954837266431) R62_o35_1555555555555555555555557ffffffff rfl rfl ?_
  have B215 := ((((((((((((((((((((((((((n22.blk).ext (n5.ext)).ext (n28.ext)).ext (n6.ext)).ext (n31.ext)).ext (n7.ext)).ext (n37.ext)).ext (n8.ext)).ext (n9.ext)).ext (ed_10)).ext (ed41)).ext (ed43)).ext (ed45)).ext (ed47)).ext (ed49)).ext (ed51)).ext (ed53)).ext (ed55)).ext (ed57)).ext (ed59)).ext (ed61)).ext (ed63)).ext (ed65)).ext (ed67)).ext (ed69)).ext (ed71)).ext (ed73)
  refine WL.call ca91 (rfl) rfl (tells_spec _ (hG.ext (E205)) .S (.slice (some ⟨b22, 0, none⟩) 2 2) (Sl.ofCells (B215).cells rfl) [115, 98] 35#32 0#32 0#32) ?_
  rintro _ wd75 ⟨rfl, ed75⟩
  have E216 : Ext w wd75 := Mod.trans (E205) (ed75)
  have B217 := (B206).ext (ed75)
  have B218 := (B207).ext (ed75)
  have B219 := (B208).ext (ed75)
  have B220 := (B209).ext (ed75)
  have B221 := (B210).ext (ed75)
  have B222 := (B211).ext (ed75)
  have B223 := (B212).ext (ed75)
  have B224 := (B213).ext (ed75)
  have B225 := (B214).ext (ed75)
  refine WL.behind (⟨E216, B217, B218, B219, B220, B221, B222, B223, B224, B225⟩) ?_
  refine WA.one (i := 37) (m' := 453709822561251284617832810092276219903) R62_o37_155555555555555555555555fffffffff rfl rfl ?_
  have B226 := (B215).ext (ed75)
  refine WL.call ca91 (rfl) rfl (tells_spec _ (hG.ext (E216)) .S (.slice (some ⟨b22, 0, none⟩) 2 2) (Sl.ofCells (B226).cells rfl) [115, 104] 35#32 1#32 0#32) ?_
  rintro _ wd77 ⟨rfl, ed77⟩
  have E227 : Ext w wd77 := Mod.trans (E216) (ed77)
  have B228 := (B217).ext (ed77)
  have B229 := (B218).ext (ed77)
  have B230 := (B219).ext (ed77)
  have B231 := (B220).ext (ed77)
  have B232 := (B221).ext (ed77)
  have B233 := (B222).ext (ed77)
  have B234 := (B223).ext (ed77)
  have B235 := (B224).ext (ed77)
  have B236 := (B225).ext (ed77)
  refine WL.behind (⟨E227, B228, B229, B230, B231, B232, B233, B234, B235, B236⟩) ?_
  refine WA.one (i := 39) (m' := 453709822561251284617832810642032033791) R62_o39_155555555555555555555557fffffffff rfl rfl ?_
  have B237 := (B226).ext (ed77)
  refine WL.call ca91 (rfl) rfl (tells_spec _ (hG.ext (E227)) .S (.slice (some ⟨b22, 0, none⟩) 2 2) (Sl.ofCells (B237).cells rfl) [115, 119] 35#32 2#32 0#32) ?_
  rintro _ wd79 ⟨rfl, ed79⟩
  have E238 : Ext w wd79 := Mod.trans (E227) (ed79)
  have B239 := (B228).ext (ed79)
  have B240 := (B229).ext (ed79)
  have B241 := (B230).ext (ed79)
  have B242 := (B231).ext (ed79)
  have B243 := (B232).ext (ed79)
  have B244 := (B233).ext (ed79)
  have B245 := (B234).ext (ed79)
  have B246 := (B235).ext (ed79)
  have B247 := (B236).ext (ed79)
  refine WL.behind (⟨E238, B239, B240, B241, B242, B243, B244, B245, B246, B247⟩) ?_
  refine WA.one (i := 41) (m' := 453709822561251284617832812841055289343) R62_o41_15555555555555555555555ffffffffff rfl rfl ?_
  have B248 := (B237).ext (ed79)
  refine WL.call ca91 (rfl) rfl (tells_spec _ (hG.ext (E238)) .S (.slice (some ⟨b22, 0, none⟩) 2 2) (Sl.ofCells (B248).cells rfl) [115, 100] 35#32 3#32 0#32) ?_
  rintro _ wd81 ⟨rfl, ed81⟩
  have E249 : Ext w wd81 := Mod.trans (E238) (ed81)
  have B250 := (B239).ext (ed81)
  have B251 := (B240).ext (ed81)
  have B252 := (B241).ext (ed81)
  have B253 := (B242).ext (ed81)
  have B254 := (B243).ext (ed81)
  have B255 := (B244).ext (ed81)
  have B256 := (B245).ext (ed81)
  have B257 := (B246).ext (ed81)
  have B258 := (B247).ext (ed81)
  refine WL.behind (⟨E249, B250, B251, B252, B253, B254, B255, B256, B257, B258⟩) ?_
  refine WA.one (i := 43) (m' := 453709822561251284617832821637148311551) R62_o43_15555555555555555555557ffffffffff rfl rfl ?_
  have B259 := (((((B204).ext (ed73)).ext (ed75)).ext (ed77)).ext (ed79)).ext (ed81)
  refine WL.call ca91 (rfl) rfl (tells_spec _ (hG.ext (E249)) .I (.slice (some ⟨b12, 0, none⟩) 1 1) (Sl.ofCells (B259).cells rfl) [97, 100, 100, 105] 19#32 0#32 0#32) ?_
  rintro _ wd83 ⟨rfl, ed83⟩
  have E260 : Ext w wd83 := Mod.trans (E249) (ed83)
  have B261 := (B250).ext (ed83)
  have B262 := (B251).ext (ed83)
  have B263 := (B252).ext (ed83)
  have B264 := (B253).ext (ed83)
  have B265 := (B254).ext (ed83)
  have B266 := (B255).ext (ed83)
  have B267 := (B256).ext (ed83)
  have B268 := (B257).ext (ed83)
  have B269 := (B258).ext (ed83)
  refine WL.behind (⟨E260, B261, B262, B263, B264, B265, B266, B267, B268, B269⟩) ?_
  refine WA.one (i := 45) (m' := 453709822561251284617832856821520400383) R62_o45_1555555555555555555555fffffffffff rfl rfl ?_
  have B270 := (B259).ext (ed83)
  refine WL.call ca91 (rfl) rfl (tells_spec _ (hG.ext (E260)) .I (.slice (some ⟨b12, 0, none⟩) 1 1) (Sl.ofCells (B270).cells rfl) [115, 108, 116, 105] 19#32 2#32 0#32) ?_
  rintro _ wd85 ⟨rfl, ed85⟩
  have E271 : Ext w wd85 := Mod.trans (E260) (ed85)
  have B272 := (B261).ext (ed85)
  have B273 := (B262).ext (ed85)
  have B274 := (B263).ext (ed85)
  have B275 := (B264).ext (ed85)
  have B276 := (B265).ext (ed85)
  have B277 := (B266).ext (ed85)
  have B278 := (B267).ext (ed85)
  have B279 := (B268).ext (ed85)
  have B280 := (B269).ext (ed85)
  refine WL.behind (⟨E271, B272, B273, B274, B275, B276, B277, B278, B279, B280⟩) ?_
  refine WA.one (i := 47) (m' := 453709822561251284617832997559008755711) R62_o47_1555555555555555555557fffffffffff rfl rfl ?_
  have B281 := (B270).ext (ed85)
  refine WL.call ca91 (rfl) rfl (tells_spec _ (hG.ext (E271)) .I (.slice (some ⟨b12, 0, none⟩) 1 1) (Sl.ofCells (B281).cells rfl) [115, 108, 116, 105, 117] 19#32 3#32 0#32) ?_
  rintro _ wd87 ⟨rfl, ed87⟩
  have E282 : Ext w wd87 := Mod.trans (E271) (ed87)
  have B283 := (B272).ext (ed87)
  have B284 := (B273).ext (ed87)
  have B285 := (B274).ext (ed87)
  have B286 := (B275).ext (ed87)
  have B287 := (B276).ext (ed87)
  have B288 := (B277).ext (ed87)
  have B289 := (B278).ext (ed87)
  have B290 := (B279).ext (ed87)
  have B291 := (B280).ext (ed87)
  refine WL.behind (⟨E282, B283, B284, B285, B286, B287, B288, B289, B290, B291⟩) ?_
  refine WA.one (i := 49) (m' := 453709822561251284617833560508962177023) R62_o49_155555555555555555555ffffffffffff rfl rfl ?_
  have B292 := (B281).ext (ed87)
  refine WL.call ca91 (rfl) rfl (tells_spec _ (hG.ext (E282)) .I (.slice (some ⟨b12, 0, none⟩) 1 1) (Sl.ofCells (B292).cells rfl) [120, 111, 114, 105] 19#32 4#32 0#32) ?_
  rintro _ wd89 ⟨rfl, ed89⟩
  have E293 : Ext w wd89 := Mod.trans (E282) (ed89)
  have B294 := (B283).ext (ed89)
  have B295 := (B284).ext (ed89)
  have B296 := (B285).ext (ed89)
  have B297 := (B286).ext (ed89)
  have B298 := (B287).ext (ed89)
  have B299 := (B288).ext (ed89)
  have B300 := (B289).ext (ed89)
  have B301 := (B290).ext (ed89)
  have B302 := (B291).ext (ed89)
  refine WL.behind (⟨E293, B294, B295, B296, B297, B298, B299, B300, B301, B302⟩) ?_
  refine WA.one (i := 51) (m' := 453709822561251284617835812308775862271) R62_o51_155555555555555555557ffffffffffff rfl rfl ?_
  have B303 := (B292).ext (ed89)
  refine WL.call ca91 (rfl) rfl (tells_spec _ (hG.ext (E293)) .I (.slice (some ⟨b12, 0, none⟩) 1 1) (Sl.ofCells (B303).cells rfl) [111, 114, 105] 19#32 6#32 0#32) ?_
  rintro _ wd91 ⟨rfl, ed91⟩
  have E304 : Ext w wd91 := Mod.trans (E293) (ed91)
  have B305 := (B294).ext (ed91)
  have B306 := (B295).ext (ed91)
  have B307 := (B296).ext (ed91)
  have B308 := (B297).ext (ed91)
  have B309 := (B298).ext (ed91)
  have B310 := (B299).ext (ed91)
  have B311 := (B300).ext (ed91)
  have B312 := (B301).ext (ed91)
  have B313 := (B302).ext (ed91)
  refine WL.behind (⟨E304, B305, B306, B307, B308, B309, B310, B311, B312, B313⟩) ?_
  refine WA.one (i := 53) (m' := 453709822561251284617844819508030603263) R62_o53_15555555555555555555fffffffffffff rfl rfl ?_
  have B314 := (B303).ext (ed91)
  refine WL.call ca91 (rfl) rfl (tells_spec _ (hG.ext (E304)) .I (.slice (some ⟨b12, 0, none⟩) 1 1) (Sl.ofCells (B314).cells rfl) [97, 110, 100, 105] 19#32 7#32 0#32) ?_
  rintro _ wd93 ⟨rfl, ed93⟩
  have E315 : Ext w wd93 := Mod.trans (E304) (ed93)
  have B316 := (B305).ext (ed93)
  have B317 := (B306).ext (ed93)
  have B318 := (B307).ext (ed93)
  have B319 := (B308).ext (ed93)
  have B320 := (B309).ext (ed93)
  have B321 := (B310).ext (ed93)
  have B322 := (B311).ext (ed93)
  have B323 := (B312).ext (ed93)
  have B324 := (B313).ext (ed93)
  refine WL.behind (⟨E315, B316, B317, B318, B319, B320, B321, B322, B323, B324⟩) ?_
  refine WA.one (i := 55) (m' := 453709822561251284617880848305049567231) R62_o55_15555555555555555557fffffffffffff rfl rfl ?_
  have B325 := ((((((((((((((((((((((((((((((((((((((((n15.blk).ext (n3.ext)).ext (n18.ext)).ext (n4.ext)).ext (n22.ext)).ext (n5.ext)).ext (n28.ext)).ext (n6.ext)).ext (n31.ext)).ext (n7.ext)).ext (n37.ext)).ext (n8.ext)).ext (n9.ext)).ext (ed_10)).ext (ed41)).ext (ed43)).ext (ed45)).ext (ed47)).ext (ed49)).ext (ed51)).ext (ed53)).ext (ed55)).ext (ed57)).ext (ed59)).ext (ed61)).ext (ed63)).ext (ed65)).ext (ed67)).ext (ed69)).ext (ed71)).ext (ed73)).ext (ed75)).ext (ed77)).ext (ed79)).ext (ed81)).ext (ed83)).ext (ed85)).ext (ed87)).ext (ed89)).ext (ed91)).ext (ed93)
  refine WL.call ca91 (rfl) rfl (tells_spec _ (hG.ext (E315)) .H (.slice (some ⟨b15, 0, none⟩) 1 1) (Sl.ofCells (B325).cells rfl) [115, 108, 108, 105] 19#32 1#32 0#32) ?_
  rintro _ wd95 ⟨rfl, ed95⟩
  have E326 : Ext w wd95 := Mod.trans (E315) (ed95)
  have B327 := (B316).ext (ed95)
  have B328 := (B317).ext (ed95)
  have B329 := (B318).ext (ed95)
  have B330 := (B319).ext (ed95)
  have B331 := (B320).ext (ed95)
  have B332 := (B321).ext (ed95)
  have B333 := (B322).ext (ed95)
  have B334 := (B323).ext (ed95)
  have B335 := (B324).ext (ed95)
  refine WL.behind (⟨E326, B327, B328, B329, B330, B331, B332, B333, B334, B335⟩) ?_
  refine WA.one (i := 57) (m' := 453709822561251284618024963493125423103) R62_o57_1555555555555555555ffffffffffffff rfl rfl ?_
  have B336 := (B325).ext (ed95)
  refine WL.call ca91 (rfl) rfl (tells_spec _ (hG.ext (E326)) .H (.slice (some ⟨b15, 0, none⟩) 1 1) (Sl.ofCells (B336).cells rfl) [115, 114, 108, 105] 19#32 5#32 0#32) ?_
  rintro _ wd97 ⟨rfl, ed97⟩
  have E337 : Ext w wd97 := Mod.trans (E326) (ed97)
  have B338 := (B327).ext (ed97)
  have B339 := (B328).ext (ed97)
  have B340 := (B329).ext (ed97)
  have B341 := (B330).ext (ed97)
  have B342 := (B331).ext (ed97)
  have B343 := (B332).ext (ed97)
  have B344 := (B333).ext (ed97)
  have B345 := (B334).ext (ed97)
  have B346 := (B335).ext (ed97)
  refine WL.behind (⟨E337, B338, B339, B340, B341, B342, B343, B344, B345, B346⟩) ?_
  refine WA.one (i := 59) (m' := 453709822561251284618601424245428846591) R62_o59_1555555555555555557ffffffffffffff rfl rfl ?_
  have B347 := (B336).ext (ed97)
  refine WL.call ca91 (rfl) rfl (tells_spec _ (hG.ext (E337)) .H (.slice (some ⟨b15, 0, none⟩) 1 1) (Sl.ofCells (B347).cells rfl) [115, 114, 97, 105] 19#32 5#32 32#32) ?_
  rintro _ wd99 ⟨rfl, ed99⟩
  have E348 : Ext w wd99 := Mod.trans (E337) (ed99)
  have B349 := (B338).ext (ed99)
  have B350 := (B339).ext (ed99)
  have B351 := (B340).ext (ed99)
  have B352 := (B341).ext (ed99)
  have B353 := (B342).ext (ed99)
  have B354 := (B343).ext (ed99)
  have B355 := (B344).ext (ed99)
  have B356 := (B345).ext (ed99)
  have B357 := (B346).ext (ed99)
  refine WL.behind (⟨E348, B349, B350, B351, B352, B353, B354, B355, B356, B357⟩) ?_
  refine WA.one (i := 61) (m' := 453709822561251284620907267254642540543) R62_o61_155555555555555555fffffffffffffff rfl rfl ?_
  refine WL.call ca91 (rfl) rfl (tells_spec _ (hG.ext (E348)) .R (.slice none 0 0) (Sl.nil _ _ _) [97, 100, 100] 51#32 0#32 0#32) ?_
  rintro _ wd101 ⟨rfl, ed101⟩
  have E358 : Ext w wd101 := Mod.trans (E348) (ed101)
  have B359 := (B349).ext (ed101)
  have B360 := (B350).ext (ed101)
  have B361 := (B351).ext (ed101)
  have B362 := (B352).ext (ed101)
  have B363 := (B353).ext (ed101)
  have B364 := (B354).ext (ed101)
  have B365 := (B355).ext (ed101)
  have B366 := (B356).ext (ed101)
  have B367 := (B357).ext (ed101)
  refine WL.behind (⟨E358, B359, B360, B361, B362, B363, B364, B365, B366, B367⟩) ?_
  refine WA.one (i := 63) (m' := 453709822561251284630130639291497316351) R62_o63_155555555555555557fffffffffffffff rfl rfl ?_
  refine WL.call ca91 (rfl) rfl (tells_spec _ (hG.ext (E358)) .R (.slice none 0 0) (Sl.nil _ _ _) [115, 117, 98] 51#32 0#32 32#32) ?_
  rintro _ wd103 ⟨rfl, ed103⟩
  have E368 : Ext w wd103 := Mod.trans (E358) (ed103)
  have B369 := (B359).ext (ed103)
  have B370 := (B360).ext (ed103)
  have B371 := (B361).ext (ed103)
  have B372 := (B362).ext (ed103)
  have B373 := (B363).ext (ed103)
  have B374 := (B364).ext (ed103)
  have B375 := (B365).ext (ed103)
  have B376 := (B366).ext (ed103)
  have B377 := (B367).ext (ed103)
  refine WL.behind (⟨E368, B369, B370, B371, B372, B373, B374, B375, B376, B377⟩) ?_
  refine WA.one (i := 65) (m' := 453709822561251284667024127438916419583) R62_o65_15555555555555555ffffffffffffffff rfl rfl ?_
  refine WL.call ca91 (rfl) rfl (tells_spec _ (hG.ext (E368)) .R (.slice none 0 0) (Sl.nil _ _ _) [115, 108, 108] 51#32 1#32 0#32) ?_
  rintro _ wd105 ⟨rfl, ed105⟩
  have E378 : Ext w wd105 := Mod.trans (E368) (ed105)
  have B379 := (B369).ext (ed105)
  have B380 := (B370).ext (ed105)
  have B381 := (B371).ext (ed105)
  have B382 := (B372).ext (ed105)
  have B383 := (B373).ext (ed105)
  have B384 := (B374).ext (ed105)
  have B385 := (B375).ext (ed105)
  have B386 := (B376).ext (ed105)
  have B387 := (B377).ext (ed105)
  refine WL.behind (⟨E378, B379, B380, B381, B382, B383, B384, B385, B386, B387⟩) ?_
  refine WA.one (i := 67) (m' := 453709822561251284814598080028592832511) R62_o67_15555555555555557ffffffffffffffff rfl rfl ?_
  refine WL.call ca91 (rfl) rfl (tells_spec _ (hG.ext (E378)) .R (.slice none 0 0) (Sl.nil _ _ _) [115, 108, 116] 51#32 2#32 0#32) ?_
  rintro _ wd107 ⟨rfl, ed107⟩
  have E388 : Ext w wd107 := Mod.trans (E378) (ed107)
  have B389 := (B379).ext (ed107)
  have B390 := (B380).ext (ed107)
  have B391 := (B381).ext (ed107)
  have B392 := (B382).ext (ed107)
  have B393 := (B383).ext (ed107)
  have B394 := (B384).ext (ed107)
  have B395 := (B385).ext (ed107)
  have B396 := (B386).ext (ed107)
  have B397 := (B387).ext (ed107)
  refine WL.behind (⟨E388, B389, B390, B391, B392, B393, B394, B395, B396, B397⟩) ?_
  refine WA.one (i := 69) (m' := 453709822561251285404893890387298484223) R62_o69_1555555555555555fffffffffffffffff rfl rfl ?_
  refine WL.call ca91 (rfl) rfl (tells_spec _ (hG.ext (E388)) .R (.slice none 0 0) (Sl.nil _ _ _) [115, 108, 116, 117] 51#32 3#32 0#32) ?_
  rintro _ wd109 ⟨rfl, ed109⟩
  have E398 : Ext w wd109 := Mod.trans (E388) (ed109)
  have B399 := (B389).ext (ed109)
  have B400 := (B390).ext (ed109)
  have B401 := (B391).ext (ed109)
  have B402 := (B392).ext (ed109)
  have B403 := (B393).ext (ed109)
  have B404 := (B394).ext (ed109)
  have B405 := (B395).ext (ed109)
  have B406 := (B396).ext (ed109)
  have B407 := (B397).ext (ed109)
  refine WL.behind (⟨E398, B399, B400, B401, B402, B403, B404, B405, B406, B407⟩) ?_
  refine WA.one (i := 71) (m' := 453709822561251287766077131822121091071) R62_o71_1555555555555557fffffffffffffffff rfl rfl ?_
  refine WL.call ca91 (rfl) rfl (tells_spec _ (hG.ext (E398)) .R (.slice none 0 0) (Sl.nil _ _ _) [120, 111, 114] 51#32 4#32 0#32) ?_
  rintro _ wd111 ⟨rfl, ed111⟩
  have E408 : Ext w wd111 := Mod.trans (E398) (ed111)
  have B409 := (B399).ext (ed111)
  have B410 := (B400).ext (ed111)
  have B411 := (B401).ext (ed111)
  have B412 := (B402).ext (ed111)
  have B413 := (B403).ext (ed111)
  have B414 := (B404).ext (ed111)
  have B415 := (B405).ext (ed111)
  have B416 := (B406).ext (ed111)
  have B417 := (B407).ext (ed111)
  refine WL.behind (⟨E408, B409, B410, B411, B412, B413, B414, B415, B416, B417⟩) ?_
  refine WA.one (i := 73) (m' := 453709822561251297210810097561411518463) R62_o73_155555555555555ffffffffffffffffff rfl rfl ?_
  refine WL.call ca91 (rfl) rfl (tells_spec _ (hG.ext (E408)) .R (.slice none 0 0) (Sl.nil _ _ _) [115, 114, 108] 51#32 5#32 0#32) ?_
  rintro _ wd113 ⟨rfl, ed113⟩
  have E418 : Ext w wd113 := Mod.trans (E408) (ed113)
  have B419 := (B409).ext (ed113)
  have B420 := (B410).ext (ed113)
  have B421 := (B411).ext (ed113)
  have B422 := (B412).ext (ed113)
  have B423 := (B413).ext (ed113)
  have B424 := (B414).ext (ed113)
  have B425 := (B415).ext (ed113)
  have B426 := (B416).ext (ed113)
  have B427 := (B417).ext (ed113)
  refine WL.behind (⟨E418, B419, B420, B421, B422, B423, B424, B425, B426, B427⟩) ?_
  refine WA.one (i := 75) (m' := 453709822561251334989741960518573228031) R62_o75_155555555555557ffffffffffffffffff rfl rfl ?_
  refine WL.call ca91 (rfl) rfl (tells_spec _ (hG.ext (E418)) .R (.slice none 0 0) (Sl.nil _ _ _) [115, 114, 97] 51#32 5#32 32#32) ?_
  rintro _ wd115 ⟨rfl, ed115⟩
  have E428 : Ext w wd115 := Mod.trans (E418) (ed115)
  have B429 := (B419).ext (ed115)
  have B430 := (B420).ext (ed115)
  have B431 := (B421).ext (ed115)
  have B432 := (B422).ext (ed115)
  have B433 := (B423).ext (ed115)
  have B434 := (B424).ext (ed115)
  have B435 := (B425).ext (ed115)
  have B436 := (B426).ext (ed115)
  have B437 := (B427).ext (ed115)
  refine WL.behind (⟨E428, B429, B430, B431, B432, B433, B434, B435, B436, B437⟩) ?_
  refine WA.one (i := 77) (m' := 453709822561251486105469412347220066303) R62_o77_15555555555555fffffffffffffffffff rfl rfl ?_
  refine WL.call ca91 (rfl) rfl (tells_spec _ (hG.ext (E428)) .R (.slice none 0 0) (Sl.nil _ _ _) [111, 114] 51#32 6#32 0#32) ?_
  rintro _ wd117 ⟨rfl, ed117⟩
  have E438 : Ext w wd117 := Mod.trans (E428) (ed117)
  have B439 := (B429).ext (ed117)
  have B440 := (B430).ext (ed117)
  have B441 := (B431).ext (ed117)
  have B442 := (B432).ext (ed117)
  have B443 := (B433).ext (ed117)
  have B444 := (B434).ext (ed117)
  have B445 := (B435).ext (ed117)
  have B446 := (B436).ext (ed117)
  have B447 := (B437).ext (ed117)
  refine WL.behind (⟨E438, B439, B440, B441, B442, B443, B444, B445, B446, B447⟩) ?_
  refine WA.one (i := 79) (m' := 453709822561252090568379219661807419391) R62_o79_15555555555557fffffffffffffffffff rfl rfl ?_
  refine WL.call ca91 (rfl) rfl (tells_spec _ (hG.ext (E438)) .R (.slice none 0 0) (Sl.nil _ _ _) [97, 110, 100] 51#32 7#32 0#32) ?_
  rintro _ wd119 ⟨rfl, ed119⟩
  have E448 : Ext w wd119 := Mod.trans (E438) (ed119)
  have B449 := (B439).ext (ed119)
  have B450 := (B440).ext (ed119)
  have B451 := (B441).ext (ed119)
  have B452 := (B442).ext (ed119)
  have B453 := (B443).ext (ed119)
  have B454 := (B444).ext (ed119)
  have B455 := (B445).ext (ed119)
  have B456 := (B446).ext (ed119)
  have B457 := (B447).ext (ed119)
  refine WL.behind (⟨E448, B449, B450, B451, B452, B453, B454, B455, B456, B457⟩) ?_
  refine WA.one (i := 81) (m' := 453709822561254508420018448920156831743) R62_o81_1555555555555ffffffffffffffffffff rfl rfl ?_
  have B458 := ((((((((((((((B314).ext (ed93)).ext (ed95)).ext (ed97)).ext (ed99)).ext (ed101)).ext (ed103)).ext (ed105)).ext (ed107)).ext (ed109)).ext (ed111)).ext (ed113)).ext (ed115)).ext (ed117)).ext (ed119)
  refine WL.call ca91 (rfl) rfl (tells_spec _ (hG.ext (E448)) .I (.slice (some ⟨b12, 0, none⟩) 1 1) (Sl.ofCells (B458).cells rfl) [97, 100, 100, 105, 119] 27#32 0#32 0#32) ?_
  rintro _ wd121 ⟨rfl, ed121⟩
  have E459 : Ext w wd121 := Mod.trans (E448) (ed121)
  have B460 := (B449).ext (ed121)
  have B461 := (B450).ext (ed121)
  have B462 := (B451).ext (ed121)
  have B463 := (B452).ext (ed121)
  have B464 := (B453).ext (ed121)
  have B465 := (B454).ext (ed121)
  have B466 := (B455).ext (ed121)
  have B467 := (B456).ext (ed121)
  have B468 := (B457).ext (ed121)
  refine WL.behind (⟨E459, B460, B461, B462, B463, B464, B465, B466, B467, B468⟩) ?_
  refine WA.one (i := 83) (m' := 453709822561264179826575365953554481151) R62_o83_1555555555557ffffffffffffffffffff rfl rfl ?_
  have B469 := ((((((((((((((((((((((((((((((((((((((((((((((((((((n18.blk).ext (n4.ext)).ext (n22.ext)).ext (n5.ext)).ext (n28.ext)).ext (n6.ext)).ext (n31.ext)).ext (n7.ext)).ext (n37.ext)).ext (n8.ext)).ext (n9.ext)).ext (ed_10)).ext (ed41)).ext (ed43)).ext (ed45)).ext (ed47)).ext (ed49)).ext (ed51)).ext (ed53)).ext (ed55)).ext (ed57)).ext (ed59)).ext (ed61)).ext (ed63)).ext (ed65)).ext (ed67)).ext (ed69)).ext (ed71)).ext (ed73)).ext (ed75)).ext (ed77)).ext (ed79)).ext (ed81)).ext (ed83)).ext (ed85)).ext (ed87)).ext (ed89)).ext (ed91)).ext (ed93)).ext (ed95)).ext (ed97)).ext (ed99)).ext (ed101)).ext (ed103)).ext (ed105)).ext (ed107)).ext (ed109)).ext (ed111)).ext (ed113)).ext (ed115)).ext (ed117)).ext (ed119)).ext (ed121)
  refine WL.call ca91 (rfl) rfl (tells_spec _ (hG.ext (E459)) .W (.slice (some ⟨b18, 0, none⟩) 1 1) (Sl.ofCells (B469).cells rfl) [115, 108, 108, 105, 119] 27#32 1#32 0#32) ?_
  rintro _ wd123 ⟨rfl, ed123⟩
  have E470 : Ext w wd123 := Mod.trans (E459) (ed123)
  have B471 := (B460).ext (ed123)
  have B472 := (B461).ext (ed123)
  have B473 := (B462).ext (ed123)
  have B474 := (B463).ext (ed123)
  have B475 := (B464).ext (ed123)
  have B476 := (B465).ext (ed123)
  have B477 := (B466).ext (ed123)
  have B478 := (B467).ext (ed123)
  have B479 := (B468).ext (ed123)
  refine WL.behind (⟨E470, B471, B472, B473, B474, B475, B476, B477, B478, B479⟩) ?_
  refine WA.one (i := 85) (m' := 453709822561302865452803034087145078783) R62_o85_155555555555fffffffffffffffffffff rfl rfl ?_
  have B480 := (B469).ext (ed123)
  refine WL.call ca91 (rfl) rfl (tells_spec _ (hG.ext (E470)) .W (.slice (some ⟨b18, 0, none⟩) 1 1) (Sl.ofCells (B480).cells rfl) [115, 114, 108, 105, 119] 27#32 5#32 0#32) ?_
  rintro _ wd125 ⟨rfl, ed125⟩
  have E481 : Ext w wd125 := Mod.trans (E470) (ed125)
  have B482 := (B471).ext (ed125)
  have B483 := (B472).ext (ed125)
  have B484 := (B473).ext (ed125)
  have B485 := (B474).ext (ed125)
  have B486 := (B475).ext (ed125)
  have B487 := (B476).ext (ed125)
  have B488 := (B477).ext (ed125)
  have B489 := (B478).ext (ed125)
  have B490 := (B479).ext (ed125)
  refine WL.behind (⟨E481, B482, B483, B484, B485, B486, B487, B488, B489, B490⟩) ?_
  refine WA.one (i := 87) (m' := 453709822561457607957713706621507469311) R62_o87_155555555557fffffffffffffffffffff rfl rfl ?_
  have B491 := (B480).ext (ed125)
  refine WL.call ca91 (rfl) rfl (tells_spec _ (hG.ext (E481)) .W (.slice (some ⟨b18, 0, none⟩) 1 1) (Sl.ofCells (B491).cells rfl) [115, 114, 97, 105, 119] 27#32 5#32 32#32) ?_
  rintro _ wd127 ⟨rfl, ed127⟩
  have E492 : Ext w wd127 := Mod.trans (E481) (ed127)
  have B493 := (B482).ext (ed127)
  have B494 := (B483).ext (ed127)
  have B495 := (B484).ext (ed127)
  have B496 := (B485).ext (ed127)
  have B497 := (B486).ext (ed127)
  have B498 := (B487).ext (ed127)
  have B499 := (B488).ext (ed127)
  have B500 := (B489).ext (ed127)
  have B501 := (B490).ext (ed127)
  refine WL.behind (⟨E492, B493, B494, B495, B496, B497, B498, B499, B500, B501⟩) ?_
  refine WA.one (i := 89) (m' := 453709822562076577977356396758957031423) R62_o89_15555555555ffffffffffffffffffffff rfl rfl ?_
  refine WL.call ca91 (rfl) rfl (tells_spec _ (hG.ext (E492)) .R (.slice none 0 0) (Sl.nil _ _ _) [97, 100, 100, 119] 59#32 0#32 0#32) ?_
  rintro _ wd129 ⟨rfl, ed129⟩
  have E502 : Ext w wd129 := Mod.trans (E492) (ed129)
  have B503 := (B493).ext (ed129)
  have B504 := (B494).ext (ed129)
  have B505 := (B495).ext (ed129)
  have B506 := (B496).ext (ed129)
  have B507 := (B497).ext (ed129)
  have B508 := (B498).ext (ed129)
  have B509 := (B499).ext (ed129)
  have B510 := (B500).ext (ed129)
  have B511 := (B501).ext (ed129)
  refine WL.behind (⟨E502, B503, B504, B505, B506, B507, B508, B509, B510, B511⟩) ?_
  refine WA.one (i := 91) (m' := 453709822564552458055927157308755279871) R62_o91_15555555557ffffffffffffffffffffff rfl rfl ?_
  refine WL.call ca91 (rfl) rfl (tells_spec _ (hG.ext (E502)) .R (.slice none 0 0) (Sl.nil _ _ _) [115, 117, 98, 119] 59#32 0#32 32#32) ?_
  rintro _ wd131 ⟨rfl, ed131⟩
  have E512 : Ext w wd131 := Mod.trans (E502) (ed131)
  have B513 := (B503).ext (ed131)
  have B514 := (B504).ext (ed131)
  have B515 := (B505).ext (ed131)
  have B516 := (B506).ext (ed131)
  have B517 := (B507).ext (ed131)
  have B518 := (B508).ext (ed131)
  have B519 := (B509).ext (ed131)
  have B520 := (B510).ext (ed131)
  have B521 := (B511).ext (ed131)
  refine WL.behind (⟨E512, B513, B514, B515, B516, B517, B518, B519, B520, B521⟩) ?_
  refine WA.one (i := 93) (m' := 453709822574455978370210199507948273663) R62_o93_1555555555fffffffffffffffffffffff rfl rfl ?_
  refine WL.call ca91 (rfl) rfl (tells_spec _ (hG.ext (E512)) .R (.slice none 0 0) (Sl.nil _ _ _) [115, 108, 108, 119] 59#32 1#32 0#32) ?_
  rintro _ wd133 ⟨rfl, ed133⟩
  have E522 : Ext w wd133 := Mod.trans (E512) (ed133)
  have B523 := (B513).ext (ed133)
  have B524 := (B514).ext (ed133)
  have B525 := (B515).ext (ed133)
  have B526 := (B516).ext (ed133)
  have B527 := (B517).ext (ed133)
  have B528 := (B518).ext (ed133)
  have B529 := (B519).ext (ed133)
  have B530 := (B520).ext (ed133)
  have B531 := (B521).ext (ed133)
  refine WL.behind (⟨E522, B523, B524, B525, B526, B527, B528, B529, B530, B531⟩) ?_
  refine WA.one (i := 95) (m' := 453709822614070059627342368304720248831) R62_o95_1555555557fffffffffffffffffffffff rfl rfl ?_
  refine WL.call ca91 (rfl) rfl (tells_spec _ (hG.ext (E522)) .R (.slice none 0 0) (Sl.nil _ _ _) [115, 114, 108, 119] 59#32 5#32 0#32) ?_
  rintro _ wd135 ⟨rfl, ed135⟩
  have E532 : Ext w wd135 := Mod.trans (E522) (ed135)
  have B533 := (B523).ext (ed135)
  have B534 := (B524).ext (ed135)
  have B535 := (B525).ext (ed135)
  have B536 := (B526).ext (ed135)
  have B537 := (B527).ext (ed135)
  have B538 := (B528).ext (ed135)
  have B539 := (B529).ext (ed135)
  have B540 := (B530).ext (ed135)
  have B541 := (B531).ext (ed135)
  refine WL.behind (⟨E532, B533, B534, B535, B536, B537, B538, B539, B540, B541⟩) ?_
  refine WA.one (i := 97) (m' := 453709822772526384655871043491808149503) R62_o97_155555555ffffffffffffffffffffffff rfl rfl ?_
  refine WL.call ca91 (rfl) rfl (tells_spec _ (hG.ext (E532)) .R (.slice none 0 0) (Sl.nil _ _ _) [115, 114, 97, 119] 59#32 5#32 32#32) ?_
  rintro _ wd137 ⟨rfl, ed137⟩
  have E542 : Ext w wd137 := Mod.trans (E532) (ed137)
  have B543 := (B533).ext (ed137)
  have B544 := (B534).ext (ed137)
  have B545 := (B535).ext (ed137)
  have B546 := (B536).ext (ed137)
  have B547 := (B537).ext (ed137)
  have B548 := (B538).ext (ed137)
  have B549 := (B539).ext (ed137)
  have B550 := (B540).ext (ed137)
  have B551 := (B541).ext (ed137)
  refine WL.behind (⟨E542, B543, B544, B545, B546, B547, B548, B549, B550, B551⟩) ?_
  refine WA.one (i := 99) (m' := 453709823406351684769985744240159752191) R62_o99_155555557ffffffffffffffffffffffff rfl rfl ?_
  refine WL.call ca91 (rfl) rfl (tells_spec _ (hG.ext (E542)) .R (.slice none 0 0) (Sl.nil _ _ _) [109, 117, 108] 51#32 0#32 1#32) ?_
  rintro _ wd139 ⟨rfl, ed139⟩
  have E552 : Ext w wd139 := Mod.trans (E542) (ed139)
  have B553 := (B543).ext (ed139)
  have B554 := (B544).ext (ed139)
  have B555 := (B545).ext (ed139)
  have B556 := (B546).ext (ed139)
  have B557 := (B547).ext (ed139)
  have B558 := (B548).ext (ed139)
  have B559 := (B549).ext (ed139)
  have B560 := (B550).ext (ed139)
  have B561 := (B551).ext (ed139)
  refine WL.behind (⟨E552, B553, B554, B555, B556, B557, B558, B559, B560, B561⟩) ?_
  refine WA.one (i := 101) (m' := 453709825941652885226444547233566162943) R62_o101_15555555fffffffffffffffffffffffff rfl rfl ?_
  refine WL.call ca91 (rfl) rfl (tells_spec _ (hG.ext (E552)) .R (.slice none 0 0) (Sl.nil _ _ _) [109, 117, 108, 104] 51#32 1#32 1#32) ?_
  rintro _ wd141 ⟨rfl, ed141⟩
  have E562 : Ext w wd141 := Mod.trans (E552) (ed141)
  have B563 := (B553).ext (ed141)
  have B564 := (B554).ext (ed141)
  have B565 := (B555).ext (ed141)
  have B566 := (B556).ext (ed141)
  have B567 := (B557).ext (ed141)
  have B568 := (B558).ext (ed141)
  have B569 := (B559).ext (ed141)
  have B570 := (B560).ext (ed141)
  have B571 := (B561).ext (ed141)
  refine WL.behind (⟨E562, B563, B564, B565, B566, B567, B568, B569, B570, B571⟩) ?_
  refine WA.one (i := 103) (m' := 453709836082857687052279759207191805951) R62_o103_15555557fffffffffffffffffffffffff rfl rfl ?_
  refine WL.call ca91 (rfl) rfl (tells_spec _ (hG.ext (E562)) .R (.slice none 0 0) (Sl.nil _ _ _) [109, 117, 108, 104, 115, 117] 51#32 2#32 1#32) ?_
  rintro _ wd143 ⟨rfl, ed143⟩
  have E572 : Ext w wd143 := Mod.trans (E562) (ed143)
  have B573 := (B563).ext (ed143)
  have B574 := (B564).ext (ed143)
  have B575 := (B565).ext (ed143)
  have B576 := (B566).ext (ed143)
  have B577 := (B567).ext (ed143)
  have B578 := (B568).ext (ed143)
  have B579 := (B569).ext (ed143)
  have B580 := (B570).ext (ed143)
  have B581 := (B571).ext (ed143)
  refine WL.behind (⟨E572, B573, B574, B575, B576, B577, B578, B579, B580, B581⟩) ?_
  refine WA.one (i := 105) (m' := 453709876647676894355620607101694377983) R62_o105_1555555ffffffffffffffffffffffffff rfl rfl ?_
  refine WL.call ca91 (rfl) rfl (tells_spec _ (hG.ext (E572)) .R (.slice none 0 0) (Sl.nil _ _ _) [109, 117, 108, 104, 117] 51#32 3#32 1#32) ?_
  rintro _ wd145 ⟨rfl, ed145⟩
  have E582 : Ext w wd145 := Mod.trans (E572) (ed145)
  have B583 := (B573).ext (ed145)
  have B584 := (B574).ext (ed145)
  have B585 := (B575).ext (ed145)
  have B586 := (B576).ext (ed145)
  have B587 := (B577).ext (ed145)
  have B588 := (B578).ext (ed145)
  have B589 := (B579).ext (ed145)
  have B590 := (B580).ext (ed145)
  have B591 := (B581).ext (ed145)
  refine WL.behind (⟨E582, B583, B584, B585, B586, B587, B588, B589, B590, B591⟩) ?_
  refine WA.one (i := 107) (m' := 453710038906953723568983998679704666111) R62_o107_1555557ffffffffffffffffffffffffff rfl rfl ?_
  refine WL.call ca91 (rfl) rfl (tells_spec _ (hG.ext (E582)) .R (.slice none 0 0) (Sl.nil _ _ _) [100, 105, 118] 51#32 4#32 1#32) ?_
  rintro _ wd147 ⟨rfl, ed147⟩
  have E592 : Ext w wd147 := Mod.trans (E582) (ed147)
  have B593 := (B583).ext (ed147)
  have B594 := (B584).ext (ed147)
  have B595 := (B585).ext (ed147)
  have B596 := (B586).ext (ed147)
  have B597 := (B587).ext (ed147)
  have B598 := (B588).ext (ed147)
  have B599 := (B589).ext (ed147)
  have B600 := (B590).ext (ed147)
  have B601 := (B591).ext (ed147)
  refine WL.behind (⟨E592, B593, B594, B595, B596, B597, B598, B599, B600, B601⟩) ?_
  refine WA.one (i := 109) (m' := 453710687944061040422437564991745818623) R62_o109_155555fffffffffffffffffffffffffff rfl rfl ?_
  refine WL.call ca91 (rfl) rfl (tells_spec _ (hG.ext (E592)) .R (.slice none 0 0) (Sl.nil _ _ _) [100, 105, 118, 117] 51#32 5#32 1#32) ?_
  rintro _ wd149 ⟨rfl, ed149⟩
  have E602 : Ext w wd149 := Mod.trans (E592) (ed149)
  have B603 := (B593).ext (ed149)
  have B604 := (B594).ext (ed149)
  have B605 := (B595).ext (ed149)
  have B606 := (B596).ext (ed149)
  have B607 := (B597).ext (ed149)
  have B608 := (B598).ext (ed149)
  have B609 := (B599).ext (ed149)
  have B610 := (B600).ext (ed149)
  have B611 := (B601).ext (ed149)
  refine WL.behind (⟨E602, B603, B604, B605, B606, B607, B608, B609, B610, B611⟩) ?_
  refine WA.one (i := 111) (m' := 453713284092490307836251830239910428671) R62_o111_155557fffffffffffffffffffffffffff rfl rfl ?_
  refine WL.call ca91 (rfl) rfl (tells_spec _ (hG.ext (E602)) .R (.slice none 0 0) (Sl.nil _ _ _) [114, 101, 109] 51#32 6#32 1#32) ?_
  rintro _ wd151 ⟨rfl, ed151⟩
  have E612 : Ext w wd151 := Mod.trans (E602) (ed151)
  have B613 := (B603).ext (ed151)
  have B614 := (B604).ext (ed151)
  have B615 := (B605).ext (ed151)
  have B616 := (B606).ext (ed151)
  have B617 := (B607).ext (ed151)
  have B618 := (B608).ext (ed151)
  have B619 := (B609).ext (ed151)
  have B620 := (B610).ext (ed151)
  have B621 := (B611).ext (ed151)
  refine WL.behind (⟨E612, B613, B614, B615, B616, B617, B618, B619, B620, B621⟩) ?_
  refine WA.one (i := 113) (m' := 453723668686207377491508891232568868863) R62_o113_15555ffffffffffffffffffffffffffff rfl rfl ?_
  refine WL.call ca91 (rfl) rfl (tells_spec _ (hG.ext (E612)) .R (.slice none 0 0) (Sl.nil _ _ _) [114, 101, 109, 117] 51#32 7#32 1#32) ?_
  rintro _ wd153 ⟨rfl, ed153⟩
  have E622 : Ext w wd153 := Mod.trans (E612) (ed153)
  have B623 := (B613).ext (ed153)
  have B624 := (B614).ext (ed153)
  have B625 := (B615).ext (ed153)
  have B626 := (B616).ext (ed153)
  have B627 := (B617).ext (ed153)
  have B628 := (B618).ext (ed153)
  have B629 := (B619).ext (ed153)
  have B630 := (B620).ext (ed153)
  have B631 := (B621).ext (ed153)
  refine WL.behind (⟨E622, B623, B624, B625, B626, B627, B628, B629, B630, B631⟩) ?_
  refine WA.one (i := 115) (m' := 453765207061075656112537135203202629631) R62_o115_15557ffffffffffffffffffffffffffff rfl rfl ?_
  refine WL.call ca91 (rfl) rfl (tells_spec _ (hG.ext (E622)) .R (.slice none 0 0) (Sl.nil _ _ _) [109, 117, 108, 119] 59#32 0#32 1#32) ?_
  rintro _ wd155 ⟨rfl, ed155⟩
  have E632 : Ext w wd155 := Mod.trans (E622) (ed155)
  have B633 := (B623).ext (ed155)
  have B634 := (B624).ext (ed155)
  have B635 := (B625).ext (ed155)
  have B636 := (B626).ext (ed155)
  have B637 := (B627).ext (ed155)
  have B638 := (B628).ext (ed155)
  have B639 := (B629).ext (ed155)
  have B640 := (B630).ext (ed155)
  have B641 := (B631).ext (ed155)
  refine WL.behind (⟨E632, B633, B634, B635, B636, B637, B638, B639, B640, B641⟩) ?_
  refine WA.one (i := 117) (m' := 453931360560548770596650111085737672703) R62_o117_1555fffffffffffffffffffffffffffff rfl rfl ?_
  refine WL.call ca91 (rfl) rfl (tells_spec _ (hG.ext (E632)) .R (.slice none 0 0) (Sl.nil _ _ _) [100, 105, 118, 119] 59#32 4#32 1#32) ?_
  rintro _ wd157 ⟨rfl, ed157⟩
  have E642 : Ext w wd157 := Mod.trans (E632) (ed157)
  have B643 := (B633).ext (ed157)
  have B644 := (B634).ext (ed157)
  have B645 := (B635).ext (ed157)
  have B646 := (B636).ext (ed157)
  have B647 := (B637).ext (ed157)
  have B648 := (B638).ext (ed157)
  have B649 := (B639).ext (ed157)
  have B650 := (B640).ext (ed157)
  have B651 := (B641).ext (ed157)
  refine WL.behind (⟨E642, B643, B644, B645, B646, B647, B648, B649, B650, B651⟩) ?_
  refine WA.one (i := 119) (m' := 454595974558441228533102014615877844991) R62_o119_1557fffffffffffffffffffffffffffff rfl rfl ?_
  refine WL.call ca91 (rfl) rfl (tells_spec _ (hG.ext (E642)) .R (.slice none 0 0) (Sl.nil _ _ _) [100, 105, 118, 117, 119] 59#32 5#32 1#32) ?_
  rintro _ wd159 ⟨rfl, ed159⟩
  have E652 : Ext w wd159 := Mod.trans (E642) (ed159)
  have B653 := (B643).ext (ed159)
  have B654 := (B644).ext (ed159)
  have B655 := (B645).ext (ed159)
  have B656 := (B646).ext (ed159)
  have B657 := (B647).ext (ed159)
  have B658 := (B648).ext (ed159)
  have B659 := (B649).ext (ed159)
  have B660 := (B650).ext (ed159)
  have B661 := (B651).ext (ed159)
  refine WL.behind (⟨E652, B653, B654, B655, B656, B657, B658, B659, B660, B661⟩) ?_
  refine WA.one (i := 121) (m' := 457254430550011060278909628736438534143) R62_o121_155ffffffffffffffffffffffffffffff rfl rfl ?_
  refine WL.call ca91 (rfl) rfl (tells_spec _ (hG.ext (E652)) .R (.slice none 0 0) (Sl.nil _ _ _) [114, 101, 109, 119] 59#32 6#32 1#32) ?_
  rintro _ wd161 ⟨rfl, ed161⟩
  have E662 : Ext w wd161 := Mod.trans (E652) (ed161)
  have B663 := (B653).ext (ed161)
  have B664 := (B654).ext (ed161)
  have B665 := (B655).ext (ed161)
  have B666 := (B656).ext (ed161)
  have B667 := (B657).ext (ed161)
  have B668 := (B658).ext (ed161)
  have B669 := (B659).ext (ed161)
  have B670 := (B660).ext (ed161)
  have B671 := (B661).ext (ed161)
  refine WL.behind (⟨E662, B663, B664, B665, B666, B667, B668, B669, B670, B671⟩) ?_
  refine WA.one (i := 123) (m' := 467888254516290387262140085218681290751) R62_o123_157ffffffffffffffffffffffffffffff rfl rfl ?_
  refine WL.call ca91 (rfl) rfl (tells_spec _ (hG.ext (E662)) .R (.slice none 0 0) (Sl.nil _ _ _) [114, 101, 109, 117, 119] 59#32 7#32 1#32) ?_
  rintro _ wd163 ⟨rfl, ed163⟩
  have E672 : Ext w wd163 := Mod.trans (E662) (ed163)
  have B673 := (B663).ext (ed163)
  have B674 := (B664).ext (ed163)
  have B675 := (B665).ext (ed163)
  have B676 := (B666).ext (ed163)
  have B677 := (B667).ext (ed163)
  have B678 := (B668).ext (ed163)
  have B679 := (B669).ext (ed163)
  have B680 := (B670).ext (ed163)
  have B681 := (B671).ext (ed163)
  refine WL.behind (⟨E672, B673, B674, B675, B676, B677, B678, B679, B680, B681⟩) ?_
  refine WA.one (i := 125) (m' := 510423550381407695195061911147652317183) R62_o125_15fffffffffffffffffffffffffffffff rfl rfl ?_
  have B682 := ((((((((((((((((((((((B458).ext (ed121)).ext (ed123)).ext (ed125)).ext (ed127)).ext (ed129)).ext (ed131)).ext (ed133)).ext (ed135)).ext (ed137)).ext (ed139)).ext (ed141)).ext (ed143)).ext (ed145)).ext (ed147)).ext (ed149)).ext (ed151)).ext (ed153)).ext (ed155)).ext (ed157)).ext (ed159)).ext (ed161)).ext (ed163)
  refine WL.call ca91 (rfl) rfl (tells_spec _ (hG.ext (E672)) .I (.slice (some ⟨b12, 0, none⟩) 1 1) (Sl.ofCells (B682).cells rfl) [102, 101, 110, 99, 101] 15#32 0#32 0#32) ?_
  rintro _ wd165 ⟨rfl, ed165⟩
  have E683 : Ext w wd165 := Mod.trans (E672) (ed165)
  have B684 := (B673).ext (ed165)
  have B685 := (B674).ext (ed165)
  have B686 := (B675).ext (ed165)
  have B687 := (B676).ext (ed165)
  have B688 := (B677).ext (ed165)
  have B689 := (B678).ext (ed165)
  have B690 := (B679).ext (ed165)
  have B691 := (B680).ext (ed165)
  have B692 := (B681).ext (ed165)
  refine WL.behind (⟨E683, B684, B685, B686, B687, B688, B689, B690, B691, B692⟩) ?_
  refine WA.one (i := 127) (m' := 680564733841876926926749214863536422911) R62_o127_17fffffffffffffffffffffffffffffff rfl rfl ?_
  refine WL.call ca91 (rfl) rfl (tells_spec _ (hG.ext (E683)) .E (.slice none 0 0) (Sl.nil _ _ _) [101, 99, 97, 108, 108] 115#32 0#32 0#32) ?_
  rintro _ wd167 ⟨rfl, ed167⟩
  have E693 : Ext w wd167 := Mod.trans (E683) (ed167)
  have B694 := (B684).ext (ed167)
  have B695 := (B685).ext (ed167)
  have B696 := (B686).ext (ed167)
  have B697 := (B687).ext (ed167)
  have B698 := (B688).ext (ed167)
  have B699 := (B689).ext (ed167)
  have B700 := (B690).ext (ed167)
  have B701 := (B691).ext (ed167)
  have B702 := (B692).ext (ed167)
  refine WL.behind (⟨E693, B694, B695, B696, B697, B698, B699, B700, B701, B702⟩) ?_
  refine WA.one (i := 129) (m' := 1361129467683753853853498429727072845823) R62_o129_1ffffffffffffffffffffffffffffffff rfl rfl ?_
  refine WL.call ca91 (rfl) rfl (tells_spec _ (hG.ext (E693)) .E (.slice none 0 0) (Sl.nil _ _ _) [101, 98, 114, 101, 97, 107] 1048691#32 0#32 0#32) ?_
  rintro _ wd169 ⟨rfl, ed169⟩
  have E703 : Ext w wd169 := Mod.trans (E693) (ed169)
  have B704 := (B694).ext (ed169)
  have B705 := (B695).ext (ed169)
  have B706 := (B696).ext (ed169)
  have B707 := (B697).ext (ed169)
  have B708 := (B698).ext (ed169)
  have B709 := (B699).ext (ed169)
  have B710 := (B700).ext (ed169)
  have B711 := (B701).ext (ed169)
  have B712 := (B702).ext (ed169)
  refine WL.behind (⟨E703, B704, B705, B706, B707, B708, B709, B710, B711, B712⟩) ?_
  refine WA.take (i := 130) (m' := 2722258935367507707706996859454145691647) (v := tableV (ivT b12 b15 b18 b22 b28 b31 b37)) rfl rfl rfl rfl R62_t130_3ffffffffffffffffffffffffffffffff rfl (fun _ _ _ h => h) (fun wx hS => ?_) (⟨E703, B704, B705, B706, B707, B708, B709, B710, B711, B712⟩) ?_
  · exact WL.build (v := tableV (ivT b12 b15 b18 b22 b28 b31 b37)) (vs := [(1, rowVal (.slice (some ⟨b31, 0, none⟩) 1 1) (tellsD .U [108, 117, 105] 55#32 0#32 0#32)), (2, rowVal (.slice (some ⟨b31, 0, none⟩) 1 1) (tellsD .U [97, 117, 105, 112, 99] 23#32 0#32 0#32)), (3, rowVal (.slice (some ⟨b37, 0, none⟩) 4 4) (tellsD .J [106, 97, 108] 111#32 0#32 0#32)), (4, rowVal (.slice (some ⟨b12, 0, none⟩) 1 1) (tellsD .I [106, 97, 108, 114] 103#32 0#32 0#32)), (5, rowVal (.slice (some ⟨b28, 0, none⟩) 4 4) (tellsD .B [98, 101, 113] 99#32 0#32 0#32)), (6, rowVal (.slice (some ⟨b28, 0, none⟩) 4 4) (tellsD .B [98, 110, 101] 99#32 1#32 0#32)), (7, rowVal (.slice (some ⟨b28, 0, none⟩) 4 4) (tellsD .B [98, 108, 116] 99#32 4#32 0#32)), (8, rowVal (.slice (some ⟨b28, 0, none⟩) 4 4) (tellsD .B [98, 103, 101] 99#32 5#32 0#32)), (9, rowVal (.slice (some ⟨b28, 0, none⟩) 4 4) (tellsD .B [98, 108, 116, 117] 99#32 6#32 0#32)), (10, rowVal (.slice (some ⟨b28, 0, none⟩) 4 4) (tellsD .B [98, 103, 101, 117] 99#32 7#32 0#32)), (11, rowVal (.slice (some ⟨b12, 0, none⟩) 1 1) (tellsD .I [108, 98] 3#32 0#32 0#32)), (12, rowVal (.slice (some ⟨b12, 0, none⟩) 1 1) (tellsD .I [108, 104] 3#32 1#32 0#32)), (13, rowVal (.slice (some ⟨b12, 0, none⟩) 1 1) (tellsD .I [108, 119] 3#32 2#32 0#32)), (14, rowVal (.slice (some ⟨b12, 0, none⟩) 1 1) (tellsD .I [108, 100] 3#32 3#32 0#32)), (15, rowVal (.slice (some ⟨b12, 0, none⟩) 1 1) (tellsD .I [108, 98, 117] 3#32 4#32 0#32)), (16, rowVal (.slice (some ⟨b12, 0, none⟩) 1 1) (tellsD .I [108, 104, 117] 3#32 5#32 0#32)), (17, rowVal (.slice (some ⟨b12, 0, none⟩) 1 1) (tellsD .I [108, 119, 117] 3#32 6#32 0#32)), (18, rowVal (.slice (some ⟨b22, 0, none⟩) 2 2) (tellsD .S [115, 98] 35#32 0#32 0#32)), (19, rowVal (.slice (some ⟨b22, 0, none⟩) 2 2) (tellsD .S [115, 104] 35#32 1#32 0#32)), (20, rowVal (.slice (some ⟨b22, 0, none⟩) 2 2) (tellsD .S [115, 119] 35#32 2#32 0#32)), (21, rowVal (.slice (some ⟨b22, 0, none⟩) 2 2) (tellsD .S [115, 100] 35#32 3#32 0#32)), (22, rowVal (.slice (some ⟨b12, 0, none⟩) 1 1) (tellsD .I [97, 100, 100, 105] 19#32 0#32 0#32)), (23, rowVal (.slice (some ⟨b12, 0, none⟩) 1 1) (tellsD .I [115, 108, 116, 105] 19#32 2#32 0#32)), (24, rowVal (.slice (some ⟨b12, 0, none⟩) 1 1) (tellsD .I [115, 108, 116, 105, 117] 19#32 3#32 0#32)), (25, rowVal (.slice (some ⟨b12, 0, none⟩) 1 1) (tellsD .I [120, 111, 114, 105] 19#32 4#32 0#32)), (26, rowVal (.slice (some ⟨b12, 0, none⟩) 1 1) (tellsD .I [111, 114, 105] 19#32 6#32 0#32)), (27, rowVal (.slice (some ⟨b12, 0, none⟩) 1 1) (tellsD .I [97, 110, 100, 105] 19#32 7#32 0#32)), (28, rowVal (.slice (some ⟨b15, 0, none⟩) 1 1) (tellsD .H [115, 108, 108, 105] 19#32 1#32 0#32)), (29, rowVal (.slice (some ⟨b15, 0, none⟩) 1 1) (tellsD .H [115, 114, 108, 105] 19#32 5#32 0#32)), (30, rowVal (.slice (some ⟨b15, 0, none⟩) 1 1) (tellsD .H [115, 114, 97, 105] 19#32 5#32 32#32)), (31, rowVal (.slice none 0 0) (tellsD .R [97, 100, 100] 51#32 0#32 0#32)), (32, rowVal (.slice none 0 0) (tellsD .R [115, 117, 98] 51#32 0#32 32#32)), (33, rowVal (.slice none 0 0) (tellsD .R [115, 108, 108] 51#32 1#32 0#32)), (34, rowVal (.slice none 0 0) (tellsD .R [115, 108, 116] 51#32 2#32 0#32)), (35, rowVal (.slice none 0 0) (tellsD .R [115, 108, 116, 117] 51#32 3#32 0#32)), (36, rowVal (.slice none 0 0) (tellsD .R [120, 111, 114] 51#32 4#32 0#32)), (37, rowVal (.slice none 0 0) (tellsD .R [115, 114, 108] 51#32 5#32 0#32)), (38, rowVal (.slice none 0 0) (tellsD .R [115, 114, 97] 51#32 5#32 32#32)), (39, rowVal (.slice none 0 0) (tellsD .R [111, 114] 51#32 6#32 0#32)), (40, rowVal (.slice none 0 0) (tellsD .R [97, 110, 100] 51#32 7#32 0#32)), (41, rowVal (.slice (some ⟨b12, 0, none⟩) 1 1) (tellsD .I [97, 100, 100, 105, 119] 27#32 0#32 0#32)), (42, rowVal (.slice (some ⟨b18, 0, none⟩) 1 1) (tellsD .W [115, 108, 108, 105, 119] 27#32 1#32 0#32)), (43, rowVal (.slice (some ⟨b18, 0, none⟩) 1 1) (tellsD .W [115, 114, 108, 105, 119] 27#32 5#32 0#32)), (44, rowVal (.slice (some ⟨b18, 0, none⟩) 1 1) (tellsD .W [115, 114, 97, 105, 119] 27#32 5#32 32#32)), (45, rowVal (.slice none 0 0) (tellsD .R [97, 100, 100, 119] 59#32 0#32 0#32)), (46, rowVal (.slice none 0 0) (tellsD .R [115, 117, 98, 119] 59#32 0#32 32#32)), (47, rowVal (.slice none 0 0) (tellsD .R [115, 108, 108, 119] 59#32 1#32 0#32)), (48, rowVal (.slice none 0 0) (tellsD .R [115, 114, 108, 119] 59#32 5#32 0#32)), (49, rowVal (.slice none 0 0) (tellsD .R [115, 114, 97, 119] 59#32 5#32 32#32)), (50, rowVal (.slice none 0 0) (tellsD .R [109, 117, 108] 51#32 0#32 1#32)), (51, rowVal (.slice none 0 0) (tellsD .R [109, 117, 108, 104] 51#32 1#32 1#32)), (52, rowVal (.slice none 0 0) (tellsD .R [109, 117, 108, 104, 115, 117] 51#32 2#32 1#32)), (53, rowVal (.slice none 0 0) (tellsD .R [109, 117, 108, 104, 117] 51#32 3#32 1#32)), (54, rowVal (.slice none 0 0) (tellsD .R [100, 105, 118] 51#32 4#32 1#32)), (55, rowVal (.slice none 0 0) (tellsD .R [100, 105, 118, 117] 51#32 5#32 1#32)), (56, rowVal (.slice none 0 0) (tellsD .R [114, 101, 109] 51#32 6#32 1#32)), (57, rowVal (.slice none 0 0) (tellsD .R [114, 101, 109, 117] 51#32 7#32 1#32)), (58, rowVal (.slice none 0 0) (tellsD .R [109, 117, 108, 119] 59#32 0#32 1#32)), (59, rowVal (.slice none 0 0) (tellsD .R [100, 105, 118, 119] 59#32 4#32 1#32)), (60, rowVal (.slice none 0 0) (tellsD .R [100, 105, 118, 117, 119] 59#32 5#32 1#32)), (61, rowVal (.slice none 0 0) (tellsD .R [114, 101, 109, 119] 59#32 6#32 1#32)), (62, rowVal (.slice none 0 0) (tellsD .R [114, 101, 109, 117, 119] 59#32 7#32 1#32)), (63, rowVal (.slice (some ⟨b12, 0, none⟩) 1 1) (tellsD .I [102, 101, 110, 99, 101] 15#32 0#32 0#32)), (64, rowVal (.slice none 0 0) (tellsD .E [101, 99, 97, 108, 108] 115#32 0#32 0#32)), (65, rowVal (.slice none 0 0) (tellsD .E [101, 98, 114, 101, 97, 107] 1048691#32 0#32 0#32))]) rfl (bld62_170 b12 b15 b18 b22 b28 b31 b37) rfl (WL.nil ⟨rfl, rfl, rfl⟩)
  refine WA.one (i := 131) (m' := 5444517870735015415413993718908291383295) R62_o131_7ffffffffffffffffffffffffffffffff rfl rfl ?_
  have g12 : w.heap.size ≤ b12 := by have h := Mod.size (E2); have := n12.num; omega
  have g15 : w.heap.size ≤ b15 := by have h := Mod.size (E4); have := n15.num; omega
  have g18 : w.heap.size ≤ b18 := by have h := Mod.size (E6); have := n18.num; omega
  have g22 : w.heap.size ≤ b22 := by have h := Mod.size (E8); have := n22.num; omega
  have g28 : w.heap.size ≤ b28 := by have h := Mod.size (E10); have := n28.num; omega
  have g31 : w.heap.size ≤ b31 := by have h := Mod.size (E12); have := n31.num; omega
  have g37 : w.heap.size ≤ b37 := by have h := Mod.size (E14); have := n37.num; omega
  have B713 := ((((((((((((((((((((((((((((((((((((((((((((((((((((((((((((((((((((((((((((((((((n0.blk).ext (n1.ext)).ext (n12.ext)).ext (n2.ext)).ext (n15.ext)).ext (n3.ext)).ext (n18.ext)).ext (n4.ext)).ext (n22.ext)).ext (n5.ext)).ext (n28.ext)).ext (n6.ext)).ext (n31.ext)).ext (n7.ext)).ext (n37.ext)).ext (n8.ext)).ext (n9.ext)).ext (ed_10)).ext (ed41)).ext (ed43)).ext (ed45)).ext (ed47)).ext (ed49)).ext (ed51)).ext (ed53)).ext (ed55)).ext (ed57)).ext (ed59)).ext (ed61)).ext (ed63)).ext (ed65)).ext (ed67)).ext (ed69)).ext (ed71)).ext (ed73)).ext (ed75)).ext (ed77)).ext (ed79)).ext (ed81)).ext (ed83)).ext (ed85)).ext (ed87)).ext (ed89)).ext (ed91)).ext (ed93)).ext (ed95)).ext (ed97)).ext (ed99)).ext (ed101)).ext (ed103)).ext (ed105)).ext (ed107)).ext (ed109)).ext (ed111)).ext (ed113)).ext (ed115)).ext (ed117)).ext (ed119)).ext (ed121)).ext (ed123)).ext (ed125)).ext (ed127)).ext (ed129)).ext (ed131)).ext (ed133)).ext (ed135)).ext (ed137)).ext (ed139)).ext (ed141)).ext (ed143)).ext (ed145)).ext (ed147)).ext (ed149)).ext (ed151)).ext (ed153)).ext (ed155)).ext (ed157)).ext (ed159)).ext (ed161)).ext (ed163)).ext (ed165)).ext (ed167)).ext (ed169)
  refine WL.storeS (v := tableV (ivT b12 b15 b18 b22 b28 b31 b37)) rfl rfl (B713) rfl sz134 (table_size _) (table_ones (ivT_one _ _ _ _ _ _ _)) ?_
  intro wz mz bz zz
  have E714 : Ext w wz := Mod.own (Mod.refl _ _) n0 (E703) (mz)
  have B715 := (B704).mod (mz) (Ne.symm ((n0.blk).ne n1))
  have B716 := (B705).mod (mz) (Ne.symm ((((n0.blk).ext (n1.ext)).ext (n12.ext)).ne n2))
  have B717 := (B706).mod (mz) (Ne.symm ((((((n0.blk).ext (n1.ext)).ext (n12.ext)).ext (n2.ext)).ext (n15.ext)).ne n3))
  have B718 := (B707).mod (mz) (Ne.symm ((((((((n0.blk).ext (n1.ext)).ext (n12.ext)).ext (n2.ext)).ext (n15.ext)).ext (n3.ext)).ext (n18.ext)).ne n4))
  have B719 := (B708).mod (mz) (Ne.symm ((((((((((n0.blk).ext (n1.ext)).ext (n12.ext)).ext (n2.ext)).ext (n15.ext)).ext (n3.ext)).ext (n18.ext)).ext (n4.ext)).ext (n22.ext)).ne n5))
  have B720 := (B709).mod (mz) (Ne.symm ((((((((((((n0.blk).ext (n1.ext)).ext (n12.ext)).ext (n2.ext)).ext (n15.ext)).ext (n3.ext)).ext (n18.ext)).ext (n4.ext)).ext (n22.ext)).ext (n5.ext)).ext (n28.ext)).ne n6))
  have B721 := (B710).mod (mz) (Ne.symm ((((((((((((((n0.blk).ext (n1.ext)).ext (n12.ext)).ext (n2.ext)).ext (n15.ext)).ext (n3.ext)).ext (n18.ext)).ext (n4.ext)).ext (n22.ext)).ext (n5.ext)).ext (n28.ext)).ext (n6.ext)).ext (n31.ext)).ne n7))
  have B722 := (B711).mod (mz) (Ne.symm ((((((((((((((((n0.blk).ext (n1.ext)).ext (n12.ext)).ext (n2.ext)).ext (n15.ext)).ext (n3.ext)).ext (n18.ext)).ext (n4.ext)).ext (n22.ext)).ext (n5.ext)).ext (n28.ext)).ext (n6.ext)).ext (n31.ext)).ext (n7.ext)).ext (n37.ext)).ne n8))
  have B723 := (B712).mod (mz) (Ne.symm (((((((((((((((((n0.blk).ext (n1.ext)).ext (n12.ext)).ext (n2.ext)).ext (n15.ext)).ext (n3.ext)).ext (n18.ext)).ext (n4.ext)).ext (n22.ext)).ext (n5.ext)).ext (n28.ext)).ext (n6.ext)).ext (n31.ext)).ext (n7.ext)).ext (n37.ext)).ext (n8.ext)).ne n9))
  refine WL.behind (⟨E714, B715, B716, B717, B718, B719, B720, B721, B722, B723⟩) ?_
  refine WA.done R62_d0_fffffffffffffffffffffffffffffffff ?_
  refine WC.ret ?_
  have B724 := ((((B682).ext (ed165)).ext (ed167)).ext (ed169)).mod (mz) (Ne.symm (((n0.blk).ext (n1.ext)).ne n12))
  have B725 := (((((((((((((((((((((((((((((((((((((B347).ext (ed99)).ext (ed101)).ext (ed103)).ext (ed105)).ext (ed107)).ext (ed109)).ext (ed111)).ext (ed113)).ext (ed115)).ext (ed117)).ext (ed119)).ext (ed121)).ext (ed123)).ext (ed125)).ext (ed127)).ext (ed129)).ext (ed131)).ext (ed133)).ext (ed135)).ext (ed137)).ext (ed139)).ext (ed141)).ext (ed143)).ext (ed145)).ext (ed147)).ext (ed149)).ext (ed151)).ext (ed153)).ext (ed155)).ext (ed157)).ext (ed159)).ext (ed161)).ext (ed163)).ext (ed165)).ext (ed167)).ext (ed169)).mod (mz) (Ne.symm (((((n0.blk).ext (n1.ext)).ext (n12.ext)).ext (n2.ext)).ne n15))
  have B726 := (((((((((((((((((((((((B491).ext (ed127)).ext (ed129)).ext (ed131)).ext (ed133)).ext (ed135)).ext (ed137)).ext (ed139)).ext (ed141)).ext (ed143)).ext (ed145)).ext (ed147)).ext (ed149)).ext (ed151)).ext (ed153)).ext (ed155)).ext (ed157)).ext (ed159)).ext (ed161)).ext (ed163)).ext (ed165)).ext (ed167)).ext (ed169)).mod (mz) (Ne.symm (((((((n0.blk).ext (n1.ext)).ext (n12.ext)).ext (n2.ext)).ext (n15.ext)).ext (n3.ext)).ne n18))
  have B727 := ((((((((((((((((((((((((((((((((((((((((((((((B248).ext (ed81)).ext (ed83)).ext (ed85)).ext (ed87)).ext (ed89)).ext (ed91)).ext (ed93)).ext (ed95)).ext (ed97)).ext (ed99)).ext (ed101)).ext (ed103)).ext (ed105)).ext (ed107)).ext (ed109)).ext (ed111)).ext (ed113)).ext (ed115)).ext (ed117)).ext (ed119)).ext (ed121)).ext (ed123)).ext (ed125)).ext (ed127)).ext (ed129)).ext (ed131)).ext (ed133)).ext (ed135)).ext (ed137)).ext (ed139)).ext (ed141)).ext (ed143)).ext (ed145)).ext (ed147)).ext (ed149)).ext (ed151)).ext (ed153)).ext (ed155)).ext (ed157)).ext (ed159)).ext (ed161)).ext (ed163)).ext (ed165)).ext (ed167)).ext (ed169)).mod (mz) (Ne.symm (((((((((n0.blk).ext (n1.ext)).ext (n12.ext)).ext (n2.ext)).ext (n15.ext)).ext (n3.ext)).ext (n18.ext)).ext (n4.ext)).ne n22))
  have B728 := (((((((((((((((((((((((((((((((((((((((((((((((((((((((((B127).ext (ed59)).ext (ed61)).ext (ed63)).ext (ed65)).ext (ed67)).ext (ed69)).ext (ed71)).ext (ed73)).ext (ed75)).ext (ed77)).ext (ed79)).ext (ed81)).ext (ed83)).ext (ed85)).ext (ed87)).ext (ed89)).ext (ed91)).ext (ed93)).ext (ed95)).ext (ed97)).ext (ed99)).ext (ed101)).ext (ed103)).ext (ed105)).ext (ed107)).ext (ed109)).ext (ed111)).ext (ed113)).ext (ed115)).ext (ed117)).ext (ed119)).ext (ed121)).ext (ed123)).ext (ed125)).ext (ed127)).ext (ed129)).ext (ed131)).ext (ed133)).ext (ed135)).ext (ed137)).ext (ed139)).ext (ed141)).ext (ed143)).ext (ed145)).ext (ed147)).ext (ed149)).ext (ed151)).ext (ed153)).ext (ed155)).ext (ed157)).ext (ed159)).ext (ed161)).ext (ed163)).ext (ed165)).ext (ed167)).ext (ed169)).mod (mz) (Ne.symm (((((((((((n0.blk).ext (n1.ext)).ext (n12.ext)).ext (n2.ext)).ext (n15.ext)).ext (n3.ext)).ext (n18.ext)).ext (n4.ext)).ext (n22.ext)).ext (n5.ext)).ne n28))
  have B729 := (((((((((((((((((((((((((((((((((((((((((((((((((((((((((((((((((B39).ext (ed43)).ext (ed45)).ext (ed47)).ext (ed49)).ext (ed51)).ext (ed53)).ext (ed55)).ext (ed57)).ext (ed59)).ext (ed61)).ext (ed63)).ext (ed65)).ext (ed67)).ext (ed69)).ext (ed71)).ext (ed73)).ext (ed75)).ext (ed77)).ext (ed79)).ext (ed81)).ext (ed83)).ext (ed85)).ext (ed87)).ext (ed89)).ext (ed91)).ext (ed93)).ext (ed95)).ext (ed97)).ext (ed99)).ext (ed101)).ext (ed103)).ext (ed105)).ext (ed107)).ext (ed109)).ext (ed111)).ext (ed113)).ext (ed115)).ext (ed117)).ext (ed119)).ext (ed121)).ext (ed123)).ext (ed125)).ext (ed127)).ext (ed129)).ext (ed131)).ext (ed133)).ext (ed135)).ext (ed137)).ext (ed139)).ext (ed141)).ext (ed143)).ext (ed145)).ext (ed147)).ext (ed149)).ext (ed151)).ext (ed153)).ext (ed155)).ext (ed157)).ext (ed159)).ext (ed161)).ext (ed163)).ext (ed165)).ext (ed167)).ext (ed169)).mod (mz) (Ne.symm (((((((((((((n0.blk).ext (n1.ext)).ext (n12.ext)).ext (n2.ext)).ext (n15.ext)).ext (n3.ext)).ext (n18.ext)).ext (n4.ext)).ext (n22.ext)).ext (n5.ext)).ext (n28.ext)).ext (n6.ext)).ne n31))
  have B730 := ((((((((((((((((((((((((((((((((((((((((((((((((((((((((((((((((B50).ext (ed45)).ext (ed47)).ext (ed49)).ext (ed51)).ext (ed53)).ext (ed55)).ext (ed57)).ext (ed59)).ext (ed61)).ext (ed63)).ext (ed65)).ext (ed67)).ext (ed69)).ext (ed71)).ext (ed73)).ext (ed75)).ext (ed77)).ext (ed79)).ext (ed81)).ext (ed83)).ext (ed85)).ext (ed87)).ext (ed89)).ext (ed91)).ext (ed93)).ext (ed95)).ext (ed97)).ext (ed99)).ext (ed101)).ext (ed103)).ext (ed105)).ext (ed107)).ext (ed109)).ext (ed111)).ext (ed113)).ext (ed115)).ext (ed117)).ext (ed119)).ext (ed121)).ext (ed123)).ext (ed125)).ext (ed127)).ext (ed129)).ext (ed131)).ext (ed133)).ext (ed135)).ext (ed137)).ext (ed139)).ext (ed141)).ext (ed143)).ext (ed145)).ext (ed147)).ext (ed149)).ext (ed151)).ext (ed153)).ext (ed155)).ext (ed157)).ext (ed159)).ext (ed161)).ext (ed163)).ext (ed165)).ext (ed167)).ext (ed169)).mod (mz) (Ne.symm (((((((((((((((n0.blk).ext (n1.ext)).ext (n12.ext)).ext (n2.ext)).ext (n15.ext)).ext (n3.ext)).ext (n18.ext)).ext (n4.ext)).ext (n22.ext)).ext (n5.ext)).ext (n28.ext)).ext (n6.ext)).ext (n31.ext)).ext (n7.ext)).ne n37))
  exact ⟨_, Res.cell rfl rfl (loadVar_agg (tableD.flatMap (rowCells (ivT b12 b15 b18 b22 b28 b31 b37))) ag134 sz134 (table_len _) (bz.cells)), ivT b12 b15 b18 b22 b28 b31 b37, rfl, ivT_ok  b12 b15 b18 b22 b28 b31 b37 (B724) (B725) (B726) (B727) (B728) (B729) (B730), ivT_from  b12 b15 b18 b22 b28 b31 b37 g12 g15 g18 g22 g28 g31 g37, E714⟩
end Go.Proofs.M
end
