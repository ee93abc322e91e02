/- Steps of the proof, packed by program: McTw McL5. -/
import Derived.Test.YtlabgjcjccdjfaaGreatDoorRows
import Derived.Test.YtlabgjcjccdjfaaGreatDoorMpackQ02
import Derived.Test.YtlabgjcjccdjfaaGreatDoorMpackQ13
set_option linter.unusedVariables false
set_option linter.unusedSimpArgs false
set_option linter.unnecessarySimpa false
section
set_option linter.unusedSimpArgs false
set_option linter.unusedVariables false
namespace Go.Proofs.S
open Go Go.Ux Go.Ux.Mach Go.Proofs
theorem bld6_22no1 (q : BitVec 8) : ∀ w : World, (Instr.build 48 #[(0, U8 (q)), (1, U8 (6#8)), (2, U8 (5#8))]).run Tryz.prog w = .ok (.agg #[U8 (q), U8 (6#8), U8 (5#8), .int .u8 (0), IN (0)]) w := fun _ => by kernel_rfl
theorem bld6_29no1  : ∀ w : World, (Instr.build 48 #[(0, U8 (22#8)), (1, U8 (17#8)), (4, I64 (1#64))]).run Tryz.prog w = .ok (.agg #[U8 (22#8), U8 (17#8), .int .u8 (0), .int .u8 (0), I64 (1#64)]) w := fun _ => by kernel_rfl
theorem bld6_30no1  : ∀ w : World, (Instr.build 48 #[(0, U8 (64#8))]).run Tryz.prog w = .ok (.agg #[U8 (64#8), .int .u8 (0), .int .u8 (0), .int .u8 (0), IN (0)]) w := fun _ => by kernel_rfl
theorem bld6_31no1  : ∀ w : World, (Instr.build 48 #[(0, U8 (22#8)), (1, U8 (5#8)), (2, U8 (10#8))]).run Tryz.prog w = .ok (.agg #[U8 (22#8), U8 (5#8), U8 (10#8), .int .u8 (0), IN (0)]) w := fun _ => by kernel_rfl
theorem bld6_33no1  : ∀ w : World, (Instr.build 48 #[(0, U8 (22#8)), (1, U8 (17#8)), (4, I64 (3#64))]).run Tryz.prog w = .ok (.agg #[U8 (22#8), U8 (17#8), .int .u8 (0), .int .u8 (0), I64 (3#64)]) w := fun _ => by kernel_rfl
theorem bld6_34no1  : ∀ w : World, (Instr.build 48 #[(0, U8 (64#8))]).run Tryz.prog w = .ok (.agg #[U8 (64#8), .int .u8 (0), .int .u8 (0), .int .u8 (0), IN (0)]) w := fun _ => by kernel_rfl
theorem bls6_35no1 (q : BitVec 8) : ∀ w : World, (Instr.buildSlice 49 6 #[(0, .agg #[U8 (22#8), U8 (17#8), .int .u8 (0), .int .u8 (0), I64 (1#64)]), (1, .agg #[U8 (64#8), .int .u8 (0), .int .u8 (0), .int .u8 (0), IN (0)]), (2, .agg #[U8 (22#8), U8 (5#8), U8 (10#8), .int .u8 (0), IN (0)]), (3, .agg #[U8 (q), U8 (6#8), U8 (5#8), U8 (0#8), I64 (0#64)]), (4, .agg #[U8 (22#8), U8 (17#8), .int .u8 (0), .int .u8 (0), I64 (3#64)]), (5, .agg #[U8 (64#8), .int .u8 (0), .int .u8 (0), .int .u8 (0), IN (0)])]).run Tryz.prog w = .ok (.slice (some ⟨w.heap.size, 0, none⟩) 6 6) (w.alloc (.cells #[U8 (22#8), U8 (17#8), .int .u8 (0), .int .u8 (0), I64 (1#64), U8 (64#8), .int .u8 (0), .int .u8 (0), .int .u8 (0), IN (0), U8 (22#8), U8 (5#8), U8 (10#8), .int .u8 (0), IN (0), U8 (q), U8 (6#8), U8 (5#8), U8 (0#8), I64 (0#64), U8 (22#8), U8 (17#8), .int .u8 (0), .int .u8 (0), I64 (3#64), U8 (64#8), .int .u8 (0), .int .u8 (0), .int .u8 (0), IN (0)] 48)) := fun _ => by kernel_rfl
theorem ca19 : callable Tryz.prog 19 = true := by kernel_rfl
theorem bls6_44no1 (q : BitVec 64) : ∀ w : World, (Instr.buildSlice 26 1 #[(0, I64 (q))]).run Tryz.prog w = .ok (.slice (some ⟨w.heap.size, 0, none⟩) 1 1) (w.alloc (.cells #[I64 (q)] 2)) := fun _ => by kernel_rfl
theorem ca23 : callable Tryz.prog 23 = true := by kernel_rfl
theorem bls6_61no1 (q : BitVec 64) : ∀ w : World, (Instr.buildSlice 26 1 #[(0, I64 (q))]).run Tryz.prog w = .ok (.slice (some ⟨w.heap.size, 0, none⟩) 1 1) (w.alloc (.cells #[I64 (q)] 2)) := fun _ => by kernel_rfl
theorem ca22 : callable Tryz.prog 22 = true := by kernel_rfl
theorem bls6_63no1  : ∀ w : World, (Instr.buildSlice 63 11 #[(0, IN (1)), (1, IN (2)), (2, IN (4)), (3, IN (8)), (4, IN (1)), (5, IN (2)), (6, IN (4)), (7, IN (1)), (8, IN (2)), (9, IN (4)), (10, IN (8))]).run Tryz.prog w = .ok (.slice (some ⟨w.heap.size, 0, none⟩) 11 11) (w.alloc (.cells #[IN (1), IN (2), IN (4), IN (8), IN (1), IN (2), IN (4), IN (1), IN (2), IN (4), IN (8)] 3)) := fun _ => by kernel_rfl
theorem el63 : elemT Tryz.prog 63 = some 3 := by kernel_rfl
theorem ca24 : callable Tryz.prog 24 = true := by kernel_rfl
theorem ca21 : callable Tryz.prog 21 = true := by kernel_rfl
theorem bld6_22no0 (q : BitVec 8) : ∀ w : World, (Instr.build 48 #[(0, U8 (q)), (1, U8 (6#8)), (2, U8 (5#8))]).run Tryz.prog w = .ok (.agg #[U8 (q), U8 (6#8), U8 (5#8), .int .u8 (0), IN (0)]) w := fun _ => by kernel_rfl
theorem bld6_28no0 (q : BitVec 8) : ∀ w : World, (Instr.build 48 #[(0, U8 (q)), (2, U8 (5#8)), (3, U8 (2#8))]).run Tryz.prog w = .ok (.agg #[U8 (q), .int .u8 (0), U8 (5#8), U8 (2#8), IN (0)]) w := fun _ => by kernel_rfl
theorem bld6_29no0  : ∀ w : World, (Instr.build 48 #[(0, U8 (22#8)), (1, U8 (17#8)), (4, I64 (1#64))]).run Tryz.prog w = .ok (.agg #[U8 (22#8), U8 (17#8), .int .u8 (0), .int .u8 (0), I64 (1#64)]) w := fun _ => by kernel_rfl
theorem bld6_30no0  : ∀ w : World, (Instr.build 48 #[(0, U8 (64#8))]).run Tryz.prog w = .ok (.agg #[U8 (64#8), .int .u8 (0), .int .u8 (0), .int .u8 (0), IN (0)]) w := fun _ => by kernel_rfl
theorem bld6_31no0  : ∀ w : World, (Instr.build 48 #[(0, U8 (22#8)), (1, U8 (5#8)), (2, U8 (10#8))]).run Tryz.prog w = .ok (.agg #[U8 (22#8), U8 (5#8), U8 (10#8), .int .u8 (0), IN (0)]) w := fun _ => by kernel_rfl
theorem bld6_33no0  : ∀ w : World, (Instr.build 48 #[(0, U8 (22#8)), (1, U8 (17#8)), (4, I64 (3#64))]).run Tryz.prog w = .ok (.agg #[U8 (22#8), U8 (17#8), .int .u8 (0), .int .u8 (0), I64 (3#64)]) w := fun _ => by kernel_rfl
theorem bld6_34no0  : ∀ w : World, (Instr.build 48 #[(0, U8 (64#8))]).run Tryz.prog w = .ok (.agg #[U8 (64#8), .int .u8 (0), .int .u8 (0), .int .u8 (0), IN (0)]) w := fun _ => by kernel_rfl
theorem bls6_35no0 (q : BitVec 8) : ∀ w : World, (Instr.buildSlice 49 6 #[(0, .agg #[U8 (22#8), U8 (17#8), .int .u8 (0), .int .u8 (0), I64 (1#64)]), (1, .agg #[U8 (64#8), .int .u8 (0), .int .u8 (0), .int .u8 (0), IN (0)]), (2, .agg #[U8 (22#8), U8 (5#8), U8 (10#8), .int .u8 (0), IN (0)]), (3, .agg #[U8 (q), U8 (0#8), U8 (5#8), U8 (2#8), I64 (0#64)]), (4, .agg #[U8 (22#8), U8 (17#8), .int .u8 (0), .int .u8 (0), I64 (3#64)]), (5, .agg #[U8 (64#8), .int .u8 (0), .int .u8 (0), .int .u8 (0), IN (0)])]).run Tryz.prog w = .ok (.slice (some ⟨w.heap.size, 0, none⟩) 6 6) (w.alloc (.cells #[U8 (22#8), U8 (17#8), .int .u8 (0), .int .u8 (0), I64 (1#64), U8 (64#8), .int .u8 (0), .int .u8 (0), .int .u8 (0), IN (0), U8 (22#8), U8 (5#8), U8 (10#8), .int .u8 (0), IN (0), U8 (q), U8 (0#8), U8 (5#8), U8 (2#8), I64 (0#64), U8 (22#8), U8 (17#8), .int .u8 (0), .int .u8 (0), I64 (3#64), U8 (64#8), .int .u8 (0), .int .u8 (0), .int .u8 (0), IN (0)] 48)) := fun _ => by kernel_rfl
theorem bls6_44no0 (q : BitVec 64) : ∀ w : World, (Instr.buildSlice 26 1 #[(0, I64 (q))]).run Tryz.prog w = .ok (.slice (some ⟨w.heap.size, 0, none⟩) 1 1) (w.alloc (.cells #[I64 (q)] 2)) := fun _ => by kernel_rfl
theorem bls6_61no0 (q : BitVec 64) : ∀ w : World, (Instr.buildSlice 26 1 #[(0, I64 (q))]).run Tryz.prog w = .ok (.slice (some ⟨w.heap.size, 0, none⟩) 1 1) (w.alloc (.cells #[I64 (q)] 2)) := fun _ => by kernel_rfl
theorem bls6_63no0  : ∀ w : World, (Instr.buildSlice 63 11 #[(0, IN (1)), (1, IN (2)), (2, IN (4)), (3, IN (8)), (4, IN (1)), (5, IN (2)), (6, IN (4)), (7, IN (1)), (8, IN (2)), (9, IN (4)), (10, IN (8))]).run Tryz.prog w = .ok (.slice (some ⟨w.heap.size, 0, none⟩) 11 11) (w.alloc (.cells #[IN (1), IN (2), IN (4), IN (8), IN (1), IN (2), IN (4), IN (1), IN (2), IN (4), IN (8)] 3)) := fun _ => by kernel_rfl
theorem bld6_22yes1 (q : BitVec 8) : ∀ w : World, (Instr.build 48 #[(0, U8 (q)), (1, U8 (6#8)), (2, U8 (5#8))]).run Tryz.prog w = .ok (.agg #[U8 (q), U8 (6#8), U8 (5#8), .int .u8 (0), IN (0)]) w := fun _ => by kernel_rfl
theorem bld6_29yes1  : ∀ w : World, (Instr.build 48 #[(0, U8 (22#8)), (1, U8 (17#8)), (4, I64 (1#64))]).run Tryz.prog w = .ok (.agg #[U8 (22#8), U8 (17#8), .int .u8 (0), .int .u8 (0), I64 (1#64)]) w := fun _ => by kernel_rfl
theorem bld6_30yes1  : ∀ w : World, (Instr.build 48 #[(0, U8 (64#8))]).run Tryz.prog w = .ok (.agg #[U8 (64#8), .int .u8 (0), .int .u8 (0), .int .u8 (0), IN (0)]) w := fun _ => by kernel_rfl
theorem bld6_31yes1  : ∀ w : World, (Instr.build 48 #[(0, U8 (22#8)), (1, U8 (5#8)), (2, U8 (10#8))]).run Tryz.prog w = .ok (.agg #[U8 (22#8), U8 (5#8), U8 (10#8), .int .u8 (0), IN (0)]) w := fun _ => by kernel_rfl
theorem bld6_33yes1  : ∀ w : World, (Instr.build 48 #[(0, U8 (22#8)), (1, U8 (17#8)), (4, I64 (3#64))]).run Tryz.prog w = .ok (.agg #[U8 (22#8), U8 (17#8), .int .u8 (0), .int .u8 (0), I64 (3#64)]) w := fun _ => by kernel_rfl
theorem bld6_34yes1  : ∀ w : World, (Instr.build 48 #[(0, U8 (64#8))]).run Tryz.prog w = .ok (.agg #[U8 (64#8), .int .u8 (0), .int .u8 (0), .int .u8 (0), IN (0)]) w := fun _ => by kernel_rfl
theorem bls6_35yes1 (q : BitVec 8) : ∀ w : World, (Instr.buildSlice 49 6 #[(0, .agg #[U8 (22#8), U8 (17#8), .int .u8 (0), .int .u8 (0), I64 (1#64)]), (1, .agg #[U8 (64#8), .int .u8 (0), .int .u8 (0), .int .u8 (0), IN (0)]), (2, .agg #[U8 (22#8), U8 (5#8), U8 (10#8), .int .u8 (0), IN (0)]), (3, .agg #[U8 (q), U8 (6#8), U8 (5#8), U8 (0#8), I64 (0#64)]), (4, .agg #[U8 (22#8), U8 (17#8), .int .u8 (0), .int .u8 (0), I64 (3#64)]), (5, .agg #[U8 (64#8), .int .u8 (0), .int .u8 (0), .int .u8 (0), IN (0)])]).run Tryz.prog w = .ok (.slice (some ⟨w.heap.size, 0, none⟩) 6 6) (w.alloc (.cells #[U8 (22#8), U8 (17#8), .int .u8 (0), .int .u8 (0), I64 (1#64), U8 (64#8), .int .u8 (0), .int .u8 (0), .int .u8 (0), IN (0), U8 (22#8), U8 (5#8), U8 (10#8), .int .u8 (0), IN (0), U8 (q), U8 (6#8), U8 (5#8), U8 (0#8), I64 (0#64), U8 (22#8), U8 (17#8), .int .u8 (0), .int .u8 (0), I64 (3#64), U8 (64#8), .int .u8 (0), .int .u8 (0), .int .u8 (0), IN (0)] 48)) := fun _ => by kernel_rfl
theorem bls6_44yes1 (q : BitVec 64) : ∀ w : World, (Instr.buildSlice 26 1 #[(0, I64 (q))]).run Tryz.prog w = .ok (.slice (some ⟨w.heap.size, 0, none⟩) 1 1) (w.alloc (.cells #[I64 (q)] 2)) := fun _ => by kernel_rfl
theorem bls6_61yes1 (q : BitVec 64) : ∀ w : World, (Instr.buildSlice 26 1 #[(0, I64 (q))]).run Tryz.prog w = .ok (.slice (some ⟨w.heap.size, 0, none⟩) 1 1) (w.alloc (.cells #[I64 (q)] 2)) := fun _ => by kernel_rfl
theorem bls6_63yes1  : ∀ w : World, (Instr.buildSlice 63 11 #[(0, IN (1)), (1, IN (2)), (2, IN (4)), (3, IN (8)), (4, IN (1)), (5, IN (2)), (6, IN (4)), (7, IN (1)), (8, IN (2)), (9, IN (4)), (10, IN (8))]).run Tryz.prog w = .ok (.slice (some ⟨w.heap.size, 0, none⟩) 11 11) (w.alloc (.cells #[IN (1), IN (2), IN (4), IN (8), IN (1), IN (2), IN (4), IN (1), IN (2), IN (4), IN (8)] 3)) := fun _ => by kernel_rfl
theorem bld6_22yes0 (q : BitVec 8) : ∀ w : World, (Instr.build 48 #[(0, U8 (q)), (1, U8 (6#8)), (2, U8 (5#8))]).run Tryz.prog w = .ok (.agg #[U8 (q), U8 (6#8), U8 (5#8), .int .u8 (0), IN (0)]) w := fun _ => by kernel_rfl
theorem bld6_28yes0 (q : BitVec 8) : ∀ w : World, (Instr.build 48 #[(0, U8 (q)), (2, U8 (5#8)), (3, U8 (2#8))]).run Tryz.prog w = .ok (.agg #[U8 (q), .int .u8 (0), U8 (5#8), U8 (2#8), IN (0)]) w := fun _ => by kernel_rfl
theorem bld6_29yes0  : ∀ w : World, (Instr.build 48 #[(0, U8 (22#8)), (1, U8 (17#8)), (4, I64 (1#64))]).run Tryz.prog w = .ok (.agg #[U8 (22#8), U8 (17#8), .int .u8 (0), .int .u8 (0), I64 (1#64)]) w := fun _ => by kernel_rfl
theorem bld6_30yes0  : ∀ w : World, (Instr.build 48 #[(0, U8 (64#8))]).run Tryz.prog w = .ok (.agg #[U8 (64#8), .int .u8 (0), .int .u8 (0), .int .u8 (0), IN (0)]) w := fun _ => by kernel_rfl
theorem bld6_31yes0  : ∀ w : World, (Instr.build 48 #[(0, U8 (22#8)), (1, U8 (5#8)), (2, U8 (10#8))]).run Tryz.prog w = .ok (.agg #[U8 (22#8), U8 (5#8), U8 (10#8), .int .u8 (0), IN (0)]) w := fun _ => by kernel_rfl
theorem bld6_33yes0  : ∀ w : World, (Instr.build 48 #[(0, U8 (22#8)), (1, U8 (17#8)), (4, I64 (3#64))]).run Tryz.prog w = .ok (.agg #[U8 (22#8), U8 (17#8), .int .u8 (0), .int .u8 (0), I64 (3#64)]) w := fun _ => by kernel_rfl
theorem bld6_34yes0  : ∀ w : World, (Instr.build 48 #[(0, U8 (64#8))]).run Tryz.prog w = .ok (.agg #[U8 (64#8), .int .u8 (0), .int .u8 (0), .int .u8 (0), IN (0)]) w := fun _ => by kernel_rfl
theorem bls6_35yes0 (q : BitVec 8) : ∀ w : World, (Instr.buildSlice 49 6 #[(0, .agg #[U8 (22#8), U8 (17#8), .int .u8 (0), .int .u8 (0), I64 (1#64)]), (1, .agg #[U8 (64#8), .int .u8 (0), .int .u8 (0), .int .u8 (0), IN (0)]), (2, .agg #[U8 (22#8), U8 (5#8), U8 (10#8), .int .u8 (0), IN (0)]), (3, .agg #[U8 (q), U8 (0#8), U8 (5#8), U8 (2#8), I64 (0#64)]), (4, .agg #[U8 (22#8), U8 (17#8), .int .u8 (0), .int .u8 (0), I64 (3#64)]), (5, .agg #[U8 (64#8), .int .u8 (0), .int .u8 (0), .int .u8 (0), IN (0)])]).run Tryz.prog w = .ok (.slice (some ⟨w.heap.size, 0, none⟩) 6 6) (w.alloc (.cells #[U8 (22#8), U8 (17#8), .int .u8 (0), .int .u8 (0), I64 (1#64), U8 (64#8), .int .u8 (0), .int .u8 (0), .int .u8 (0), IN (0), U8 (22#8), U8 (5#8), U8 (10#8), .int .u8 (0), IN (0), U8 (q), U8 (0#8), U8 (5#8), U8 (2#8), I64 (0#64), U8 (22#8), U8 (17#8), .int .u8 (0), .int .u8 (0), I64 (3#64), U8 (64#8), .int .u8 (0), .int .u8 (0), .int .u8 (0), IN (0)] 48)) := fun _ => by kernel_rfl
theorem bls6_44yes0 (q : BitVec 64) : ∀ w : World, (Instr.buildSlice 26 1 #[(0, I64 (q))]).run Tryz.prog w = .ok (.slice (some ⟨w.heap.size, 0, none⟩) 1 1) (w.alloc (.cells #[I64 (q)] 2)) := fun _ => by kernel_rfl
theorem bls6_61yes0 (q : BitVec 64) : ∀ w : World, (Instr.buildSlice 26 1 #[(0, I64 (q))]).run Tryz.prog w = .ok (.slice (some ⟨w.heap.size, 0, none⟩) 1 1) (w.alloc (.cells #[I64 (q)] 2)) := fun _ => by kernel_rfl
theorem bls6_63yes0  : ∀ w : World, (Instr.buildSlice 63 11 #[(0, IN (1)), (1, IN (2)), (2, IN (4)), (3, IN (8)), (4, IN (1)), (5, IN (2)), (6, IN (4)), (7, IN (1)), (8, IN (2)), (9, IN (4)), (10, IN (8))]).run Tryz.prog w = .ok (.slice (some ⟨w.heap.size, 0, none⟩) 11 11) (w.alloc (.cells #[IN (1), IN (2), IN (4), IN (8), IN (1), IN (2), IN (4), IN (1), IN (2), IN (4), IN (8)] 3)) := fun _ => by kernel_rfl
open Go.Proofs.M (instV Glob)
open Go.Ux.Image
set_option maxRecDepth 100000 in
set_option maxHeartbeats 1000000 in
theorem traps_no1 (op : BitVec 8) (addr : BitVec 64) (w : World) (hG : Glob w) (hX : w.cell? ⟨3, 0, none⟩ = some (.iface 206 (.agg #[.pointer (some ⟨6, 83, none⟩)]))) (h7 : (op % 11#8).toNat < 7) (hW : whereM 64 addr (trapZ (op % 11#8).toNat) = none) : CallsR Tryz.prog 6 #[U8 (op), U64 (addr)] w (fun v w' => v = .bool true ∧ Ext w w') := by
  have hk := trap_lt op
  have hop := trap_op op
  have htr := trap_lo (op % 11#8).toNat h7
  have hlen := (trap_words (op % 11#8).toNat hk).1
  have hz := trapZ_or (op % 11#8).toNat hk
  obtain ⟨Mf, hrun, hf, hx5, hx6, hd, hn⟩ := trap_no (op % 11#8).toNat hk addr hW
  have hb1 : (Mf.fin == some true) = true := by rw [hf]; rfl
  refine callsR_of Tryz.func6 rfl rfl rfl ?_
  refine WC.seq (WC.region (WL.assign (v := .bool (false)) rfl rfl (WL.nil (WC.seq (WC.region (WL.move (v := U8 (op)) rfl rfl (WL.bin rfl (vy := U8 (11#8)) rfl rfl (BinR.remU8') (WL.bin (vx := U8 (11#8)) rfl rfl rfl (hop ▸ BinR.addU8) (WL.build (v := .agg #[U8 ((trapI (op % 11#8).toNat).op), U8 (6#8), U8 (5#8), .int .u8 (0), IN (0)]) (vs := [(0, U8 ((trapI (op % 11#8).toNat).op)), (1, U8 (6#8)), (2, U8 (5#8))]) rfl (bld6_22no1 (trapI (op % 11#8).toNat).op) rfl ?_)))))))))
  refine WL.allocStore (v := .agg #[U8 ((trapI (op % 11#8).toNat).op), U8 (6#8), U8 (5#8), .int .u8 (0), IN (0)]) zt48 rfl sz48 rfl rfl rfl rfl ?_
  intro b5 w5 n5
  have E1 : Ext w w5 := Mod.trans (Mod.refl _ _) (n5.ext)
  refine WL.nil (WC.seq (WC.seq (WC.region (WL.fieldAddr rfl fo48_0 rfl (WL.load1 rfl ag5 (n5.blk.cell (j := 0) rfl) rfl (WL.bin (v := .bool (false)) rfl (vy := U8 (18#8)) rfl rfl (BinR.toB (BinR.geqU8) ((trap_ge op).trans (decide_eq_false (by omega)))) (WL.nil (WC.condF rfl (WC.skip ?_)))))))))
  refine WC.seq (WC.region (WL.build (v := .agg #[U8 (22#8), U8 (17#8), .int .u8 (0), .int .u8 (0), I64 (1#64)]) (vs := [(0, U8 (22#8)), (1, U8 (17#8)), (4, I64 (1#64))]) rfl (bld6_29no1) rfl (WL.build (v := .agg #[U8 (64#8), .int .u8 (0), .int .u8 (0), .int .u8 (0), IN (0)]) (vs := [(0, U8 (64#8))]) rfl (bld6_30no1) rfl (WL.build (v := .agg #[U8 (22#8), U8 (5#8), U8 (10#8), .int .u8 (0), IN (0)]) (vs := [(0, U8 (22#8)), (1, U8 (5#8)), (2, U8 (10#8))]) rfl (bld6_31no1) rfl (WL.loadS [U8 ((trapI (op % 11#8).toNat).op), U8 (6#8), U8 (5#8), .int .u8 (0), IN (0)] rfl ag48 sz48 rfl (n5.blk.sub (o := 0) (vs := [U8 ((trapI (op % 11#8).toNat).op), U8 (6#8), U8 (5#8), .int .u8 (0), IN (0)]) rfl) rfl (WL.build (v := .agg #[U8 (22#8), U8 (17#8), .int .u8 (0), .int .u8 (0), I64 (3#64)]) (vs := [(0, U8 (22#8)), (1, U8 (17#8)), (4, I64 (3#64))]) rfl (bld6_33no1) rfl (WL.build (v := .agg #[U8 (64#8), .int .u8 (0), .int .u8 (0), .int .u8 (0), IN (0)]) (vs := [(0, U8 (64#8))]) rfl (bld6_34no1) rfl (WL.buildSlice (vs := [(0, .agg #[U8 (22#8), U8 (17#8), .int .u8 (0), .int .u8 (0), I64 (1#64)]), (1, .agg #[U8 (64#8), .int .u8 (0), .int .u8 (0), .int .u8 (0), IN (0)]), (2, .agg #[U8 (22#8), U8 (5#8), U8 (10#8), .int .u8 (0), IN (0)]), (3, .agg #[U8 ((trapI (op % 11#8).toNat).op), U8 (6#8), U8 (5#8), .int .u8 (0), IN (0)]), (4, .agg #[U8 (22#8), U8 (17#8), .int .u8 (0), .int .u8 (0), I64 (3#64)]), (5, .agg #[U8 (64#8), .int .u8 (0), .int .u8 (0), .int .u8 (0), IN (0)])]) rfl (bls6_35no1 (trapI (op % 11#8).toNat).op) rfl ?_))))))))
  intro b35 w35 n35
  have E2 : Ext w w35 := Mod.trans (E1) (n35.ext)
  refine WL.assign (v := .slice (some ⟨b35, 0, none⟩) 6 6) rfl rfl (WL.nil (WC.seq (WC.region (WL.move (v := .slice (some ⟨b35, 0, none⟩) 6 6) rfl rfl ?_))))
  have hS37 : Sl w35 (.slice (some ⟨b35, 0, none⟩) 6 6) 5 (trapL (op % 11#8).toNat).length (instCells (trapL (op % 11#8).toNat)) := by rw [trap_cells (op % 11#8).toNat _ htr]; exact Go.Proofs.M.Sl.ofCells (n := 6) (n35.blk).cells rfl
  refine WL.call ca19 (rfl) rfl (code_spec _ (trapL (op % 11#8).toNat) _ (hG.ext (E2)) hS37 (by show 6 ≤ _; decide)) ?_
  rintro v37 w37 ⟨o37, f37, e37⟩
  obtain ⟨g37, c37, rfl, hle37, hcl37⟩ := o37.at (by rw [hlen]; decide)
  have E3 : Ext w w37 := Mod.trans (E2) (e37)
  refine WL.assign (v := .slice (some ⟨g37, 0, none⟩) (codeW (trapL (op % 11#8).toNat)).length c37) rfl rfl (WL.nil (WC.seq (WC.region (WL.move (v := .slice (some ⟨g37, 0, none⟩) (codeW (trapL (op % 11#8).toNat)).length c37) rfl rfl (WL.call ca20 (rfl) rfl (whole_spec (some ⟨g37, 0, none⟩) (codeW (trapL (op % 11#8).toNat)).length c37 64 _) ?_)))))
  rintro _ w39 ⟨p, rfl, hsy, e39⟩
  have E4 : Ext w w39 := Mod.trans (E3) (e39)
  have O5 := (o37).ext (e39)
  refine WL.allocStore (v := .agg #[.int .i64 (64), .slice (some ⟨p, 0, none⟩) 1 1, .slice (some ⟨g37, 0, none⟩) (codeW (trapL (op % 11#8).toNat)).length c37]) zt25 rfl sz25 rfl rfl (ones3 rfl (hsy).one ((O5).sl).one) rfl ?_
  intro b8 w8 n8
  have E6 : Ext w w8 := Mod.trans (E4) (n8.ext)
  refine WL.nil (WC.seq (WC.region (WL.loadS [.int .i64 (64), .slice (some ⟨p, 0, none⟩) 1 1, .slice (some ⟨g37, 0, none⟩) (codeW (trapL (op % 11#8).toNat)).length c37] rfl ag25 sz25 rfl (n8.blk.sub (o := 0) (vs := [.int .i64 (64), .slice (some ⟨p, 0, none⟩) 1 1, .slice (some ⟨g37, 0, none⟩) (codeW (trapL (op % 11#8).toNat)).length c37]) rfl) rfl (WL.move (v := U64 (addr)) rfl rfl (WL.conv rfl rfl (ConvR.u64i64 Tryz.underlying39 Tryz.underlying2) (WL.buildSlice (vs := [(0, I64 (addr))]) rfl (bls6_44no1 addr) rfl ?_))))))
  intro b44 w44 n44
  have E7 : Ext w w44 := Mod.trans (E6) (n44.ext)
  have S8 := ((hsy).ext' (n8.ext)).ext' (n44.ext)
  have O9 := ((O5).ext (n8.ext)).ext (n44.ext)
  refine WL.call ca10 (rfl) rfl (new_ok (trapImg (op % 11#8).toNat) _ _ (.slice (some ⟨b44, 0, none⟩) 1 1) [addr] _ (⟨S8, (O9).sl, by show 1 ≤ _; decide, by show (codeW (trapL (op % 11#8).toNat)).length ≤ _; omega⟩ : Rep w44 (.slice (some ⟨p, 0, none⟩) 1 1) (.slice (some ⟨g37, 0, none⟩) (codeW (trapL (op % 11#8).toNat)).length c37) (trapImg (op % 11#8).toNat)) (trap_syms _) (hG.ext (E7)) (glob_size (hG.ext (E7))) (Sl.of1 (n44.blk).cells rfl) (.inr ⟨_, _, rfl⟩) (by show 1 ≤ _; decide) (trap_right _ hk)) ?_
  rintro _ wna ⟨Ta, ba, rfl, hMa, hTa, ena⟩
  have hFa : ∀ k, Ta k ≠ 0 → w.heap.size ≤ k := fun k h => Nat.le_trans (Mod.size (E7)) (hTa k h)
  have E10 : Ext w wna := Mod.trans (E7) (ena)
  refine WL.move (v := .tuple #[ptr ba 0, IN 0]) rfl rfl (WL.extract rfl rfl rfl (WL.extract rfl rfl rfl (WL.assign (v := ptr ba 0) rfl rfl (WL.assign (v := IN (0)) rfl rfl (WL.nil (WC.seq (WC.seq (WC.region (WL.move (v := .slice (some ⟨g37, 0, none⟩) (codeW (trapL (op % 11#8).toNat)).length c37) rfl rfl ?_)))))))))
  have O11 := (O9).ext (ena)
  refine WL.lenSl (sz := 1) (m := (codeW (trapL (op % 11#8).toNat)).length) (xs := wordCells (codeW (trapL (op % 11#8).toNat))) el23 rfl ((O11).sl) rfl (WL.move (v := .slice (some ⟨b35, 0, none⟩) 6 6) rfl rfl (WL.lenS el49 rfl rfl (WL.bin (v := .bool (false)) rfl rfl rfl (BinR.toB (BinR.neq) (by rw [hlen]; rfl)) (WL.move (v := .bool (false)) rfl rfl (WL.guardT (rfl) (WL.move (v := IN (0)) rfl rfl (WL.guardT (rfl) (WL.bin (v := .bool (false)) rfl rfl rfl (BinR.toB (BinR.neq) (rfl)) (WL.pick (b := false) rfl rfl rfl ?_)))))))))
  refine WL.nil (WC.condF rfl (WC.skip (WC.seq (WC.region ?_))))
  have B12 := ((n8.blk).ext (n44.ext)).ext (ena)
  refine WL.loadS [.int .i64 (64), .slice (some ⟨p, 0, none⟩) 1 1, .slice (some ⟨g37, 0, none⟩) (codeW (trapL (op % 11#8).toNat)).length c37] rfl ag25 sz25 rfl (B12.sub (o := 0) (vs := [.int .i64 (64), .slice (some ⟨p, 0, none⟩) 1 1, .slice (some ⟨g37, 0, none⟩) (codeW (trapL (op % 11#8).toNat)).length c37]) rfl) rfl ?_
  have S13 := (S8).ext' (ena)
  refine WL.call ca23 (rfl) rfl (Go.Proofs.R.plain_spec _ _ (trapImg (op % 11#8).toNat) _ (⟨S13, (O11).sl, by show 1 ≤ _; decide, by show (codeW (trapL (op % 11#8).toNat)).length ≤ _; omega⟩ : Rep wna (.slice (some ⟨p, 0, none⟩) 1 1) (.slice (some ⟨g37, 0, none⟩) (codeW (trapL (op % 11#8).toNat)).length c37) (trapImg (op % 11#8).toNat))) ?_
  rintro _ w58 ⟨u58, rfl, hu58, fu58, e58⟩
  have hu58 := hu58.sl.one
  have R14 : Ext wna w58 := Mod.trans (Mod.refl _ _) (e58)
  have E15 : Ext w w58 := Mod.trans (E10) (e58)
  refine WL.move (v := U64 (addr)) rfl rfl (WL.conv rfl rfl (ConvR.u64i64 Tryz.underlying39 Tryz.underlying2) (WL.buildSlice (vs := [(0, I64 (addr))]) rfl (bls6_61no1 addr) rfl ?_))
  intro b61 w61 n61
  have R16 : Ext wna w61 := Mod.trans (R14) (n61.ext)
  have E17 : Ext w w61 := Mod.trans (E15) (n61.ext)
  have O18 := ((O11).ext (e58)).ext (n61.ext)
  refine WL.call ca22 (rfl) rfl (rnew u58 _ (.slice (some ⟨b61, 0, none⟩) 1 1) (trapImg (op % 11#8).toNat) [addr] _ (O18).sl (by show (codeW (trapL (op % 11#8).toNat)).length ≤ _; omega) (Sl.of1 (n61.blk).cells rfl) (by show 1 ≤ _; decide) (by show (0 : Int) ≤ 64; decide) (by show (64 : Int) ≤ 524288; decide) hu58) ?_
  rintro _ w62 ⟨b62, cv, dv, sv, iv, rfl, hB62, hcv, hdv, hsv, hiv, e62⟩
  have R19 : Ext wna w62 := Mod.trans (R16) (e62)
  have E20 : Ext w w62 := Mod.trans (E17) (e62)
  refine WL.assign (v := ptr b62 0) rfl rfl (WL.nil (WC.seq (WC.region (WL.buildSlice (vs := [(0, IN (1)), (1, IN (2)), (2, IN (4)), (3, IN (8)), (4, IN (1)), (5, IN (2)), (6, IN (4)), (7, IN (1)), (8, IN (2)), (9, IN (4)), (10, IN (8))]) rfl (bls6_63no1) rfl ?_))))
  intro b63 w63 n63
  have R21 : Ext wna w63 := Mod.trans (R19) (n63.ext)
  have E22 : Ext w w63 := Mod.trans (E20) (n63.ext)
  refine WL.move (v := U8 (op)) rfl rfl (WL.bin rfl (vy := U8 (11#8)) rfl rfl (BinR.remU8') (WL.indexAddr (i := (op % 11#8).toNat) (b := b63) (o := 0) el63 sz3 rfl rfl hk rfl (WL.load1 rfl ag3 ((n63.blk).cell (j := 0 + (op % 11#8).toNat * 1) (trapZ_cell _ hk)) rfl (WL.assign (v := IN ((trapZ (op % 11#8).toNat))) rfl rfl (WL.nil (WC.seq (WC.region (WL.move (v := ptr b62 0) rfl rfl (WL.move (v := U64 (addr)) rfl rfl ?_)))))))))
  refine WL.move (v := IN ((trapZ (op % 11#8).toNat))) rfl rfl ?_
  have B23 := (hB62).ext (n63.ext)
  have O24 := (hdv).ext (n63.ext)
  have O25 := (hsv).ext (n63.ext)
  refine WL.call ca24 (rfl) rfl (load_r0 addr (trapZ (op % 11#8).toNat) b62 cv dv sv iv _ _ _ _ _ _ 64 _ (fun _ => 0#8) _ B23 (O24).sl (by decide) hz (whereR_none hz hW)) ?_
  rintro _ w72 ⟨rfl, e72⟩
  have R26 : Ext wna w72 := Mod.trans (R21) (e72)
  have E27 : Ext w w72 := Mod.trans (E22) (e72)
  refine WL.move (v := .tuple #[U64 (0#64), .bool false]) rfl rfl (WL.extract rfl rfl rfl (WL.extract rfl rfl rfl (WL.assign (v := U64 (0#64)) rfl rfl (WL.assign (v := .bool (false)) rfl rfl (WL.nil (WC.seq (WC.region (WL.move (v := ptr ba 0) rfl rfl (WL.call ca11 (rfl) rfl (run_specN Ta ba (newM (trapImg (op % 11#8).toNat) [addr]) _ (hMa.ext (R26)) 100 (by omega) ((newM_code (by show (codeW (trapL (op % 11#8).toNat)).length ≤ _; omega))) (hG.ext (E27)) (Mod.cell (E27) hX (fun h => h)) (by show (0 : Nat) ≤ _; omega)) ?_)))))))))
  rintro v76 wR76 ⟨hv76, TR76, hMR76, mR76, hsR76⟩
  rw [hrun] at hv76 hMR76
  have hMR76 : MR TR76 wR76 ba Mf := hMR76
  obtain rfl : v76 = IN (4) := hv76
  have hFQ28 := floor_turn hFa hsR76 (Mod.size (E27))
  have EMQ29 : Ext w wR76 := Mod.then (E27) mR76 (fun i hi e => absurd (hFa i e) (Nat.not_le_of_lt hi))
  refine WL.assign (v := IN (4)) rfl rfl (WL.nil (WC.seq (WC.seq (WC.region (WL.move (v := ptr ba 0) rfl rfl (WL.call ca16 (rfl) rfl (trapped_m TR76 ba Mf _ hMR76 (Mod.cell (EMQ29) hX (fun h => h))) ?_))))))
  rintro _ wg78 ⟨rfl, eg78⟩
  rw [hb1]
  have E30 : Ext w wg78 := Mod.trans (EMQ29) (eg78)
  have hQ31 := (hMR76).ext eg78
  refine WL.move (v := .bool (false)) rfl rfl (WL.bin (v := .bool (false)) rfl rfl rfl (BinR.toB (BinR.eqlB Tryz.underlying4) (rfl)) (WL.move (v := .bool (false)) rfl rfl (WL.guardT (rfl) (WL.move (v := .bool (false)) rfl rfl (WL.guardT (rfl) (WL.move (v := .bool (false)) rfl rfl (WL.guardF (b' := false) (rfl) rfl rfl (WL.guardF (b' := false) (rfl) rfl rfl (WL.guardT (rfl) ?_)))))))))
  refine WL.pick (b := false) rfl rfl rfl (WL.pick (b := false) rfl rfl rfl (WL.move (v := .bool (false)) rfl rfl (WL.guardT (rfl) (WL.move (v := .bool (false)) rfl rfl (WL.guardT (rfl) (WL.un rfl rfl UnR.not (WL.guardT (rfl) (WL.move (v := .bool (true)) rfl rfl (WL.guardT (rfl) ?_)))))))))
  refine WL.move (v := IN (4)) rfl rfl (WL.guardT (rfl) (WL.bin (v := .bool (false)) rfl rfl rfl (BinR.toB (BinR.neq) (rfl)) (WL.guardT (rfl) (WL.pick (b := true) rfl rfl rfl (WL.pick (b := false) rfl rfl rfl (WL.move (v := .bool (false)) rfl rfl (WL.guardT (rfl) (WL.move (v := ptr ba 0) rfl rfl (WL.guardT (rfl) ?_)))))))))
  refine WL.call ca17 (rfl) rfl (reg_spec TR76 ba Mf _ hQ31 5 (by decide)) ?_
  rintro _ wg98 ⟨rfl, eg98⟩
  rw [hx5]
  have E32 : Ext w wg98 := Mod.trans (E30) (eg98)
  have hQ33 := (hQ31).ext eg98
  refine WL.guardT (rfl) (WL.move (v := U64 (addr)) rfl rfl (WL.guardT (rfl) (WL.bin (v := .bool (false)) rfl rfl rfl (BinR.toB (BinR.neqU64) (bne_self_eq_false _)) (WL.pick (b := false) rfl rfl rfl (WL.move (v := .bool (false)) rfl rfl (WL.guardT (rfl) (WL.move (v := .bool (false)) rfl rfl (WL.guardT (rfl) (WL.un rfl rfl UnR.not ?_)))))))))
  refine WL.guardT (rfl) (WL.move (v := .bool (true)) rfl rfl (WL.guardT (rfl) (WL.move (v := ptr ba 0) rfl rfl (WL.guardT (rfl) (WL.call ca17 (rfl) rfl (reg_spec TR76 ba Mf _ hQ33 6 (by decide)) ?_)))))
  rintro _ wg107 ⟨rfl, eg107⟩
  rw [hx6]
  have E34 : Ext w wg107 := Mod.trans (E32) (eg107)
  have hQ35 := (hQ33).ext eg107
  refine WL.guardT (rfl) (WL.bin (v := .bool (false)) rfl (vy := U64 (0#64)) rfl rfl (BinR.toB (BinR.neqU64) (bne_self_eq_false _)) (WL.guardT (rfl) (WL.pick (b := true) rfl rfl rfl (WL.pick (b := false) rfl rfl rfl (WL.nil (WC.condF rfl (WC.skip (WC.seq (WC.seq ?_)))))))))
  refine WC.region (WL.assign (v := U64 (0#64)) rfl rfl (WL.nil (WC.block ?_)))
  refine WC.loop (fun k f w_ => ∃ j, (k + j = 8) ∧ (j ≤ 8) ∧ f 9 = ptr ba 0 ∧ f 14 = .bool (false) ∧ f 16 = U64 ((BitVec.ofNat 64 (8 * j))) ∧ (MR TR76 w_ ba Mf) ∧ (Ext w w_)) (8) ?_ ?_
  · exact ⟨(0), by omega, by omega, rfl, rfl, rfl, hQ35, E34⟩
  rintro ka f1 wr ⟨j, hk8, hj8, h9_1, h14_1, h16_1, hLa, hE⟩
  refine WC.seq (WC.seq (WC.region (WL.move (v := U64 ((BitVec.ofNat 64 (8 * j)))) h16_1 rfl (WL.bin (v := .bool (decide (j < 8))) rfl (vy := U64 (64#64)) rfl rfl (BinR.toB (BinR.lssU64) (ult8 hj8)) (WL.move (v := .bool (decide (j < 8))) rfl rfl ?_)))))
  rcases Bool.eq_false_or_eq_true (decide (j < 8)) with hg113 | hg113
  · have hj : j < 8 := of_decide_eq_true hg113
    refine WL.guardT (yf_bool rfl rfl hg113) (WL.move (v := .bool (false)) h14_1 rfl (WL.guardT (yf_bool rfl rfl hg113) (WL.un rfl rfl UnR.not (WL.pick (b := true) (congrArg Value.bool hg113) rfl rfl (WL.nil (WC.condT rfl (WC.skip (WC.seq (WC.block ?_)))))))))
    refine WC.seq (WC.region (WL.move (v := ptr ba 0) h9_1 rfl (WL.move (v := U64 ((BitVec.ofNat 64 (8 * j)))) h16_1 rfl (WL.bin (vx := U64 (4194304#64)) rfl rfl rfl (BinR.addU64) (WL.call ca21 (rfl) rfl (peek_ok TR76 ba Mf _ hLa (4194304#64 + BitVec.ofNat 64 (8 * j)) true (8 * j) (by rw [hn]; exact where_peek hj)) ?_)))))
    rintro _ wp ⟨rfl, ep⟩
    rw [hd, loadV_zero]
    have E37 : Ext w wp := Mod.trans (hE) (ep)
    have hQ38 := (hLa).ext ep
    refine WL.move (v := .tuple #[U64 0#64, .bool true]) rfl rfl (WL.extract rfl rfl rfl (WL.extract rfl rfl rfl (WL.assign (v := U64 (0#64)) rfl rfl (WL.assign (v := .bool (true)) rfl rfl (WL.nil (WC.seq (WC.region (WL.move (v := .bool (true)) rfl rfl (WL.un rfl rfl UnR.not ?_)))))))))
    refine WL.move (v := .bool (false)) rfl rfl (WL.guardT (rfl) (WL.move (v := U64 (0#64)) rfl rfl (WL.guardT (rfl) (WL.bin (v := .bool (false)) rfl (vy := U64 (0#64)) rfl rfl (BinR.toB (BinR.neqU64) (bne_self_eq_false _)) (WL.pick (b := false) rfl rfl rfl (WL.nil (WC.condF rfl (WC.skip (WC.region ?_)))))))))
    refine WL.move (v := U64 ((BitVec.ofNat 64 (8 * j)))) h16_1 rfl (WL.bin rfl (vy := U64 (8#64)) rfl rfl ((ofNat_step j) ▸ BinR.addU64) (WL.assign (v := U64 ((BitVec.ofNat 64 (8 * (j + 1))))) rfl rfl (WL.nil ?_)))
    exact ⟨ka - 1, by omega, (j + 1), by omega, by omega, h9_1, h14_1, rfl, hQ38, E37⟩
  · refine WL.guardF (b' := false) (yf_bool rfl rfl hg113) rfl rfl (WL.guardF (b' := false) (yf_bool rfl rfl hg113) rfl rfl (WL.pick (b := false) (congrArg Value.bool hg113) rfl rfl (WL.nil (WC.condF rfl (WC.exit (WC.seq (WC.region (WL.call ca9 (rfl) rfl (works_spec _ (hG.ext (hE)) (Mod.cell (hE) hX (fun h => h))) ?_))))))))
    rintro _ wk132 ⟨rfl, ek132⟩
    have E40 : Ext w wk132 := Mod.trans (hE) (ek132)
    refine WL.assign (v := .bool (true)) rfl rfl (WL.nil (WC.ret ?_))
    exact ⟨_, Res.one (v := .bool (true)) rfl rfl, rfl, E40⟩
set_option maxRecDepth 100000 in
set_option maxHeartbeats 1000000 in
theorem traps_no0 (op : BitVec 8) (addr : BitVec 64) (w : World) (hG : Glob w) (hX : w.cell? ⟨3, 0, none⟩ = some (.iface 206 (.agg #[.pointer (some ⟨6, 83, none⟩)]))) (h7 : ¬ (op % 11#8).toNat < 7) (hW : whereM 64 addr (trapZ (op % 11#8).toNat) = none) : CallsR Tryz.prog 6 #[U8 (op), U64 (addr)] w (fun v w' => v = .bool true ∧ Ext w w') := by
  have hk := trap_lt op
  have hop := trap_op op
  have htr := trap_hi (op % 11#8).toNat h7
  have hlen := (trap_words (op % 11#8).toNat hk).1
  have hz := trapZ_or (op % 11#8).toNat hk
  obtain ⟨Mf, hrun, hf, hx5, hx6, hd, hn⟩ := trap_no (op % 11#8).toNat hk addr hW
  have hb1 : (Mf.fin == some true) = true := by rw [hf]; rfl
  refine callsR_of Tryz.func6 rfl rfl rfl ?_
  refine WC.seq (WC.region (WL.assign (v := .bool (false)) rfl rfl (WL.nil (WC.seq (WC.region (WL.move (v := U8 (op)) rfl rfl (WL.bin rfl (vy := U8 (11#8)) rfl rfl (BinR.remU8') (WL.bin (vx := U8 (11#8)) rfl rfl rfl (hop ▸ BinR.addU8) (WL.build (v := .agg #[U8 ((trapI (op % 11#8).toNat).op), U8 (6#8), U8 (5#8), .int .u8 (0), IN (0)]) (vs := [(0, U8 ((trapI (op % 11#8).toNat).op)), (1, U8 (6#8)), (2, U8 (5#8))]) rfl (bld6_22no0 (trapI (op % 11#8).toNat).op) rfl ?_)))))))))
  refine WL.allocStore (v := .agg #[U8 ((trapI (op % 11#8).toNat).op), U8 (6#8), U8 (5#8), .int .u8 (0), IN (0)]) zt48 rfl sz48 rfl rfl rfl rfl ?_
  intro b5 w5 n5
  have E1 : Ext w w5 := Mod.trans (Mod.refl _ _) (n5.ext)
  refine WL.nil (WC.seq (WC.seq (WC.region (WL.fieldAddr rfl fo48_0 rfl (WL.load1 rfl ag5 (n5.blk.cell (j := 0) rfl) rfl (WL.bin (v := .bool (true)) rfl (vy := U8 (18#8)) rfl rfl (BinR.toB (BinR.geqU8) ((trap_ge op).trans (decide_eq_true (by omega)))) (WL.nil (WC.condT rfl (WC.region ?_)))))))))
  refine WL.fieldAddr rfl fo48_0 rfl (WL.load1 rfl ag5 (n5.blk.cell (j := 0) rfl) rfl (WL.build (v := .agg #[U8 ((trapI (op % 11#8).toNat).op), .int .u8 (0), U8 (5#8), U8 (2#8), IN (0)]) (vs := [(0, U8 ((trapI (op % 11#8).toNat).op)), (2, U8 (5#8)), (3, U8 (2#8))]) rfl (bld6_28no0 (trapI (op % 11#8).toNat).op) rfl (WL.storeS (v := .agg #[U8 ((trapI (op % 11#8).toNat).op), .int .u8 (0), U8 (5#8), U8 (2#8), IN (0)]) rfl rfl n5.blk rfl sz48 rfl rfl ?_)))
  intro ws2 ms2 bs2 zs2
  have E2 : Ext w ws2 := Mod.own (Mod.refl _ _) n5 (E1) (ms2)
  refine WL.nil (WC.seq (WC.region (WL.build (v := .agg #[U8 (22#8), U8 (17#8), .int .u8 (0), .int .u8 (0), I64 (1#64)]) (vs := [(0, U8 (22#8)), (1, U8 (17#8)), (4, I64 (1#64))]) rfl (bld6_29no0) rfl (WL.build (v := .agg #[U8 (64#8), .int .u8 (0), .int .u8 (0), .int .u8 (0), IN (0)]) (vs := [(0, U8 (64#8))]) rfl (bld6_30no0) rfl (WL.build (v := .agg #[U8 (22#8), U8 (5#8), U8 (10#8), .int .u8 (0), IN (0)]) (vs := [(0, U8 (22#8)), (1, U8 (5#8)), (2, U8 (10#8))]) rfl (bld6_31no0) rfl (WL.loadS [U8 ((trapI (op % 11#8).toNat).op), .int .u8 (0), U8 (5#8), U8 (2#8), IN (0)] rfl ag48 sz48 rfl (bs2.sub (o := 0) (vs := [U8 ((trapI (op % 11#8).toNat).op), .int .u8 (0), U8 (5#8), U8 (2#8), IN (0)]) rfl) rfl (WL.build (v := .agg #[U8 (22#8), U8 (17#8), .int .u8 (0), .int .u8 (0), I64 (3#64)]) (vs := [(0, U8 (22#8)), (1, U8 (17#8)), (4, I64 (3#64))]) rfl (bld6_33no0) rfl (WL.build (v := .agg #[U8 (64#8), .int .u8 (0), .int .u8 (0), .int .u8 (0), IN (0)]) (vs := [(0, U8 (64#8))]) rfl (bld6_34no0) rfl (WL.buildSlice (vs := [(0, .agg #[U8 (22#8), U8 (17#8), .int .u8 (0), .int .u8 (0), I64 (1#64)]), (1, .agg #[U8 (64#8), .int .u8 (0), .int .u8 (0), .int .u8 (0), IN (0)]), (2, .agg #[U8 (22#8), U8 (5#8), U8 (10#8), .int .u8 (0), IN (0)]), (3, .agg #[U8 ((trapI (op % 11#8).toNat).op), .int .u8 (0), U8 (5#8), U8 (2#8), IN (0)]), (4, .agg #[U8 (22#8), U8 (17#8), .int .u8 (0), .int .u8 (0), I64 (3#64)]), (5, .agg #[U8 (64#8), .int .u8 (0), .int .u8 (0), .int .u8 (0), IN (0)])]) rfl (bls6_35no0 (trapI (op % 11#8).toNat).op) rfl ?_)))))))))
  intro b35 w35 n35
  have E3 : Ext w w35 := Mod.trans (E2) (n35.ext)
  refine WL.assign (v := .slice (some ⟨b35, 0, none⟩) 6 6) rfl rfl (WL.nil (WC.seq (WC.region (WL.move (v := .slice (some ⟨b35, 0, none⟩) 6 6) rfl rfl ?_))))
  have hS37 : Sl w35 (.slice (some ⟨b35, 0, none⟩) 6 6) 5 (trapL (op % 11#8).toNat).length (instCells (trapL (op % 11#8).toNat)) := by rw [trap_cells (op % 11#8).toNat _ htr]; exact Go.Proofs.M.Sl.ofCells (n := 6) (n35.blk).cells rfl
  refine WL.call ca19 (rfl) rfl (code_spec _ (trapL (op % 11#8).toNat) _ (hG.ext (E3)) hS37 (by show 6 ≤ _; decide)) ?_
  rintro v37 w37 ⟨o37, f37, e37⟩
  obtain ⟨g37, c37, rfl, hle37, hcl37⟩ := o37.at (by rw [hlen]; decide)
  have E4 : Ext w w37 := Mod.trans (E3) (e37)
  refine WL.assign (v := .slice (some ⟨g37, 0, none⟩) (codeW (trapL (op % 11#8).toNat)).length c37) rfl rfl (WL.nil (WC.seq (WC.region (WL.move (v := .slice (some ⟨g37, 0, none⟩) (codeW (trapL (op % 11#8).toNat)).length c37) rfl rfl (WL.call ca20 (rfl) rfl (whole_spec (some ⟨g37, 0, none⟩) (codeW (trapL (op % 11#8).toNat)).length c37 64 _) ?_)))))
  rintro _ w39 ⟨p, rfl, hsy, e39⟩
  have E5 : Ext w w39 := Mod.trans (E4) (e39)
  have O6 := (o37).ext (e39)
  refine WL.allocStore (v := .agg #[.int .i64 (64), .slice (some ⟨p, 0, none⟩) 1 1, .slice (some ⟨g37, 0, none⟩) (codeW (trapL (op % 11#8).toNat)).length c37]) zt25 rfl sz25 rfl rfl (ones3 rfl (hsy).one ((O6).sl).one) rfl ?_
  intro b8 w8 n8
  have E7 : Ext w w8 := Mod.trans (E5) (n8.ext)
  refine WL.nil (WC.seq (WC.region (WL.loadS [.int .i64 (64), .slice (some ⟨p, 0, none⟩) 1 1, .slice (some ⟨g37, 0, none⟩) (codeW (trapL (op % 11#8).toNat)).length c37] rfl ag25 sz25 rfl (n8.blk.sub (o := 0) (vs := [.int .i64 (64), .slice (some ⟨p, 0, none⟩) 1 1, .slice (some ⟨g37, 0, none⟩) (codeW (trapL (op % 11#8).toNat)).length c37]) rfl) rfl (WL.move (v := U64 (addr)) rfl rfl (WL.conv rfl rfl (ConvR.u64i64 Tryz.underlying39 Tryz.underlying2) (WL.buildSlice (vs := [(0, I64 (addr))]) rfl (bls6_44no0 addr) rfl ?_))))))
  intro b44 w44 n44
  have E8 : Ext w w44 := Mod.trans (E7) (n44.ext)
  have S9 := ((hsy).ext' (n8.ext)).ext' (n44.ext)
  have O10 := ((O6).ext (n8.ext)).ext (n44.ext)
  refine WL.call ca10 (rfl) rfl (new_ok (trapImg (op % 11#8).toNat) _ _ (.slice (some ⟨b44, 0, none⟩) 1 1) [addr] _ (⟨S9, (O10).sl, by show 1 ≤ _; decide, by show (codeW (trapL (op % 11#8).toNat)).length ≤ _; omega⟩ : Rep w44 (.slice (some ⟨p, 0, none⟩) 1 1) (.slice (some ⟨g37, 0, none⟩) (codeW (trapL (op % 11#8).toNat)).length c37) (trapImg (op % 11#8).toNat)) (trap_syms _) (hG.ext (E8)) (glob_size (hG.ext (E8))) (Sl.of1 (n44.blk).cells rfl) (.inr ⟨_, _, rfl⟩) (by show 1 ≤ _; decide) (trap_right _ hk)) ?_
  rintro _ wna ⟨Ta, ba, rfl, hMa, hTa, ena⟩
  have hFa : ∀ k, Ta k ≠ 0 → w.heap.size ≤ k := fun k h => Nat.le_trans (Mod.size (E8)) (hTa k h)
  have E11 : Ext w wna := Mod.trans (E8) (ena)
  refine WL.move (v := .tuple #[ptr ba 0, IN 0]) rfl rfl (WL.extract rfl rfl rfl (WL.extract rfl rfl rfl (WL.assign (v := ptr ba 0) rfl rfl (WL.assign (v := IN (0)) rfl rfl (WL.nil (WC.seq (WC.seq (WC.region (WL.move (v := .slice (some ⟨g37, 0, none⟩) (codeW (trapL (op % 11#8).toNat)).length c37) rfl rfl ?_)))))))))
  have O12 := (O10).ext (ena)
  refine WL.lenSl (sz := 1) (m := (codeW (trapL (op % 11#8).toNat)).length) (xs := wordCells (codeW (trapL (op % 11#8).toNat))) el23 rfl ((O12).sl) rfl (WL.move (v := .slice (some ⟨b35, 0, none⟩) 6 6) rfl rfl (WL.lenS el49 rfl rfl (WL.bin (v := .bool (false)) rfl rfl rfl (BinR.toB (BinR.neq) (by rw [hlen]; rfl)) (WL.move (v := .bool (false)) rfl rfl (WL.guardT (rfl) (WL.move (v := IN (0)) rfl rfl (WL.guardT (rfl) (WL.bin (v := .bool (false)) rfl rfl rfl (BinR.toB (BinR.neq) (rfl)) (WL.pick (b := false) rfl rfl rfl ?_)))))))))
  refine WL.nil (WC.condF rfl (WC.skip (WC.seq (WC.region ?_))))
  have B13 := ((n8.blk).ext (n44.ext)).ext (ena)
  refine WL.loadS [.int .i64 (64), .slice (some ⟨p, 0, none⟩) 1 1, .slice (some ⟨g37, 0, none⟩) (codeW (trapL (op % 11#8).toNat)).length c37] rfl ag25 sz25 rfl (B13.sub (o := 0) (vs := [.int .i64 (64), .slice (some ⟨p, 0, none⟩) 1 1, .slice (some ⟨g37, 0, none⟩) (codeW (trapL (op % 11#8).toNat)).length c37]) rfl) rfl ?_
  have S14 := (S9).ext' (ena)
  refine WL.call ca23 (rfl) rfl (Go.Proofs.R.plain_spec _ _ (trapImg (op % 11#8).toNat) _ (⟨S14, (O12).sl, by show 1 ≤ _; decide, by show (codeW (trapL (op % 11#8).toNat)).length ≤ _; omega⟩ : Rep wna (.slice (some ⟨p, 0, none⟩) 1 1) (.slice (some ⟨g37, 0, none⟩) (codeW (trapL (op % 11#8).toNat)).length c37) (trapImg (op % 11#8).toNat))) ?_
  rintro _ w58 ⟨u58, rfl, hu58, fu58, e58⟩
  have hu58 := hu58.sl.one
  have R15 : Ext wna w58 := Mod.trans (Mod.refl _ _) (e58)
  have E16 : Ext w w58 := Mod.trans (E11) (e58)
  refine WL.move (v := U64 (addr)) rfl rfl (WL.conv rfl rfl (ConvR.u64i64 Tryz.underlying39 Tryz.underlying2) (WL.buildSlice (vs := [(0, I64 (addr))]) rfl (bls6_61no0 addr) rfl ?_))
  intro b61 w61 n61
  have R17 : Ext wna w61 := Mod.trans (R15) (n61.ext)
  have E18 : Ext w w61 := Mod.trans (E16) (n61.ext)
  have O19 := ((O12).ext (e58)).ext (n61.ext)
  refine WL.call ca22 (rfl) rfl (rnew u58 _ (.slice (some ⟨b61, 0, none⟩) 1 1) (trapImg (op % 11#8).toNat) [addr] _ (O19).sl (by show (codeW (trapL (op % 11#8).toNat)).length ≤ _; omega) (Sl.of1 (n61.blk).cells rfl) (by show 1 ≤ _; decide) (by show (0 : Int) ≤ 64; decide) (by show (64 : Int) ≤ 524288; decide) hu58) ?_
  rintro _ w62 ⟨b62, cv, dv, sv, iv, rfl, hB62, hcv, hdv, hsv, hiv, e62⟩
  have R20 : Ext wna w62 := Mod.trans (R17) (e62)
  have E21 : Ext w w62 := Mod.trans (E18) (e62)
  refine WL.assign (v := ptr b62 0) rfl rfl (WL.nil (WC.seq (WC.region (WL.buildSlice (vs := [(0, IN (1)), (1, IN (2)), (2, IN (4)), (3, IN (8)), (4, IN (1)), (5, IN (2)), (6, IN (4)), (7, IN (1)), (8, IN (2)), (9, IN (4)), (10, IN (8))]) rfl (bls6_63no0) rfl ?_))))
  intro b63 w63 n63
  have R22 : Ext wna w63 := Mod.trans (R20) (n63.ext)
  have E23 : Ext w w63 := Mod.trans (E21) (n63.ext)
  refine WL.move (v := U8 (op)) rfl rfl (WL.bin rfl (vy := U8 (11#8)) rfl rfl (BinR.remU8') (WL.indexAddr (i := (op % 11#8).toNat) (b := b63) (o := 0) el63 sz3 rfl rfl hk rfl (WL.load1 rfl ag3 ((n63.blk).cell (j := 0 + (op % 11#8).toNat * 1) (trapZ_cell _ hk)) rfl (WL.assign (v := IN ((trapZ (op % 11#8).toNat))) rfl rfl (WL.nil (WC.seq (WC.region (WL.move (v := ptr b62 0) rfl rfl (WL.move (v := U64 (addr)) rfl rfl ?_)))))))))
  refine WL.move (v := IN ((trapZ (op % 11#8).toNat))) rfl rfl ?_
  have B24 := (hB62).ext (n63.ext)
  have O25 := (hdv).ext (n63.ext)
  have O26 := (hsv).ext (n63.ext)
  refine WL.call ca24 (rfl) rfl (load_r0 addr (trapZ (op % 11#8).toNat) b62 cv dv sv iv _ _ _ _ _ _ 64 _ (fun _ => 0#8) _ B24 (O25).sl (by decide) hz (whereR_none hz hW)) ?_
  rintro _ w72 ⟨rfl, e72⟩
  have R27 : Ext wna w72 := Mod.trans (R22) (e72)
  have E28 : Ext w w72 := Mod.trans (E23) (e72)
  refine WL.move (v := .tuple #[U64 (0#64), .bool false]) rfl rfl (WL.extract rfl rfl rfl (WL.extract rfl rfl rfl (WL.assign (v := U64 (0#64)) rfl rfl (WL.assign (v := .bool (false)) rfl rfl (WL.nil (WC.seq (WC.region (WL.move (v := ptr ba 0) rfl rfl (WL.call ca11 (rfl) rfl (run_specN Ta ba (newM (trapImg (op % 11#8).toNat) [addr]) _ (hMa.ext (R27)) 100 (by omega) ((newM_code (by show (codeW (trapL (op % 11#8).toNat)).length ≤ _; omega))) (hG.ext (E28)) (Mod.cell (E28) hX (fun h => h)) (by show (0 : Nat) ≤ _; omega)) ?_)))))))))
  rintro v76 wR76 ⟨hv76, TR76, hMR76, mR76, hsR76⟩
  rw [hrun] at hv76 hMR76
  have hMR76 : MR TR76 wR76 ba Mf := hMR76
  obtain rfl : v76 = IN (4) := hv76
  have hFQ29 := floor_turn hFa hsR76 (Mod.size (E28))
  have EMQ30 : Ext w wR76 := Mod.then (E28) mR76 (fun i hi e => absurd (hFa i e) (Nat.not_le_of_lt hi))
  refine WL.assign (v := IN (4)) rfl rfl (WL.nil (WC.seq (WC.seq (WC.region (WL.move (v := ptr ba 0) rfl rfl (WL.call ca16 (rfl) rfl (trapped_m TR76 ba Mf _ hMR76 (Mod.cell (EMQ30) hX (fun h => h))) ?_))))))
  rintro _ wg78 ⟨rfl, eg78⟩
  rw [hb1]
  have E31 : Ext w wg78 := Mod.trans (EMQ30) (eg78)
  have hQ32 := (hMR76).ext eg78
  refine WL.move (v := .bool (false)) rfl rfl (WL.bin (v := .bool (false)) rfl rfl rfl (BinR.toB (BinR.eqlB Tryz.underlying4) (rfl)) (WL.move (v := .bool (false)) rfl rfl (WL.guardT (rfl) (WL.move (v := .bool (false)) rfl rfl (WL.guardT (rfl) (WL.move (v := .bool (false)) rfl rfl (WL.guardF (b' := false) (rfl) rfl rfl (WL.guardF (b' := false) (rfl) rfl rfl (WL.guardT (rfl) ?_)))))))))
  refine WL.pick (b := false) rfl rfl rfl (WL.pick (b := false) rfl rfl rfl (WL.move (v := .bool (false)) rfl rfl (WL.guardT (rfl) (WL.move (v := .bool (false)) rfl rfl (WL.guardT (rfl) (WL.un rfl rfl UnR.not (WL.guardT (rfl) (WL.move (v := .bool (true)) rfl rfl (WL.guardT (rfl) ?_)))))))))
  refine WL.move (v := IN (4)) rfl rfl (WL.guardT (rfl) (WL.bin (v := .bool (false)) rfl rfl rfl (BinR.toB (BinR.neq) (rfl)) (WL.guardT (rfl) (WL.pick (b := true) rfl rfl rfl (WL.pick (b := false) rfl rfl rfl (WL.move (v := .bool (false)) rfl rfl (WL.guardT (rfl) (WL.move (v := ptr ba 0) rfl rfl (WL.guardT (rfl) ?_)))))))))
  refine WL.call ca17 (rfl) rfl (reg_spec TR76 ba Mf _ hQ32 5 (by decide)) ?_
  rintro _ wg98 ⟨rfl, eg98⟩
  rw [hx5]
  have E33 : Ext w wg98 := Mod.trans (E31) (eg98)
  have hQ34 := (hQ32).ext eg98
  refine WL.guardT (rfl) (WL.move (v := U64 (addr)) rfl rfl (WL.guardT (rfl) (WL.bin (v := .bool (false)) rfl rfl rfl (BinR.toB (BinR.neqU64) (bne_self_eq_false _)) (WL.pick (b := false) rfl rfl rfl (WL.move (v := .bool (false)) rfl rfl (WL.guardT (rfl) (WL.move (v := .bool (false)) rfl rfl (WL.guardT (rfl) (WL.un rfl rfl UnR.not ?_)))))))))
  refine WL.guardT (rfl) (WL.move (v := .bool (true)) rfl rfl (WL.guardT (rfl) (WL.move (v := ptr ba 0) rfl rfl (WL.guardT (rfl) (WL.call ca17 (rfl) rfl (reg_spec TR76 ba Mf _ hQ34 6 (by decide)) ?_)))))
  rintro _ wg107 ⟨rfl, eg107⟩
  rw [hx6]
  have E35 : Ext w wg107 := Mod.trans (E33) (eg107)
  have hQ36 := (hQ34).ext eg107
  refine WL.guardT (rfl) (WL.bin (v := .bool (false)) rfl (vy := U64 (0#64)) rfl rfl (BinR.toB (BinR.neqU64) (bne_self_eq_false _)) (WL.guardT (rfl) (WL.pick (b := true) rfl rfl rfl (WL.pick (b := false) rfl rfl rfl (WL.nil (WC.condF rfl (WC.skip (WC.seq (WC.seq ?_)))))))))
  refine WC.region (WL.assign (v := U64 (0#64)) rfl rfl (WL.nil (WC.block ?_)))
  refine WC.loop (fun k f w_ => ∃ j, (k + j = 8) ∧ (j ≤ 8) ∧ f 9 = ptr ba 0 ∧ f 14 = .bool (false) ∧ f 16 = U64 ((BitVec.ofNat 64 (8 * j))) ∧ (MR TR76 w_ ba Mf) ∧ (Ext w w_)) (8) ?_ ?_
  · exact ⟨(0), by omega, by omega, rfl, rfl, rfl, hQ36, E35⟩
  rintro ka f1 wr ⟨j, hk8, hj8, h9_1, h14_1, h16_1, hLa, hE⟩
  refine WC.seq (WC.seq (WC.region (WL.move (v := U64 ((BitVec.ofNat 64 (8 * j)))) h16_1 rfl (WL.bin (v := .bool (decide (j < 8))) rfl (vy := U64 (64#64)) rfl rfl (BinR.toB (BinR.lssU64) (ult8 hj8)) (WL.move (v := .bool (decide (j < 8))) rfl rfl ?_)))))
  rcases Bool.eq_false_or_eq_true (decide (j < 8)) with hg113 | hg113
  · have hj : j < 8 := of_decide_eq_true hg113
    refine WL.guardT (yf_bool rfl rfl hg113) (WL.move (v := .bool (false)) h14_1 rfl (WL.guardT (yf_bool rfl rfl hg113) (WL.un rfl rfl UnR.not (WL.pick (b := true) (congrArg Value.bool hg113) rfl rfl (WL.nil (WC.condT rfl (WC.skip (WC.seq (WC.block ?_)))))))))
    refine WC.seq (WC.region (WL.move (v := ptr ba 0) h9_1 rfl (WL.move (v := U64 ((BitVec.ofNat 64 (8 * j)))) h16_1 rfl (WL.bin (vx := U64 (4194304#64)) rfl rfl rfl (BinR.addU64) (WL.call ca21 (rfl) rfl (peek_ok TR76 ba Mf _ hLa (4194304#64 + BitVec.ofNat 64 (8 * j)) true (8 * j) (by rw [hn]; exact where_peek hj)) ?_)))))
    rintro _ wp ⟨rfl, ep⟩
    rw [hd, loadV_zero]
    have E38 : Ext w wp := Mod.trans (hE) (ep)
    have hQ39 := (hLa).ext ep
    refine WL.move (v := .tuple #[U64 0#64, .bool true]) rfl rfl (WL.extract rfl rfl rfl (WL.extract rfl rfl rfl (WL.assign (v := U64 (0#64)) rfl rfl (WL.assign (v := .bool (true)) rfl rfl (WL.nil (WC.seq (WC.region (WL.move (v := .bool (true)) rfl rfl (WL.un rfl rfl UnR.not ?_)))))))))
    refine WL.move (v := .bool (false)) rfl rfl (WL.guardT (rfl) (WL.move (v := U64 (0#64)) rfl rfl (WL.guardT (rfl) (WL.bin (v := .bool (false)) rfl (vy := U64 (0#64)) rfl rfl (BinR.toB (BinR.neqU64) (bne_self_eq_false _)) (WL.pick (b := false) rfl rfl rfl (WL.nil (WC.condF rfl (WC.skip (WC.region ?_)))))))))
    refine WL.move (v := U64 ((BitVec.ofNat 64 (8 * j)))) h16_1 rfl (WL.bin rfl (vy := U64 (8#64)) rfl rfl ((ofNat_step j) ▸ BinR.addU64) (WL.assign (v := U64 ((BitVec.ofNat 64 (8 * (j + 1))))) rfl rfl (WL.nil ?_)))
    exact ⟨ka - 1, by omega, (j + 1), by omega, by omega, h9_1, h14_1, rfl, hQ39, E38⟩
  · refine WL.guardF (b' := false) (yf_bool rfl rfl hg113) rfl rfl (WL.guardF (b' := false) (yf_bool rfl rfl hg113) rfl rfl (WL.pick (b := false) (congrArg Value.bool hg113) rfl rfl (WL.nil (WC.condF rfl (WC.exit (WC.seq (WC.region (WL.call ca9 (rfl) rfl (works_spec _ (hG.ext (hE)) (Mod.cell (hE) hX (fun h => h))) ?_))))))))
    rintro _ wk132 ⟨rfl, ek132⟩
    have E41 : Ext w wk132 := Mod.trans (hE) (ek132)
    refine WL.assign (v := .bool (true)) rfl rfl (WL.nil (WC.ret ?_))
    exact ⟨_, Res.one (v := .bool (true)) rfl rfl, rfl, E41⟩
set_option maxRecDepth 100000 in
set_option maxHeartbeats 1000000 in
theorem traps_yes1 (op : BitVec 8) (addr : BitVec 64) (w : World) (hG : Glob w) (hX : w.cell? ⟨3, 0, none⟩ = some (.iface 206 (.agg #[.pointer (some ⟨6, 83, none⟩)]))) (h7 : (op % 11#8).toNat < 7) (q : Bool) (o : Nat) (hW : whereM 64 addr (trapZ (op % 11#8).toNat) = some (q, o)) : CallsR Tryz.prog 6 #[U8 (op), U64 (addr)] w (fun v w' => v = .bool true ∧ Ext w w') := by
  have hk := trap_lt op
  have hop := trap_op op
  have htr := trap_lo (op % 11#8).toNat h7
  have hlen := (trap_words (op % 11#8).toNat hk).1
  have hz := trapZ_or (op % 11#8).toNat hk
  obtain ⟨Mf, hrun, hf, hx5⟩ := trap_yes (op % 11#8).toNat hk addr hW
  have hb1 : (Mf.fin == some true) = false := by rw [hf]; rfl
  refine callsR_of Tryz.func6 rfl rfl rfl ?_
  refine WC.seq (WC.region (WL.assign (v := .bool (false)) rfl rfl (WL.nil (WC.seq (WC.region (WL.move (v := U8 (op)) rfl rfl (WL.bin rfl (vy := U8 (11#8)) rfl rfl (BinR.remU8') (WL.bin (vx := U8 (11#8)) rfl rfl rfl (hop ▸ BinR.addU8) (WL.build (v := .agg #[U8 ((trapI (op % 11#8).toNat).op), U8 (6#8), U8 (5#8), .int .u8 (0), IN (0)]) (vs := [(0, U8 ((trapI (op % 11#8).toNat).op)), (1, U8 (6#8)), (2, U8 (5#8))]) rfl (bld6_22yes1 (trapI (op % 11#8).toNat).op) rfl ?_)))))))))
  refine WL.allocStore (v := .agg #[U8 ((trapI (op % 11#8).toNat).op), U8 (6#8), U8 (5#8), .int .u8 (0), IN (0)]) zt48 rfl sz48 rfl rfl rfl rfl ?_
  intro b5 w5 n5
  have E1 : Ext w w5 := Mod.trans (Mod.refl _ _) (n5.ext)
  refine WL.nil (WC.seq (WC.seq (WC.region (WL.fieldAddr rfl fo48_0 rfl (WL.load1 rfl ag5 (n5.blk.cell (j := 0) rfl) rfl (WL.bin (v := .bool (false)) rfl (vy := U8 (18#8)) rfl rfl (BinR.toB (BinR.geqU8) ((trap_ge op).trans (decide_eq_false (by omega)))) (WL.nil (WC.condF rfl (WC.skip ?_)))))))))
  refine WC.seq (WC.region (WL.build (v := .agg #[U8 (22#8), U8 (17#8), .int .u8 (0), .int .u8 (0), I64 (1#64)]) (vs := [(0, U8 (22#8)), (1, U8 (17#8)), (4, I64 (1#64))]) rfl (bld6_29yes1) rfl (WL.build (v := .agg #[U8 (64#8), .int .u8 (0), .int .u8 (0), .int .u8 (0), IN (0)]) (vs := [(0, U8 (64#8))]) rfl (bld6_30yes1) rfl (WL.build (v := .agg #[U8 (22#8), U8 (5#8), U8 (10#8), .int .u8 (0), IN (0)]) (vs := [(0, U8 (22#8)), (1, U8 (5#8)), (2, U8 (10#8))]) rfl (bld6_31yes1) rfl (WL.loadS [U8 ((trapI (op % 11#8).toNat).op), U8 (6#8), U8 (5#8), .int .u8 (0), IN (0)] rfl ag48 sz48 rfl (n5.blk.sub (o := 0) (vs := [U8 ((trapI (op % 11#8).toNat).op), U8 (6#8), U8 (5#8), .int .u8 (0), IN (0)]) rfl) rfl (WL.build (v := .agg #[U8 (22#8), U8 (17#8), .int .u8 (0), .int .u8 (0), I64 (3#64)]) (vs := [(0, U8 (22#8)), (1, U8 (17#8)), (4, I64 (3#64))]) rfl (bld6_33yes1) rfl (WL.build (v := .agg #[U8 (64#8), .int .u8 (0), .int .u8 (0), .int .u8 (0), IN (0)]) (vs := [(0, U8 (64#8))]) rfl (bld6_34yes1) rfl (WL.buildSlice (vs := [(0, .agg #[U8 (22#8), U8 (17#8), .int .u8 (0), .int .u8 (0), I64 (1#64)]), (1, .agg #[U8 (64#8), .int .u8 (0), .int .u8 (0), .int .u8 (0), IN (0)]), (2, .agg #[U8 (22#8), U8 (5#8), U8 (10#8), .int .u8 (0), IN (0)]), (3, .agg #[U8 ((trapI (op % 11#8).toNat).op), U8 (6#8), U8 (5#8), .int .u8 (0), IN (0)]), (4, .agg #[U8 (22#8), U8 (17#8), .int .u8 (0), .int .u8 (0), I64 (3#64)]), (5, .agg #[U8 (64#8), .int .u8 (0), .int .u8 (0), .int .u8 (0), IN (0)])]) rfl (bls6_35yes1 (trapI (op % 11#8).toNat).op) rfl ?_))))))))
  intro b35 w35 n35
  have E2 : Ext w w35 := Mod.trans (E1) (n35.ext)
  refine WL.assign (v := .slice (some ⟨b35, 0, none⟩) 6 6) rfl rfl (WL.nil (WC.seq (WC.region (WL.move (v := .slice (some ⟨b35, 0, none⟩) 6 6) rfl rfl ?_))))
  have hS37 : Sl w35 (.slice (some ⟨b35, 0, none⟩) 6 6) 5 (trapL (op % 11#8).toNat).length (instCells (trapL (op % 11#8).toNat)) := by rw [trap_cells (op % 11#8).toNat _ htr]; exact Go.Proofs.M.Sl.ofCells (n := 6) (n35.blk).cells rfl
  refine WL.call ca19 (rfl) rfl (code_spec _ (trapL (op % 11#8).toNat) _ (hG.ext (E2)) hS37 (by show 6 ≤ _; decide)) ?_
  rintro v37 w37 ⟨o37, f37, e37⟩
  obtain ⟨g37, c37, rfl, hle37, hcl37⟩ := o37.at (by rw [hlen]; decide)
  have E3 : Ext w w37 := Mod.trans (E2) (e37)
  refine WL.assign (v := .slice (some ⟨g37, 0, none⟩) (codeW (trapL (op % 11#8).toNat)).length c37) rfl rfl (WL.nil (WC.seq (WC.region (WL.move (v := .slice (some ⟨g37, 0, none⟩) (codeW (trapL (op % 11#8).toNat)).length c37) rfl rfl (WL.call ca20 (rfl) rfl (whole_spec (some ⟨g37, 0, none⟩) (codeW (trapL (op % 11#8).toNat)).length c37 64 _) ?_)))))
  rintro _ w39 ⟨p, rfl, hsy, e39⟩
  have E4 : Ext w w39 := Mod.trans (E3) (e39)
  have O5 := (o37).ext (e39)
  refine WL.allocStore (v := .agg #[.int .i64 (64), .slice (some ⟨p, 0, none⟩) 1 1, .slice (some ⟨g37, 0, none⟩) (codeW (trapL (op % 11#8).toNat)).length c37]) zt25 rfl sz25 rfl rfl (ones3 rfl (hsy).one ((O5).sl).one) rfl ?_
  intro b8 w8 n8
  have E6 : Ext w w8 := Mod.trans (E4) (n8.ext)
  refine WL.nil (WC.seq (WC.region (WL.loadS [.int .i64 (64), .slice (some ⟨p, 0, none⟩) 1 1, .slice (some ⟨g37, 0, none⟩) (codeW (trapL (op % 11#8).toNat)).length c37] rfl ag25 sz25 rfl (n8.blk.sub (o := 0) (vs := [.int .i64 (64), .slice (some ⟨p, 0, none⟩) 1 1, .slice (some ⟨g37, 0, none⟩) (codeW (trapL (op % 11#8).toNat)).length c37]) rfl) rfl (WL.move (v := U64 (addr)) rfl rfl (WL.conv rfl rfl (ConvR.u64i64 Tryz.underlying39 Tryz.underlying2) (WL.buildSlice (vs := [(0, I64 (addr))]) rfl (bls6_44yes1 addr) rfl ?_))))))
  intro b44 w44 n44
  have E7 : Ext w w44 := Mod.trans (E6) (n44.ext)
  have S8 := ((hsy).ext' (n8.ext)).ext' (n44.ext)
  have O9 := ((O5).ext (n8.ext)).ext (n44.ext)
  refine WL.call ca10 (rfl) rfl (new_ok (trapImg (op % 11#8).toNat) _ _ (.slice (some ⟨b44, 0, none⟩) 1 1) [addr] _ (⟨S8, (O9).sl, by show 1 ≤ _; decide, by show (codeW (trapL (op % 11#8).toNat)).length ≤ _; omega⟩ : Rep w44 (.slice (some ⟨p, 0, none⟩) 1 1) (.slice (some ⟨g37, 0, none⟩) (codeW (trapL (op % 11#8).toNat)).length c37) (trapImg (op % 11#8).toNat)) (trap_syms _) (hG.ext (E7)) (glob_size (hG.ext (E7))) (Sl.of1 (n44.blk).cells rfl) (.inr ⟨_, _, rfl⟩) (by show 1 ≤ _; decide) (trap_right _ hk)) ?_
  rintro _ wna ⟨Ta, ba, rfl, hMa, hTa, ena⟩
  have hFa : ∀ k, Ta k ≠ 0 → w.heap.size ≤ k := fun k h => Nat.le_trans (Mod.size (E7)) (hTa k h)
  have E10 : Ext w wna := Mod.trans (E7) (ena)
  refine WL.move (v := .tuple #[ptr ba 0, IN 0]) rfl rfl (WL.extract rfl rfl rfl (WL.extract rfl rfl rfl (WL.assign (v := ptr ba 0) rfl rfl (WL.assign (v := IN (0)) rfl rfl (WL.nil (WC.seq (WC.seq (WC.region (WL.move (v := .slice (some ⟨g37, 0, none⟩) (codeW (trapL (op % 11#8).toNat)).length c37) rfl rfl ?_)))))))))
  have O11 := (O9).ext (ena)
  refine WL.lenSl (sz := 1) (m := (codeW (trapL (op % 11#8).toNat)).length) (xs := wordCells (codeW (trapL (op % 11#8).toNat))) el23 rfl ((O11).sl) rfl (WL.move (v := .slice (some ⟨b35, 0, none⟩) 6 6) rfl rfl (WL.lenS el49 rfl rfl (WL.bin (v := .bool (false)) rfl rfl rfl (BinR.toB (BinR.neq) (by rw [hlen]; rfl)) (WL.move (v := .bool (false)) rfl rfl (WL.guardT (rfl) (WL.move (v := IN (0)) rfl rfl (WL.guardT (rfl) (WL.bin (v := .bool (false)) rfl rfl rfl (BinR.toB (BinR.neq) (rfl)) (WL.pick (b := false) rfl rfl rfl ?_)))))))))
  refine WL.nil (WC.condF rfl (WC.skip (WC.seq (WC.region ?_))))
  have B12 := ((n8.blk).ext (n44.ext)).ext (ena)
  refine WL.loadS [.int .i64 (64), .slice (some ⟨p, 0, none⟩) 1 1, .slice (some ⟨g37, 0, none⟩) (codeW (trapL (op % 11#8).toNat)).length c37] rfl ag25 sz25 rfl (B12.sub (o := 0) (vs := [.int .i64 (64), .slice (some ⟨p, 0, none⟩) 1 1, .slice (some ⟨g37, 0, none⟩) (codeW (trapL (op % 11#8).toNat)).length c37]) rfl) rfl ?_
  have S13 := (S8).ext' (ena)
  refine WL.call ca23 (rfl) rfl (Go.Proofs.R.plain_spec _ _ (trapImg (op % 11#8).toNat) _ (⟨S13, (O11).sl, by show 1 ≤ _; decide, by show (codeW (trapL (op % 11#8).toNat)).length ≤ _; omega⟩ : Rep wna (.slice (some ⟨p, 0, none⟩) 1 1) (.slice (some ⟨g37, 0, none⟩) (codeW (trapL (op % 11#8).toNat)).length c37) (trapImg (op % 11#8).toNat))) ?_
  rintro _ w58 ⟨u58, rfl, hu58, fu58, e58⟩
  have hu58 := hu58.sl.one
  have R14 : Ext wna w58 := Mod.trans (Mod.refl _ _) (e58)
  have E15 : Ext w w58 := Mod.trans (E10) (e58)
  refine WL.move (v := U64 (addr)) rfl rfl (WL.conv rfl rfl (ConvR.u64i64 Tryz.underlying39 Tryz.underlying2) (WL.buildSlice (vs := [(0, I64 (addr))]) rfl (bls6_61yes1 addr) rfl ?_))
  intro b61 w61 n61
  have R16 : Ext wna w61 := Mod.trans (R14) (n61.ext)
  have E17 : Ext w w61 := Mod.trans (E15) (n61.ext)
  have O18 := ((O11).ext (e58)).ext (n61.ext)
  refine WL.call ca22 (rfl) rfl (rnew u58 _ (.slice (some ⟨b61, 0, none⟩) 1 1) (trapImg (op % 11#8).toNat) [addr] _ (O18).sl (by show (codeW (trapL (op % 11#8).toNat)).length ≤ _; omega) (Sl.of1 (n61.blk).cells rfl) (by show 1 ≤ _; decide) (by show (0 : Int) ≤ 64; decide) (by show (64 : Int) ≤ 524288; decide) hu58) ?_
  rintro _ w62 ⟨b62, cv, dv, sv, iv, rfl, hB62, hcv, hdv, hsv, hiv, e62⟩
  have R19 : Ext wna w62 := Mod.trans (R16) (e62)
  have E20 : Ext w w62 := Mod.trans (E17) (e62)
  refine WL.assign (v := ptr b62 0) rfl rfl (WL.nil (WC.seq (WC.region (WL.buildSlice (vs := [(0, IN (1)), (1, IN (2)), (2, IN (4)), (3, IN (8)), (4, IN (1)), (5, IN (2)), (6, IN (4)), (7, IN (1)), (8, IN (2)), (9, IN (4)), (10, IN (8))]) rfl (bls6_63yes1) rfl ?_))))
  intro b63 w63 n63
  have R21 : Ext wna w63 := Mod.trans (R19) (n63.ext)
  have E22 : Ext w w63 := Mod.trans (E20) (n63.ext)
  refine WL.move (v := U8 (op)) rfl rfl (WL.bin rfl (vy := U8 (11#8)) rfl rfl (BinR.remU8') (WL.indexAddr (i := (op % 11#8).toNat) (b := b63) (o := 0) el63 sz3 rfl rfl hk rfl (WL.load1 rfl ag3 ((n63.blk).cell (j := 0 + (op % 11#8).toNat * 1) (trapZ_cell _ hk)) rfl (WL.assign (v := IN ((trapZ (op % 11#8).toNat))) rfl rfl (WL.nil (WC.seq (WC.region (WL.move (v := ptr b62 0) rfl rfl (WL.move (v := U64 (addr)) rfl rfl ?_)))))))))
  refine WL.move (v := IN ((trapZ (op % 11#8).toNat))) rfl rfl ?_
  have B23 := (hB62).ext (n63.ext)
  have O24 := (hdv).ext (n63.ext)
  have O25 := (hsv).ext (n63.ext)
  refine WL.call ca24 (rfl) rfl (load_yes addr (trapZ (op % 11#8).toNat) q o b62 cv dv sv iv _ _ _ _ _ _ 64 _ (fun _ => 0#8) _ B23 (O24).sl (by decide) (O25).sl hz hW) ?_
  rintro _ w72 ⟨y72, rfl, e72⟩
  have R26 : Ext wna w72 := Mod.trans (R21) (e72)
  have E27 : Ext w w72 := Mod.trans (E22) (e72)
  refine WL.move (v := .tuple #[U64 (y72), .bool true]) rfl rfl (WL.extract rfl rfl rfl (WL.extract rfl rfl rfl (WL.assign (v := U64 (y72)) rfl rfl (WL.assign (v := .bool (true)) rfl rfl (WL.nil (WC.seq (WC.region (WL.move (v := ptr ba 0) rfl rfl (WL.call ca11 (rfl) rfl (run_specN Ta ba (newM (trapImg (op % 11#8).toNat) [addr]) _ (hMa.ext (R26)) 100 (by omega) ((newM_code (by show (codeW (trapL (op % 11#8).toNat)).length ≤ _; omega))) (hG.ext (E27)) (Mod.cell (E27) hX (fun h => h)) (by show (0 : Nat) ≤ _; omega)) ?_)))))))))
  rintro v76 wR76 ⟨hv76, TR76, hMR76, mR76, hsR76⟩
  rw [hrun] at hv76 hMR76
  have hMR76 : MR TR76 wR76 ba Mf := hMR76
  obtain rfl : v76 = IN (6) := hv76
  have hFQ28 := floor_turn hFa hsR76 (Mod.size (E27))
  have EMQ29 : Ext w wR76 := Mod.then (E27) mR76 (fun i hi e => absurd (hFa i e) (Nat.not_le_of_lt hi))
  refine WL.assign (v := IN (6)) rfl rfl (WL.nil (WC.seq (WC.seq (WC.region (WL.move (v := ptr ba 0) rfl rfl (WL.call ca16 (rfl) rfl (trapped_m TR76 ba Mf _ hMR76 (Mod.cell (EMQ29) hX (fun h => h))) ?_))))))
  rintro _ wg78 ⟨rfl, eg78⟩
  rw [hb1]
  have E30 : Ext w wg78 := Mod.trans (EMQ29) (eg78)
  have hQ31 := (hMR76).ext eg78
  refine WL.move (v := .bool (true)) rfl rfl (WL.bin (v := .bool (false)) rfl rfl rfl (BinR.toB (BinR.eqlB Tryz.underlying4) (rfl)) (WL.move (v := .bool (false)) rfl rfl (WL.guardT (rfl) (WL.move (v := .bool (true)) rfl rfl (WL.guardT (rfl) (WL.move (v := .bool (true)) rfl rfl (WL.guardT (rfl) (WL.move (v := IN (6)) rfl rfl (WL.guardT (rfl) ?_)))))))))
  refine WL.bin (v := .bool (false)) rfl rfl rfl (BinR.toB (BinR.neq) (rfl)) (WL.guardT (rfl) (WL.pick (b := true) rfl rfl rfl (WL.pick (b := false) rfl rfl rfl (WL.move (v := .bool (false)) rfl rfl (WL.guardT (rfl) (WL.move (v := .bool (true)) rfl rfl (WL.guardT (rfl) (WL.un rfl rfl UnR.not (WL.guardT (rfl) ?_)))))))))
  refine WL.move (v := .bool (false)) rfl rfl (WL.guardF (b' := false) (rfl) rfl rfl (WL.guardF (b' := false) (rfl) rfl rfl (WL.guardT (rfl) (WL.pick (b := false) rfl rfl rfl (WL.pick (b := false) rfl rfl rfl (WL.move (v := .bool (false)) rfl rfl (WL.guardT (rfl) (WL.move (v := ptr ba 0) rfl rfl (WL.guardT (rfl) ?_)))))))))
  refine WL.call ca17 (rfl) rfl (reg_spec TR76 ba Mf _ hQ31 5 (by decide)) ?_
  rintro _ wg98 ⟨rfl, eg98⟩
  rw [hx5]
  have E32 : Ext w wg98 := Mod.trans (E30) (eg98)
  have hQ33 := (hQ31).ext eg98
  refine WL.guardT (rfl) (WL.move (v := U64 (addr)) rfl rfl (WL.guardT (rfl) (WL.bin (v := .bool (false)) rfl rfl rfl (BinR.toB (BinR.neqU64) (bne_self_eq_false _)) (WL.pick (b := false) rfl rfl rfl (WL.move (v := .bool (false)) rfl rfl (WL.guardT (rfl) (WL.move (v := .bool (true)) rfl rfl (WL.guardT (rfl) (WL.un rfl rfl UnR.not ?_)))))))))
  refine WL.guardT (rfl) (WL.move (v := .bool (false)) rfl rfl (WL.guardF (b' := false) (rfl) rfl rfl (WL.guardF (b' := false) (rfl) rfl rfl (WL.guardF (b' := false) (rfl) rfl rfl (WL.guardT (rfl) (WL.pick (b := false) rfl rfl rfl (WL.pick (b := false) rfl rfl rfl (WL.nil (WC.condF rfl ?_)))))))))
  refine WC.skip (WC.seq (WC.seq (WC.region (WL.assign (v := U64 (0#64)) rfl rfl (WL.nil (WC.block ?_))))))
  refine WC.loop (fun k f w_ => f 9 = ptr ba 0 ∧ f 14 = .bool (true) ∧ f 16 = U64 (0#64) ∧ (MR TR76 w_ ba Mf) ∧ (Ext w w_)) (0) ?_ ?_
  · exact ⟨rfl, rfl, rfl, hQ33, E32⟩
  rintro k f1 wr ⟨h9_1, h14_1, h16_1, hLa, hE⟩
  refine WC.seq (WC.seq (WC.region (WL.move (v := U64 (0#64)) h16_1 rfl (WL.bin (v := .bool (true)) rfl (vy := U64 (64#64)) rfl rfl (BinR.toB (BinR.lssU64) (rfl)) (WL.move (v := .bool (true)) rfl rfl (WL.guardT (rfl) (WL.move (v := .bool (true)) h14_1 rfl (WL.guardT (rfl) (WL.un rfl rfl UnR.not ?_)))))))))
  refine WL.pick (b := true) rfl rfl rfl (WL.nil (WC.condF rfl (WC.exit (WC.seq (WC.region (WL.call ca9 (rfl) rfl (works_spec _ (hG.ext (hE)) (Mod.cell (hE) hX (fun h => h))) ?_))))))
  rintro _ wk132 ⟨rfl, ek132⟩
  have E35 : Ext w wk132 := Mod.trans (hE) (ek132)
  refine WL.assign (v := .bool (true)) rfl rfl (WL.nil (WC.ret ?_))
  exact ⟨_, Res.one (v := .bool (true)) rfl rfl, rfl, E35⟩
set_option maxRecDepth 100000 in
set_option maxHeartbeats 1000000 in
theorem traps_yes0 (op : BitVec 8) (addr : BitVec 64) (w : World) (hG : Glob w) (hX : w.cell? ⟨3, 0, none⟩ = some (.iface 206 (.agg #[.pointer (some ⟨6, 83, none⟩)]))) (h7 : ¬ (op % 11#8).toNat < 7) (q : Bool) (o : Nat) (hW : whereM 64 addr (trapZ (op % 11#8).toNat) = some (q, o)) : CallsR Tryz.prog 6 #[U8 (op), U64 (addr)] w (fun v w' => v = .bool true ∧ Ext w w') := by
  have hk := trap_lt op
  have hop := trap_op op
  have htr := trap_hi (op % 11#8).toNat h7
  have hlen := (trap_words (op % 11#8).toNat hk).1
  have hz := trapZ_or (op % 11#8).toNat hk
  obtain ⟨Mf, hrun, hf, hx5⟩ := trap_yes (op % 11#8).toNat hk addr hW
  have hb1 : (Mf.fin == some true) = false := by rw [hf]; rfl
  refine callsR_of Tryz.func6 rfl rfl rfl ?_
  refine WC.seq (WC.region (WL.assign (v := .bool (false)) rfl rfl (WL.nil (WC.seq (WC.region (WL.move (v := U8 (op)) rfl rfl (WL.bin rfl (vy := U8 (11#8)) rfl rfl (BinR.remU8') (WL.bin (vx := U8 (11#8)) rfl rfl rfl (hop ▸ BinR.addU8) (WL.build (v := .agg #[U8 ((trapI (op % 11#8).toNat).op), U8 (6#8), U8 (5#8), .int .u8 (0), IN (0)]) (vs := [(0, U8 ((trapI (op % 11#8).toNat).op)), (1, U8 (6#8)), (2, U8 (5#8))]) rfl (bld6_22yes0 (trapI (op % 11#8).toNat).op) rfl ?_)))))))))
  refine WL.allocStore (v := .agg #[U8 ((trapI (op % 11#8).toNat).op), U8 (6#8), U8 (5#8), .int .u8 (0), IN (0)]) zt48 rfl sz48 rfl rfl rfl rfl ?_
  intro b5 w5 n5
  have E1 : Ext w w5 := Mod.trans (Mod.refl _ _) (n5.ext)
  refine WL.nil (WC.seq (WC.seq (WC.region (WL.fieldAddr rfl fo48_0 rfl (WL.load1 rfl ag5 (n5.blk.cell (j := 0) rfl) rfl (WL.bin (v := .bool (true)) rfl (vy := U8 (18#8)) rfl rfl (BinR.toB (BinR.geqU8) ((trap_ge op).trans (decide_eq_true (by omega)))) (WL.nil (WC.condT rfl (WC.region ?_)))))))))
  refine WL.fieldAddr rfl fo48_0 rfl (WL.load1 rfl ag5 (n5.blk.cell (j := 0) rfl) rfl (WL.build (v := .agg #[U8 ((trapI (op % 11#8).toNat).op), .int .u8 (0), U8 (5#8), U8 (2#8), IN (0)]) (vs := [(0, U8 ((trapI (op % 11#8).toNat).op)), (2, U8 (5#8)), (3, U8 (2#8))]) rfl (bld6_28yes0 (trapI (op % 11#8).toNat).op) rfl (WL.storeS (v := .agg #[U8 ((trapI (op % 11#8).toNat).op), .int .u8 (0), U8 (5#8), U8 (2#8), IN (0)]) rfl rfl n5.blk rfl sz48 rfl rfl ?_)))
  intro ws2 ms2 bs2 zs2
  have E2 : Ext w ws2 := Mod.own (Mod.refl _ _) n5 (E1) (ms2)
  refine WL.nil (WC.seq (WC.region (WL.build (v := .agg #[U8 (22#8), U8 (17#8), .int .u8 (0), .int .u8 (0), I64 (1#64)]) (vs := [(0, U8 (22#8)), (1, U8 (17#8)), (4, I64 (1#64))]) rfl (bld6_29yes0) rfl (WL.build (v := .agg #[U8 (64#8), .int .u8 (0), .int .u8 (0), .int .u8 (0), IN (0)]) (vs := [(0, U8 (64#8))]) rfl (bld6_30yes0) rfl (WL.build (v := .agg #[U8 (22#8), U8 (5#8), U8 (10#8), .int .u8 (0), IN (0)]) (vs := [(0, U8 (22#8)), (1, U8 (5#8)), (2, U8 (10#8))]) rfl (bld6_31yes0) rfl (WL.loadS [U8 ((trapI (op % 11#8).toNat).op), .int .u8 (0), U8 (5#8), U8 (2#8), IN (0)] rfl ag48 sz48 rfl (bs2.sub (o := 0) (vs := [U8 ((trapI (op % 11#8).toNat).op), .int .u8 (0), U8 (5#8), U8 (2#8), IN (0)]) rfl) rfl (WL.build (v := .agg #[U8 (22#8), U8 (17#8), .int .u8 (0), .int .u8 (0), I64 (3#64)]) (vs := [(0, U8 (22#8)), (1, U8 (17#8)), (4, I64 (3#64))]) rfl (bld6_33yes0) rfl (WL.build (v := .agg #[U8 (64#8), .int .u8 (0), .int .u8 (0), .int .u8 (0), IN (0)]) (vs := [(0, U8 (64#8))]) rfl (bld6_34yes0) rfl (WL.buildSlice (vs := [(0, .agg #[U8 (22#8), U8 (17#8), .int .u8 (0), .int .u8 (0), I64 (1#64)]), (1, .agg #[U8 (64#8), .int .u8 (0), .int .u8 (0), .int .u8 (0), IN (0)]), (2, .agg #[U8 (22#8), U8 (5#8), U8 (10#8), .int .u8 (0), IN (0)]), (3, .agg #[U8 ((trapI (op % 11#8).toNat).op), .int .u8 (0), U8 (5#8), U8 (2#8), IN (0)]), (4, .agg #[U8 (22#8), U8 (17#8), .int .u8 (0), .int .u8 (0), I64 (3#64)]), (5, .agg #[U8 (64#8), .int .u8 (0), .int .u8 (0), .int .u8 (0), IN (0)])]) rfl (bls6_35yes0 (trapI (op % 11#8).toNat).op) rfl ?_)))))))))
  intro b35 w35 n35
  have E3 : Ext w w35 := Mod.trans (E2) (n35.ext)
  refine WL.assign (v := .slice (some ⟨b35, 0, none⟩) 6 6) rfl rfl (WL.nil (WC.seq (WC.region (WL.move (v := .slice (some ⟨b35, 0, none⟩) 6 6) rfl rfl ?_))))
  have hS37 : Sl w35 (.slice (some ⟨b35, 0, none⟩) 6 6) 5 (trapL (op % 11#8).toNat).length (instCells (trapL (op % 11#8).toNat)) := by rw [trap_cells (op % 11#8).toNat _ htr]; exact Go.Proofs.M.Sl.ofCells (n := 6) (n35.blk).cells rfl
  refine WL.call ca19 (rfl) rfl (code_spec _ (trapL (op % 11#8).toNat) _ (hG.ext (E3)) hS37 (by show 6 ≤ _; decide)) ?_
  rintro v37 w37 ⟨o37, f37, e37⟩
  obtain ⟨g37, c37, rfl, hle37, hcl37⟩ := o37.at (by rw [hlen]; decide)
  have E4 : Ext w w37 := Mod.trans (E3) (e37)
  refine WL.assign (v := .slice (some ⟨g37, 0, none⟩) (codeW (trapL (op % 11#8).toNat)).length c37) rfl rfl (WL.nil (WC.seq (WC.region (WL.move (v := .slice (some ⟨g37, 0, none⟩) (codeW (trapL (op % 11#8).toNat)).length c37) rfl rfl (WL.call ca20 (rfl) rfl (whole_spec (some ⟨g37, 0, none⟩) (codeW (trapL (op % 11#8).toNat)).length c37 64 _) ?_)))))
  rintro _ w39 ⟨p, rfl, hsy, e39⟩
  have E5 : Ext w w39 := Mod.trans (E4) (e39)
  have O6 := (o37).ext (e39)
  refine WL.allocStore (v := .agg #[.int .i64 (64), .slice (some ⟨p, 0, none⟩) 1 1, .slice (some ⟨g37, 0, none⟩) (codeW (trapL (op % 11#8).toNat)).length c37]) zt25 rfl sz25 rfl rfl (ones3 rfl (hsy).one ((O6).sl).one) rfl ?_
  intro b8 w8 n8
  have E7 : Ext w w8 := Mod.trans (E5) (n8.ext)
  refine WL.nil (WC.seq (WC.region (WL.loadS [.int .i64 (64), .slice (some ⟨p, 0, none⟩) 1 1, .slice (some ⟨g37, 0, none⟩) (codeW (trapL (op % 11#8).toNat)).length c37] rfl ag25 sz25 rfl (n8.blk.sub (o := 0) (vs := [.int .i64 (64), .slice (some ⟨p, 0, none⟩) 1 1, .slice (some ⟨g37, 0, none⟩) (codeW (trapL (op % 11#8).toNat)).length c37]) rfl) rfl (WL.move (v := U64 (addr)) rfl rfl (WL.conv rfl rfl (ConvR.u64i64 Tryz.underlying39 Tryz.underlying2) (WL.buildSlice (vs := [(0, I64 (addr))]) rfl (bls6_44yes0 addr) rfl ?_))))))
  intro b44 w44 n44
  have E8 : Ext w w44 := Mod.trans (E7) (n44.ext)
  have S9 := ((hsy).ext' (n8.ext)).ext' (n44.ext)
  have O10 := ((O6).ext (n8.ext)).ext (n44.ext)
  refine WL.call ca10 (rfl) rfl (new_ok (trapImg (op % 11#8).toNat) _ _ (.slice (some ⟨b44, 0, none⟩) 1 1) [addr] _ (⟨S9, (O10).sl, by show 1 ≤ _; decide, by show (codeW (trapL (op % 11#8).toNat)).length ≤ _; omega⟩ : Rep w44 (.slice (some ⟨p, 0, none⟩) 1 1) (.slice (some ⟨g37, 0, none⟩) (codeW (trapL (op % 11#8).toNat)).length c37) (trapImg (op % 11#8).toNat)) (trap_syms _) (hG.ext (E8)) (glob_size (hG.ext (E8))) (Sl.of1 (n44.blk).cells rfl) (.inr ⟨_, _, rfl⟩) (by show 1 ≤ _; decide) (trap_right _ hk)) ?_
  rintro _ wna ⟨Ta, ba, rfl, hMa, hTa, ena⟩
  have hFa : ∀ k, Ta k ≠ 0 → w.heap.size ≤ k := fun k h => Nat.le_trans (Mod.size (E8)) (hTa k h)
  have E11 : Ext w wna := Mod.trans (E8) (ena)
  refine WL.move (v := .tuple #[ptr ba 0, IN 0]) rfl rfl (WL.extract rfl rfl rfl (WL.extract rfl rfl rfl (WL.assign (v := ptr ba 0) rfl rfl (WL.assign (v := IN (0)) rfl rfl (WL.nil (WC.seq (WC.seq (WC.region (WL.move (v := .slice (some ⟨g37, 0, none⟩) (codeW (trapL (op % 11#8).toNat)).length c37) rfl rfl ?_)))))))))
  have O12 := (O10).ext (ena)
  refine WL.lenSl (sz := 1) (m := (codeW (trapL (op % 11#8).toNat)).length) (xs := wordCells (codeW (trapL (op % 11#8).toNat))) el23 rfl ((O12).sl) rfl (WL.move (v := .slice (some ⟨b35, 0, none⟩) 6 6) rfl rfl (WL.lenS el49 rfl rfl (WL.bin (v := .bool (false)) rfl rfl rfl (BinR.toB (BinR.neq) (by rw [hlen]; rfl)) (WL.move (v := .bool (false)) rfl rfl (WL.guardT (rfl) (WL.move (v := IN (0)) rfl rfl (WL.guardT (rfl) (WL.bin (v := .bool (false)) rfl rfl rfl (BinR.toB (BinR.neq) (rfl)) (WL.pick (b := false) rfl rfl rfl ?_)))))))))
  refine WL.nil (WC.condF rfl (WC.skip (WC.seq (WC.region ?_))))
  have B13 := ((n8.blk).ext (n44.ext)).ext (ena)
  refine WL.loadS [.int .i64 (64), .slice (some ⟨p, 0, none⟩) 1 1, .slice (some ⟨g37, 0, none⟩) (codeW (trapL (op % 11#8).toNat)).length c37] rfl ag25 sz25 rfl (B13.sub (o := 0) (vs := [.int .i64 (64), .slice (some ⟨p, 0, none⟩) 1 1, .slice (some ⟨g37, 0, none⟩) (codeW (trapL (op % 11#8).toNat)).length c37]) rfl) rfl ?_
  have S14 := (S9).ext' (ena)
  refine WL.call ca23 (rfl) rfl (Go.Proofs.R.plain_spec _ _ (trapImg (op % 11#8).toNat) _ (⟨S14, (O12).sl, by show 1 ≤ _; decide, by show (codeW (trapL (op % 11#8).toNat)).length ≤ _; omega⟩ : Rep wna (.slice (some ⟨p, 0, none⟩) 1 1) (.slice (some ⟨g37, 0, none⟩) (codeW (trapL (op % 11#8).toNat)).length c37) (trapImg (op % 11#8).toNat))) ?_
  rintro _ w58 ⟨u58, rfl, hu58, fu58, e58⟩
  have hu58 := hu58.sl.one
  have R15 : Ext wna w58 := Mod.trans (Mod.refl _ _) (e58)
  have E16 : Ext w w58 := Mod.trans (E11) (e58)
  refine WL.move (v := U64 (addr)) rfl rfl (WL.conv rfl rfl (ConvR.u64i64 Tryz.underlying39 Tryz.underlying2) (WL.buildSlice (vs := [(0, I64 (addr))]) rfl (bls6_61yes0 addr) rfl ?_))
  intro b61 w61 n61
  have R17 : Ext wna w61 := Mod.trans (R15) (n61.ext)
  have E18 : Ext w w61 := Mod.trans (E16) (n61.ext)
  have O19 := ((O12).ext (e58)).ext (n61.ext)
  refine WL.call ca22 (rfl) rfl (rnew u58 _ (.slice (some ⟨b61, 0, none⟩) 1 1) (trapImg (op % 11#8).toNat) [addr] _ (O19).sl (by show (codeW (trapL (op % 11#8).toNat)).length ≤ _; omega) (Sl.of1 (n61.blk).cells rfl) (by show 1 ≤ _; decide) (by show (0 : Int) ≤ 64; decide) (by show (64 : Int) ≤ 524288; decide) hu58) ?_
  rintro _ w62 ⟨b62, cv, dv, sv, iv, rfl, hB62, hcv, hdv, hsv, hiv, e62⟩
  have R20 : Ext wna w62 := Mod.trans (R17) (e62)
  have E21 : Ext w w62 := Mod.trans (E18) (e62)
  refine WL.assign (v := ptr b62 0) rfl rfl (WL.nil (WC.seq (WC.region (WL.buildSlice (vs := [(0, IN (1)), (1, IN (2)), (2, IN (4)), (3, IN (8)), (4, IN (1)), (5, IN (2)), (6, IN (4)), (7, IN (1)), (8, IN (2)), (9, IN (4)), (10, IN (8))]) rfl (bls6_63yes0) rfl ?_))))
  intro b63 w63 n63
  have R22 : Ext wna w63 := Mod.trans (R20) (n63.ext)
  have E23 : Ext w w63 := Mod.trans (E21) (n63.ext)
  refine WL.move (v := U8 (op)) rfl rfl (WL.bin rfl (vy := U8 (11#8)) rfl rfl (BinR.remU8') (WL.indexAddr (i := (op % 11#8).toNat) (b := b63) (o := 0) el63 sz3 rfl rfl hk rfl (WL.load1 rfl ag3 ((n63.blk).cell (j := 0 + (op % 11#8).toNat * 1) (trapZ_cell _ hk)) rfl (WL.assign (v := IN ((trapZ (op % 11#8).toNat))) rfl rfl (WL.nil (WC.seq (WC.region (WL.move (v := ptr b62 0) rfl rfl (WL.move (v := U64 (addr)) rfl rfl ?_)))))))))
  refine WL.move (v := IN ((trapZ (op % 11#8).toNat))) rfl rfl ?_
  have B24 := (hB62).ext (n63.ext)
  have O25 := (hdv).ext (n63.ext)
  have O26 := (hsv).ext (n63.ext)
  refine WL.call ca24 (rfl) rfl (load_yes addr (trapZ (op % 11#8).toNat) q o b62 cv dv sv iv _ _ _ _ _ _ 64 _ (fun _ => 0#8) _ B24 (O25).sl (by decide) (O26).sl hz hW) ?_
  rintro _ w72 ⟨y72, rfl, e72⟩
  have R27 : Ext wna w72 := Mod.trans (R22) (e72)
  have E28 : Ext w w72 := Mod.trans (E23) (e72)
  refine WL.move (v := .tuple #[U64 (y72), .bool true]) rfl rfl (WL.extract rfl rfl rfl (WL.extract rfl rfl rfl (WL.assign (v := U64 (y72)) rfl rfl (WL.assign (v := .bool (true)) rfl rfl (WL.nil (WC.seq (WC.region (WL.move (v := ptr ba 0) rfl rfl (WL.call ca11 (rfl) rfl (run_specN Ta ba (newM (trapImg (op % 11#8).toNat) [addr]) _ (hMa.ext (R27)) 100 (by omega) ((newM_code (by show (codeW (trapL (op % 11#8).toNat)).length ≤ _; omega))) (hG.ext (E28)) (Mod.cell (E28) hX (fun h => h)) (by show (0 : Nat) ≤ _; omega)) ?_)))))))))
  rintro v76 wR76 ⟨hv76, TR76, hMR76, mR76, hsR76⟩
  rw [hrun] at hv76 hMR76
  have hMR76 : MR TR76 wR76 ba Mf := hMR76
  obtain rfl : v76 = IN (6) := hv76
  have hFQ29 := floor_turn hFa hsR76 (Mod.size (E28))
  have EMQ30 : Ext w wR76 := Mod.then (E28) mR76 (fun i hi e => absurd (hFa i e) (Nat.not_le_of_lt hi))
  refine WL.assign (v := IN (6)) rfl rfl (WL.nil (WC.seq (WC.seq (WC.region (WL.move (v := ptr ba 0) rfl rfl (WL.call ca16 (rfl) rfl (trapped_m TR76 ba Mf _ hMR76 (Mod.cell (EMQ30) hX (fun h => h))) ?_))))))
  rintro _ wg78 ⟨rfl, eg78⟩
  rw [hb1]
  have E31 : Ext w wg78 := Mod.trans (EMQ30) (eg78)
  have hQ32 := (hMR76).ext eg78
  refine WL.move (v := .bool (true)) rfl rfl (WL.bin (v := .bool (false)) rfl rfl rfl (BinR.toB (BinR.eqlB Tryz.underlying4) (rfl)) (WL.move (v := .bool (false)) rfl rfl (WL.guardT (rfl) (WL.move (v := .bool (true)) rfl rfl (WL.guardT (rfl) (WL.move (v := .bool (true)) rfl rfl (WL.guardT (rfl) (WL.move (v := IN (6)) rfl rfl (WL.guardT (rfl) ?_)))))))))
  refine WL.bin (v := .bool (false)) rfl rfl rfl (BinR.toB (BinR.neq) (rfl)) (WL.guardT (rfl) (WL.pick (b := true) rfl rfl rfl (WL.pick (b := false) rfl rfl rfl (WL.move (v := .bool (false)) rfl rfl (WL.guardT (rfl) (WL.move (v := .bool (true)) rfl rfl (WL.guardT (rfl) (WL.un rfl rfl UnR.not (WL.guardT (rfl) ?_)))))))))
  refine WL.move (v := .bool (false)) rfl rfl (WL.guardF (b' := false) (rfl) rfl rfl (WL.guardF (b' := false) (rfl) rfl rfl (WL.guardT (rfl) (WL.pick (b := false) rfl rfl rfl (WL.pick (b := false) rfl rfl rfl (WL.move (v := .bool (false)) rfl rfl (WL.guardT (rfl) (WL.move (v := ptr ba 0) rfl rfl (WL.guardT (rfl) ?_)))))))))
  refine WL.call ca17 (rfl) rfl (reg_spec TR76 ba Mf _ hQ32 5 (by decide)) ?_
  rintro _ wg98 ⟨rfl, eg98⟩
  rw [hx5]
  have E33 : Ext w wg98 := Mod.trans (E31) (eg98)
  have hQ34 := (hQ32).ext eg98
  refine WL.guardT (rfl) (WL.move (v := U64 (addr)) rfl rfl (WL.guardT (rfl) (WL.bin (v := .bool (false)) rfl rfl rfl (BinR.toB (BinR.neqU64) (bne_self_eq_false _)) (WL.pick (b := false) rfl rfl rfl (WL.move (v := .bool (false)) rfl rfl (WL.guardT (rfl) (WL.move (v := .bool (true)) rfl rfl (WL.guardT (rfl) (WL.un rfl rfl UnR.not ?_)))))))))
  refine WL.guardT (rfl) (WL.move (v := .bool (false)) rfl rfl (WL.guardF (b' := false) (rfl) rfl rfl (WL.guardF (b' := false) (rfl) rfl rfl (WL.guardF (b' := false) (rfl) rfl rfl (WL.guardT (rfl) (WL.pick (b := false) rfl rfl rfl (WL.pick (b := false) rfl rfl rfl (WL.nil (WC.condF rfl ?_)))))))))
  refine WC.skip (WC.seq (WC.seq (WC.region (WL.assign (v := U64 (0#64)) rfl rfl (WL.nil (WC.block ?_))))))
  refine WC.loop (fun k f w_ => f 9 = ptr ba 0 ∧ f 14 = .bool (true) ∧ f 16 = U64 (0#64) ∧ (MR TR76 w_ ba Mf) ∧ (Ext w w_)) (0) ?_ ?_
  · exact ⟨rfl, rfl, rfl, hQ34, E33⟩
  rintro k f1 wr ⟨h9_1, h14_1, h16_1, hLa, hE⟩
  refine WC.seq (WC.seq (WC.region (WL.move (v := U64 (0#64)) h16_1 rfl (WL.bin (v := .bool (true)) rfl (vy := U64 (64#64)) rfl rfl (BinR.toB (BinR.lssU64) (rfl)) (WL.move (v := .bool (true)) rfl rfl (WL.guardT (rfl) (WL.move (v := .bool (true)) h14_1 rfl (WL.guardT (rfl) (WL.un rfl rfl UnR.not ?_)))))))))
  refine WL.pick (b := true) rfl rfl rfl (WL.nil (WC.condF rfl (WC.exit (WC.seq (WC.region (WL.call ca9 (rfl) rfl (works_spec _ (hG.ext (hE)) (Mod.cell (hE) hX (fun h => h))) ?_))))))
  rintro _ wk132 ⟨rfl, ek132⟩
  have E36 : Ext w wk132 := Mod.trans (hE) (ek132)
  refine WL.assign (v := .bool (true)) rfl rfl (WL.nil (WC.ret ?_))
  exact ⟨_, Res.one (v := .bool (true)) rfl rfl, rfl, E36⟩
end Go.Proofs.S
end
section
set_option linter.unusedVariables false
namespace Go.Proofs.S
open Go Go.Ux Go.Ux.Mach Go.Proofs Go.Proofs.M Go.Ux.Image
theorem traps_spec (op : BitVec 8) (addr : BitVec 64) (w : World) (hG : Glob w) (hX : w.cell? ⟨3, 0, none⟩ = some (.iface 206 (.agg #[.pointer (some ⟨6, 83, none⟩)]))) : CallsR Tryz.prog 6 #[U8 op, U64 addr] w (fun v w' => v = .bool true ∧ Ext w w') := by
  by_cases h7 : (op % 11#8).toNat < 7
  · rcases hW : whereM 64 addr (trapZ (op % 11#8).toNat) with _ | ⟨q, o⟩
    · exact traps_no1 op addr w hG hX h7 hW
    · exact traps_yes1 op addr w hG hX h7 q o hW
  · rcases hW : whereM 64 addr (trapZ (op % 11#8).toNat) with _ | ⟨q, o⟩
    · exact traps_no0 op addr w hG hX h7 hW
    · exact traps_yes0 op addr w hG hX h7 q o hW
end Go.Proofs.S
end
