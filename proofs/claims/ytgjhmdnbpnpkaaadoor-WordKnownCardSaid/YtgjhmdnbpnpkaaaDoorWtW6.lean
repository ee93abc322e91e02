import Derived.Test.YtgjhmdnbpnpkaaaDoorUxMem
import Derived.Test.YtgjhmdnbpnpkaaaDoorWordPure2
import Derived.Test.YtgjhmdnbpnpkaaaDoorRows
import Derived.Test.YtgjhmdnbpnpkaaaDoorWtW5
set_option linter.unusedSimpArgs false
set_option linter.unusedVariables false
namespace Go.Proofs.W
open Go Go.Ux Go.Ux.Word Go.Proofs
theorem zt41 : zeroT Tryd.prog 41 = some #[.nilFunc, .bool false, .bool false, .int .i64 0, .bool false] := by kernel_rfl
theorem bld27_4  : ∀ w : World, (Instr.build 41 #[(0, .func (.func 39) #[] #[]), (1, .bool (true)), (2, .bool (true)), (3, I64 (0#64)), (4, .bool (true))]).run Tryd.prog w = .ok (.agg #[.func (.func 39) #[] #[], .bool (true), .bool (true), I64 (0#64), .bool (true)]) w := fun _ => by kernel_rfl
theorem bld27_5  : ∀ w : World, (Instr.build 41 #[(0, .func (.func 40) #[] #[]), (1, .bool (false)), (2, .bool (false)), (3, I64 (0#64)), (4, .bool (true))]).run Tryd.prog w = .ok (.agg #[.func (.func 40) #[] #[], .bool (false), .bool (false), I64 (0#64), .bool (true)]) w := fun _ => by kernel_rfl
theorem bld27_6  : ∀ w : World, (Instr.build 41 #[(0, .func (.func 41) #[] #[]), (1, .bool (true)), (2, .bool (true)), (3, I64 (1#64)), (4, .bool (true))]).run Tryd.prog w = .ok (.agg #[.func (.func 41) #[] #[], .bool (true), .bool (true), I64 (1#64), .bool (true)]) w := fun _ => by kernel_rfl
theorem bld27_7  : ∀ w : World, (Instr.build 41 #[(0, .func (.func 42) #[] #[]), (1, .bool (false)), (2, .bool (false)), (3, I64 (1#64)), (4, .bool (true))]).run Tryd.prog w = .ok (.agg #[.func (.func 42) #[] #[], .bool (false), .bool (false), I64 (1#64), .bool (true)]) w := fun _ => by kernel_rfl
theorem bld27_8  : ∀ w : World, (Instr.build 41 #[(0, .func (.func 43) #[] #[]), (1, .bool (false)), (2, .bool (false)), (3, I64 (0#64)), (4, .bool (true))]).run Tryd.prog w = .ok (.agg #[.func (.func 43) #[] #[], .bool (false), .bool (false), I64 (0#64), .bool (true)]) w := fun _ => by kernel_rfl
theorem bld27_9  : ∀ w : World, (Instr.build 41 #[(0, .func (.func 44) #[] #[]), (1, .bool (false)), (2, .bool (false)), (3, I64 (1#64)), (4, .bool (true))]).run Tryd.prog w = .ok (.agg #[.func (.func 44) #[] #[], .bool (false), .bool (false), I64 (1#64), .bool (true)]) w := fun _ => by kernel_rfl
theorem bld27_10  : ∀ w : World, (Instr.build 41 #[(0, .func (.func 45) #[] #[]), (1, .bool (false)), (2, .bool (false)), (3, I64 (0#64)), (4, .bool (true))]).run Tryd.prog w = .ok (.agg #[.func (.func 45) #[] #[], .bool (false), .bool (false), I64 (0#64), .bool (true)]) w := fun _ => by kernel_rfl
theorem bld27_11  : ∀ w : World, (Instr.build 41 #[(0, .func (.func 46) #[] #[]), (1, .bool (true)), (2, .bool (true)), (3, I64 (BitVec.ofInt 64 (-1))), (4, .bool (true))]).run Tryd.prog w = .ok (.agg #[.func (.func 46) #[] #[], .bool (true), .bool (true), I64 (BitVec.ofInt 64 (-1)), .bool (true)]) w := fun _ => by kernel_rfl
theorem bld27_12  : ∀ w : World, (Instr.build 41 #[(0, .func (.func 47) #[] #[]), (1, .bool (true)), (2, .bool (true)), (3, I64 (0#64)), (4, .bool (true))]).run Tryd.prog w = .ok (.agg #[.func (.func 47) #[] #[], .bool (true), .bool (true), I64 (0#64), .bool (true)]) w := fun _ => by kernel_rfl
theorem bld27_13  : ∀ w : World, (Instr.build 41 #[(0, .func (.func 48) #[] #[]), (1, .bool (true)), (2, .bool (true)), (3, I64 (0#64)), (4, .bool (true))]).run Tryd.prog w = .ok (.agg #[.func (.func 48) #[] #[], .bool (true), .bool (true), I64 (0#64), .bool (true)]) w := fun _ => by kernel_rfl
theorem bld27_14  : ∀ w : World, (Instr.build 41 #[(0, .func (.func 49) #[] #[]), (1, .bool (false)), (2, .bool (false)), (3, I64 (0#64)), (4, .bool (true))]).run Tryd.prog w = .ok (.agg #[.func (.func 49) #[] #[], .bool (false), .bool (false), I64 (0#64), .bool (true)]) w := fun _ => by kernel_rfl
theorem bld27_15  : ∀ w : World, (Instr.build 41 #[(0, .func (.func 50) #[] #[]), (1, .bool (false)), (2, .bool (false)), (3, I64 (0#64)), (4, .bool (true))]).run Tryd.prog w = .ok (.agg #[.func (.func 50) #[] #[], .bool (false), .bool (false), I64 (0#64), .bool (true)]) w := fun _ => by kernel_rfl
theorem bld27_16  : ∀ w : World, (Instr.build 41 #[(0, .func (.func 51) #[] #[]), (1, .bool (false)), (2, .bool (false)), (3, I64 (0#64)), (4, .bool (true))]).run Tryd.prog w = .ok (.agg #[.func (.func 51) #[] #[], .bool (false), .bool (false), I64 (0#64), .bool (true)]) w := fun _ => by kernel_rfl
theorem bld27_17  : ∀ w : World, (Instr.build 41 #[(0, .func (.func 52) #[] #[]), (1, .bool (false)), (2, .bool (false)), (3, I64 (0#64)), (4, .bool (false))]).run Tryd.prog w = .ok (.agg #[.func (.func 52) #[] #[], .bool (false), .bool (false), I64 (0#64), .bool (false)]) w := fun _ => by kernel_rfl
theorem bld27_18  : ∀ w : World, (Instr.build 41 #[(0, .func (.func 54) #[] #[]), (1, .bool (false)), (2, .bool (false)), (3, I64 (0#64)), (4, .bool (false))]).run Tryd.prog w = .ok (.agg #[.func (.func 54) #[] #[], .bool (false), .bool (false), I64 (0#64), .bool (false)]) w := fun _ => by kernel_rfl
theorem bld27_19  : ∀ w : World, (Instr.build 41 #[(0, .func (.func 55) #[] #[]), (1, .bool (true)), (2, .bool (false)), (3, I64 (0#64)), (4, .bool (false))]).run Tryd.prog w = .ok (.agg #[.func (.func 55) #[] #[], .bool (true), .bool (false), I64 (0#64), .bool (false)]) w := fun _ => by kernel_rfl
theorem bld27_20  : ∀ w : World, (Instr.build 52 #[(1, .agg #[.func (.func 39) #[] #[], .bool (true), .bool (true), I64 (0#64), .bool (true)]), (2, .agg #[.func (.func 40) #[] #[], .bool (false), .bool (false), I64 (0#64), .bool (true)]), (3, .agg #[.func (.func 41) #[] #[], .bool (true), .bool (true), I64 (1#64), .bool (true)]), (4, .agg #[.func (.func 42) #[] #[], .bool (false), .bool (false), I64 (1#64), .bool (true)]), (5, .agg #[.func (.func 43) #[] #[], .bool (false), .bool (false), I64 (0#64), .bool (true)]), (6, .agg #[.func (.func 44) #[] #[], .bool (false), .bool (false), I64 (1#64), .bool (true)]), (7, .agg #[.func (.func 45) #[] #[], .bool (false), .bool (false), I64 (0#64), .bool (true)]), (8, .agg #[.func (.func 46) #[] #[], .bool (true), .bool (true), I64 (BitVec.ofInt 64 (-1)), .bool (true)]), (9, .agg #[.func (.func 47) #[] #[], .bool (true), .bool (true), I64 (0#64), .bool (true)]), (10, .agg #[.func (.func 48) #[] #[], .bool (true), .bool (true), I64 (0#64), .bool (true)]), (11, .agg #[.func (.func 49) #[] #[], .bool (false), .bool (false), I64 (0#64), .bool (true)]), (12, .agg #[.func (.func 50) #[] #[], .bool (false), .bool (false), I64 (0#64), .bool (true)]), (13, .agg #[.func (.func 51) #[] #[], .bool (false), .bool (false), I64 (0#64), .bool (true)]), (14, .agg #[.func (.func 52) #[] #[], .bool (false), .bool (false), I64 (0#64), .bool (false)]), (15, .agg #[.func (.func 54) #[] #[], .bool (false), .bool (false), I64 (0#64), .bool (false)]), (16, .agg #[.func (.func 55) #[] #[], .bool (true), .bool (false), I64 (0#64), .bool (false)])]).run Tryd.prog w = .ok (.agg #[.nilFunc, .bool (false), .bool (false), IN (0), .bool (false), .func (.func 39) #[] #[], .bool (true), .bool (true), I64 (0#64), .bool (true), .func (.func 40) #[] #[], .bool (false), .bool (false), I64 (0#64), .bool (true), .func (.func 41) #[] #[], .bool (true), .bool (true), I64 (1#64), .bool (true), .func (.func 42) #[] #[], .bool (false), .bool (false), I64 (1#64), .bool (true), .func (.func 43) #[] #[], .bool (false), .bool (false), I64 (0#64), .bool (true), .func (.func 44) #[] #[], .bool (false), .bool (false), I64 (1#64), .bool (true), .func (.func 45) #[] #[], .bool (false), .bool (false), I64 (0#64), .bool (true), .func (.func 46) #[] #[], .bool (true), .bool (true), I64 (BitVec.ofInt 64 (-1)), .bool (true), .func (.func 47) #[] #[], .bool (true), .bool (true), I64 (0#64), .bool (true), .func (.func 48) #[] #[], .bool (true), .bool (true), I64 (0#64), .bool (true), .func (.func 49) #[] #[], .bool (false), .bool (false), I64 (0#64), .bool (true), .func (.func 50) #[] #[], .bool (false), .bool (false), I64 (0#64), .bool (true), .func (.func 51) #[] #[], .bool (false), .bool (false), I64 (0#64), .bool (true), .func (.func 52) #[] #[], .bool (false), .bool (false), I64 (0#64), .bool (false), .func (.func 54) #[] #[], .bool (false), .bool (false), I64 (0#64), .bool (false), .func (.func 55) #[] #[], .bool (true), .bool (false), I64 (0#64), .bool (false)]) w := fun _ => by kernel_rfl
theorem zt52 : zeroT Tryd.prog 52 = some #[.nilFunc, .bool false, .bool false, .int .i64 0, .bool false, .nilFunc, .bool false, .bool false, .int .i64 0, .bool false, .nilFunc, .bool false, .bool false, .int .i64 0, .bool false, .nilFunc, .bool false, .bool false, .int .i64 0, .bool false, .nilFunc, .bool false, .bool false, .int .i64 0, .bool false, .nilFunc, .bool false, .bool false, .int .i64 0, .bool false, .nilFunc, .bool false, .bool false, .int .i64 0, .bool false, .nilFunc, .bool false, .bool false, .int .i64 0, .bool false, .nilFunc, .bool false, .bool false, .int .i64 0, .bool false, .nilFunc, .bool false, .bool false, .int .i64 0, .bool false, .nilFunc, .bool false, .bool false, .int .i64 0, .bool false, .nilFunc, .bool false, .bool false, .int .i64 0, .bool false, .nilFunc, .bool false, .bool false, .int .i64 0, .bool false, .nilFunc, .bool false, .bool false, .int .i64 0, .bool false, .nilFunc, .bool false, .bool false, .int .i64 0, .bool false, .nilFunc, .bool false, .bool false, .int .i64 0, .bool false, .nilFunc, .bool false, .bool false, .int .i64 0, .bool false] := by kernel_rfl
theorem sz52 : sizeT Tryd.prog 52 = some 85 := by kernel_rfl
theorem ar52 : arrT Tryd.prog 52 = some (17, 41) := by kernel_rfl
theorem sz41 : sizeT Tryd.prog 41 = some 5 := by kernel_rfl
theorem ag41 : isAggT Tryd.prog 41 = some true := by kernel_rfl
theorem bld27_24  : ∀ w : World, (Instr.build 41 #[]).run Tryd.prog w = .ok (.agg #[.nilFunc, .bool (false), .bool (false), IN (0), .bool (false)]) w := fun _ => by kernel_rfl

def rowOf : Nat → List Value
  | 1 => [.func (.func 39) #[] #[], .bool true, .bool true, .int .i64 0, .bool true]
  | 2 => [.func (.func 40) #[] #[], .bool false, .bool false, .int .i64 0, .bool true]
  | 3 => [.func (.func 41) #[] #[], .bool true, .bool true, .int .i64 1, .bool true]
  | 4 => [.func (.func 42) #[] #[], .bool false, .bool false, .int .i64 1, .bool true]
  | 5 => [.func (.func 43) #[] #[], .bool false, .bool false, .int .i64 0, .bool true]
  | 6 => [.func (.func 44) #[] #[], .bool false, .bool false, .int .i64 1, .bool true]
  | 7 => [.func (.func 45) #[] #[], .bool false, .bool false, .int .i64 0, .bool true]
  | 8 => [.func (.func 46) #[] #[], .bool true, .bool true, .int .i64 (-1), .bool true]
  | 9 => [.func (.func 47) #[] #[], .bool true, .bool true, .int .i64 0, .bool true]
  | 10 => [.func (.func 48) #[] #[], .bool true, .bool true, .int .i64 0, .bool true]
  | 11 => [.func (.func 49) #[] #[], .bool false, .bool false, .int .i64 0, .bool true]
  | 12 => [.func (.func 50) #[] #[], .bool false, .bool false, .int .i64 0, .bool true]
  | 13 => [.func (.func 51) #[] #[], .bool false, .bool false, .int .i64 0, .bool true]
  | 14 => [.func (.func 52) #[] #[], .bool false, .bool false, .int .i64 0, .bool false]
  | 15 => [.func (.func 54) #[] #[], .bool false, .bool false, .int .i64 0, .bool false]
  | 16 => [.func (.func 55) #[] #[], .bool true, .bool false, .int .i64 0, .bool false]
  | _ => [.nilFunc, .bool false, .bool false, .int .i64 0, .bool false]

def allCells : List Value := (List.range 17).flatMap rowOf
theorem rowCells : ∀ n : Nat, n < 17 → ((#[.nilFunc, .bool false, .bool false, .int .i64 0, .bool false, .func (.func 39) #[] #[], .bool true, .bool true, .int .i64 0, .bool true, .func (.func 40) #[] #[], .bool false, .bool false, .int .i64 0, .bool true, .func (.func 41) #[] #[], .bool true, .bool true, .int .i64 1, .bool true, .func (.func 42) #[] #[], .bool false, .bool false, .int .i64 1, .bool true, .func (.func 43) #[] #[], .bool false, .bool false, .int .i64 0, .bool true, .func (.func 44) #[] #[], .bool false, .bool false, .int .i64 1, .bool true, .func (.func 45) #[] #[], .bool false, .bool false, .int .i64 0, .bool true, .func (.func 46) #[] #[], .bool true, .bool true, .int .i64 (-1), .bool true, .func (.func 47) #[] #[], .bool true, .bool true, .int .i64 0, .bool true, .func (.func 48) #[] #[], .bool true, .bool true, .int .i64 0, .bool true, .func (.func 49) #[] #[], .bool false, .bool false, .int .i64 0, .bool true, .func (.func 50) #[] #[], .bool false, .bool false, .int .i64 0, .bool true, .func (.func 51) #[] #[], .bool false, .bool false, .int .i64 0, .bool true, .func (.func 52) #[] #[], .bool false, .bool false, .int .i64 0, .bool false, .func (.func 54) #[] #[], .bool false, .bool false, .int .i64 0, .bool false, .func (.func 55) #[] #[], .bool true, .bool false, .int .i64 0, .bool false] : Array Value).toList.drop (0 + n * 5)).take (rowOf n).length = rowOf n
  | 0, _ => rfl
  | 1, _ => rfl
  | 2, _ => rfl
  | 3, _ => rfl
  | 4, _ => rfl
  | 5, _ => rfl
  | 6, _ => rfl
  | 7, _ => rfl
  | 8, _ => rfl
  | 9, _ => rfl
  | 10, _ => rfl
  | 11, _ => rfl
  | 12, _ => rfl
  | 13, _ => rfl
  | 14, _ => rfl
  | 15, _ => rfl
  | 16, _ => rfl
  | n + 17, h => absurd h (by omega)

theorem rowLen : ∀ n : Nat, (rowOf n).length = 5 := by intro n; unfold rowOf; split <;> rfl
theorem rowNone (n : Nat) (h : n = 0 ∨ 16 < n) : rowOf n = [.nilFunc, .bool false, .bool false, .int .i64 0, .bool false] := by unfold rowOf; split <;> first | rfl | omega
theorem rowOne (n : Nat) : (rowOf n).all (fun u => u.oneCell') = true := by unfold rowOf; split <;> rfl

theorem of_lt (n : Nat) (w : World) (hn : n < 17) : CallsR Tryd.prog 27 #[.int .u8 (((n : Nat) : Int))] w (fun v w' => v = .agg (rowOf n).toArray ∧ Ext w w') := by
  refine callsR_of Tryd.func27 rfl rfl rfl ?_
  refine WC.seq ?_
  refine WC.region ?_
  refine WL.alloc zt41 rfl ?_
  intro b2 w2 n2
  have E1 : Ext w w2 := Mod.trans (Mod.refl _ _) (n2.ext)
  refine WL.nil ?_
  refine WC.seq ?_
  refine WC.region ?_
  refine WL.build (vs := [(0, .func (.func 39) #[] #[]), (1, .bool (true)), (2, .bool (true)), (3, I64 (0#64)), (4, .bool (true))]) rfl (bld27_4) rfl ?_
  refine WL.build (vs := [(0, .func (.func 40) #[] #[]), (1, .bool (false)), (2, .bool (false)), (3, I64 (0#64)), (4, .bool (true))]) rfl (bld27_5) rfl ?_
  refine WL.build (vs := [(0, .func (.func 41) #[] #[]), (1, .bool (true)), (2, .bool (true)), (3, I64 (1#64)), (4, .bool (true))]) rfl (bld27_6) rfl ?_
  refine WL.build (vs := [(0, .func (.func 42) #[] #[]), (1, .bool (false)), (2, .bool (false)), (3, I64 (1#64)), (4, .bool (true))]) rfl (bld27_7) rfl ?_
  refine WL.build (vs := [(0, .func (.func 43) #[] #[]), (1, .bool (false)), (2, .bool (false)), (3, I64 (0#64)), (4, .bool (true))]) rfl (bld27_8) rfl ?_
  refine WL.build (vs := [(0, .func (.func 44) #[] #[]), (1, .bool (false)), (2, .bool (false)), (3, I64 (1#64)), (4, .bool (true))]) rfl (bld27_9) rfl ?_
  refine WL.build (vs := [(0, .func (.func 45) #[] #[]), (1, .bool (false)), (2, .bool (false)), (3, I64 (0#64)), (4, .bool (true))]) rfl (bld27_10) rfl ?_
  refine WL.build (vs := [(0, .func (.func 46) #[] #[]), (1, .bool (true)), (2, .bool (true)), (3, I64 (BitVec.ofInt 64 (-1))), (4, .bool (true))]) rfl (bld27_11) rfl ?_
  refine WL.build (vs := [(0, .func (.func 47) #[] #[]), (1, .bool (true)), (2, .bool (true)), (3, I64 (0#64)), (4, .bool (true))]) rfl (bld27_12) rfl ?_
  refine WL.build (vs := [(0, .func (.func 48) #[] #[]), (1, .bool (true)), (2, .bool (true)), (3, I64 (0#64)), (4, .bool (true))]) rfl (bld27_13) rfl ?_
  refine WL.build (vs := [(0, .func (.func 49) #[] #[]), (1, .bool (false)), (2, .bool (false)), (3, I64 (0#64)), (4, .bool (true))]) rfl (bld27_14) rfl ?_
  refine WL.build (vs := [(0, .func (.func 50) #[] #[]), (1, .bool (false)), (2, .bool (false)), (3, I64 (0#64)), (4, .bool (true))]) rfl (bld27_15) rfl ?_
  refine WL.build (vs := [(0, .func (.func 51) #[] #[]), (1, .bool (false)), (2, .bool (false)), (3, I64 (0#64)), (4, .bool (true))]) rfl (bld27_16) rfl ?_
  refine WL.build (vs := [(0, .func (.func 52) #[] #[]), (1, .bool (false)), (2, .bool (false)), (3, I64 (0#64)), (4, .bool (false))]) rfl (bld27_17) rfl ?_
  refine WL.build (vs := [(0, .func (.func 54) #[] #[]), (1, .bool (false)), (2, .bool (false)), (3, I64 (0#64)), (4, .bool (false))]) rfl (bld27_18) rfl ?_
  refine WL.build (vs := [(0, .func (.func 55) #[] #[]), (1, .bool (true)), (2, .bool (false)), (3, I64 (0#64)), (4, .bool (false))]) rfl (bld27_19) rfl ?_
  refine WL.build (vs := [(1, .agg #[.func (.func 39) #[] #[], .bool (true), .bool (true), I64 (0#64), .bool (true)]), (2, .agg #[.func (.func 40) #[] #[], .bool (false), .bool (false), I64 (0#64), .bool (true)]), (3, .agg #[.func (.func 41) #[] #[], .bool (true), .bool (true), I64 (1#64), .bool (true)]), (4, .agg #[.func (.func 42) #[] #[], .bool (false), .bool (false), I64 (1#64), .bool (true)]), (5, .agg #[.func (.func 43) #[] #[], .bool (false), .bool (false), I64 (0#64), .bool (true)]), (6, .agg #[.func (.func 44) #[] #[], .bool (false), .bool (false), I64 (1#64), .bool (true)]), (7, .agg #[.func (.func 45) #[] #[], .bool (false), .bool (false), I64 (0#64), .bool (true)]), (8, .agg #[.func (.func 46) #[] #[], .bool (true), .bool (true), I64 (BitVec.ofInt 64 (-1)), .bool (true)]), (9, .agg #[.func (.func 47) #[] #[], .bool (true), .bool (true), I64 (0#64), .bool (true)]), (10, .agg #[.func (.func 48) #[] #[], .bool (true), .bool (true), I64 (0#64), .bool (true)]), (11, .agg #[.func (.func 49) #[] #[], .bool (false), .bool (false), I64 (0#64), .bool (true)]), (12, .agg #[.func (.func 50) #[] #[], .bool (false), .bool (false), I64 (0#64), .bool (true)]), (13, .agg #[.func (.func 51) #[] #[], .bool (false), .bool (false), I64 (0#64), .bool (true)]), (14, .agg #[.func (.func 52) #[] #[], .bool (false), .bool (false), I64 (0#64), .bool (false)]), (15, .agg #[.func (.func 54) #[] #[], .bool (false), .bool (false), I64 (0#64), .bool (false)]), (16, .agg #[.func (.func 55) #[] #[], .bool (true), .bool (false), I64 (0#64), .bool (false)])]) rfl (bld27_20) rfl ?_
  refine WL.allocStore (v := .agg #[.nilFunc, .bool (false), .bool (false), IN (0), .bool (false), .func (.func 39) #[] #[], .bool (true), .bool (true), I64 (0#64), .bool (true), .func (.func 40) #[] #[], .bool (false), .bool (false), I64 (0#64), .bool (true), .func (.func 41) #[] #[], .bool (true), .bool (true), I64 (1#64), .bool (true), .func (.func 42) #[] #[], .bool (false), .bool (false), I64 (1#64), .bool (true), .func (.func 43) #[] #[], .bool (false), .bool (false), I64 (0#64), .bool (true), .func (.func 44) #[] #[], .bool (false), .bool (false), I64 (1#64), .bool (true), .func (.func 45) #[] #[], .bool (false), .bool (false), I64 (0#64), .bool (true), .func (.func 46) #[] #[], .bool (true), .bool (true), I64 (BitVec.ofInt 64 (-1)), .bool (true), .func (.func 47) #[] #[], .bool (true), .bool (true), I64 (0#64), .bool (true), .func (.func 48) #[] #[], .bool (true), .bool (true), I64 (0#64), .bool (true), .func (.func 49) #[] #[], .bool (false), .bool (false), I64 (0#64), .bool (true), .func (.func 50) #[] #[], .bool (false), .bool (false), I64 (0#64), .bool (true), .func (.func 51) #[] #[], .bool (false), .bool (false), I64 (0#64), .bool (true), .func (.func 52) #[] #[], .bool (false), .bool (false), I64 (0#64), .bool (false), .func (.func 54) #[] #[], .bool (false), .bool (false), I64 (0#64), .bool (false), .func (.func 55) #[] #[], .bool (true), .bool (false), I64 (0#64), .bool (false)]) zt52 rfl sz52 rfl rfl rfl rfl ?_
  intro b3 w3 n3
  have E2 : Ext w w3 := Mod.trans (E1) (n3.ext)
  refine WL.nil ?_
  refine WC.seq ?_
  refine WC.seq ?_
  refine WC.region ?_
  refine WL.move (v := .int .u8 (((n : Nat) : Int))) rfl rfl ?_
  refine WL.conv (v := IN (n)) rfl rfl (ConvR.toI Tryd.underlying22 Tryd.underlying3 (by omega)) ?_
  refine WL.bin rfl rfl rfl (BinR.geq) ?_
  refine WL.nil ?_
  refine WC.condF (congrArg Value.bool (decide_eq_false (by omega))) ?_
  refine WC.skip ?_
  refine WC.seq ?_
  refine WC.region ?_
  refine WL.move (v := .int .u8 (((n : Nat) : Int))) rfl rfl ?_
  refine WL.indexArr (i := n) ar52 sz41 rfl rfl (by omega) rfl ?_
  refine WL.loadS (rowOf n) rfl ag41 sz41 (rowLen n) (n3.blk.sub (o := 0 + n * 5) (vs := rowOf n) (rowCells n hn)) rfl ?_
  have B3 := (n2.blk).ext (n3.ext)
  refine WL.storeS (v := .agg (rowOf n).toArray) rfl rfl B3 rfl sz41 (by simp [Value.cells, rowLen]) (rowOne n) ?_
  intro ws4 ms4 bs4 zs4
  have E4 : Ext w ws4 := Mod.own (Mod.refl _ _) n2 (E2) (ms4)
  refine WL.nil ?_
  refine WC.ret ?_
  exact ⟨_, Res.cell rfl rfl (loadVar_agg (rowOf n) ag41 sz41 (rowLen n) (bs4.sub (o := 0) (by simp [Value.cells]))), rfl, E4⟩

theorem of_ge (n : Nat) (w : World) (hn : 16 < n) (hn2 : n < 256) : CallsR Tryd.prog 27 #[.int .u8 (((n : Nat) : Int))] w (fun v w' => v = .agg (rowOf n).toArray ∧ Ext w w') := by
  refine callsR_of Tryd.func27 rfl rfl rfl ?_
  refine WC.seq ?_
  refine WC.region ?_
  refine WL.alloc zt41 rfl ?_
  intro b2 w2 n2
  have E1 : Ext w w2 := Mod.trans (Mod.refl _ _) (n2.ext)
  refine WL.nil ?_
  refine WC.seq ?_
  refine WC.region ?_
  refine WL.build (vs := [(0, .func (.func 39) #[] #[]), (1, .bool (true)), (2, .bool (true)), (3, I64 (0#64)), (4, .bool (true))]) rfl (bld27_4) rfl ?_
  refine WL.build (vs := [(0, .func (.func 40) #[] #[]), (1, .bool (false)), (2, .bool (false)), (3, I64 (0#64)), (4, .bool (true))]) rfl (bld27_5) rfl ?_
  refine WL.build (vs := [(0, .func (.func 41) #[] #[]), (1, .bool (true)), (2, .bool (true)), (3, I64 (1#64)), (4, .bool (true))]) rfl (bld27_6) rfl ?_
  refine WL.build (vs := [(0, .func (.func 42) #[] #[]), (1, .bool (false)), (2, .bool (false)), (3, I64 (1#64)), (4, .bool (true))]) rfl (bld27_7) rfl ?_
  refine WL.build (vs := [(0, .func (.func 43) #[] #[]), (1, .bool (false)), (2, .bool (false)), (3, I64 (0#64)), (4, .bool (true))]) rfl (bld27_8) rfl ?_
  refine WL.build (vs := [(0, .func (.func 44) #[] #[]), (1, .bool (false)), (2, .bool (false)), (3, I64 (1#64)), (4, .bool (true))]) rfl (bld27_9) rfl ?_
  refine WL.build (vs := [(0, .func (.func 45) #[] #[]), (1, .bool (false)), (2, .bool (false)), (3, I64 (0#64)), (4, .bool (true))]) rfl (bld27_10) rfl ?_
  refine WL.build (vs := [(0, .func (.func 46) #[] #[]), (1, .bool (true)), (2, .bool (true)), (3, I64 (BitVec.ofInt 64 (-1))), (4, .bool (true))]) rfl (bld27_11) rfl ?_
  refine WL.build (vs := [(0, .func (.func 47) #[] #[]), (1, .bool (true)), (2, .bool (true)), (3, I64 (0#64)), (4, .bool (true))]) rfl (bld27_12) rfl ?_
  refine WL.build (vs := [(0, .func (.func 48) #[] #[]), (1, .bool (true)), (2, .bool (true)), (3, I64 (0#64)), (4, .bool (true))]) rfl (bld27_13) rfl ?_
  refine WL.build (vs := [(0, .func (.func 49) #[] #[]), (1, .bool (false)), (2, .bool (false)), (3, I64 (0#64)), (4, .bool (true))]) rfl (bld27_14) rfl ?_
  refine WL.build (vs := [(0, .func (.func 50) #[] #[]), (1, .bool (false)), (2, .bool (false)), (3, I64 (0#64)), (4, .bool (true))]) rfl (bld27_15) rfl ?_
  refine WL.build (vs := [(0, .func (.func 51) #[] #[]), (1, .bool (false)), (2, .bool (false)), (3, I64 (0#64)), (4, .bool (true))]) rfl (bld27_16) rfl ?_
  refine WL.build (vs := [(0, .func (.func 52) #[] #[]), (1, .bool (false)), (2, .bool (false)), (3, I64 (0#64)), (4, .bool (false))]) rfl (bld27_17) rfl ?_
  refine WL.build (vs := [(0, .func (.func 54) #[] #[]), (1, .bool (false)), (2, .bool (false)), (3, I64 (0#64)), (4, .bool (false))]) rfl (bld27_18) rfl ?_
  refine WL.build (vs := [(0, .func (.func 55) #[] #[]), (1, .bool (true)), (2, .bool (false)), (3, I64 (0#64)), (4, .bool (false))]) rfl (bld27_19) rfl ?_
  refine WL.build (vs := [(1, .agg #[.func (.func 39) #[] #[], .bool (true), .bool (true), I64 (0#64), .bool (true)]), (2, .agg #[.func (.func 40) #[] #[], .bool (false), .bool (false), I64 (0#64), .bool (true)]), (3, .agg #[.func (.func 41) #[] #[], .bool (true), .bool (true), I64 (1#64), .bool (true)]), (4, .agg #[.func (.func 42) #[] #[], .bool (false), .bool (false), I64 (1#64), .bool (true)]), (5, .agg #[.func (.func 43) #[] #[], .bool (false), .bool (false), I64 (0#64), .bool (true)]), (6, .agg #[.func (.func 44) #[] #[], .bool (false), .bool (false), I64 (1#64), .bool (true)]), (7, .agg #[.func (.func 45) #[] #[], .bool (false), .bool (false), I64 (0#64), .bool (true)]), (8, .agg #[.func (.func 46) #[] #[], .bool (true), .bool (true), I64 (BitVec.ofInt 64 (-1)), .bool (true)]), (9, .agg #[.func (.func 47) #[] #[], .bool (true), .bool (true), I64 (0#64), .bool (true)]), (10, .agg #[.func (.func 48) #[] #[], .bool (true), .bool (true), I64 (0#64), .bool (true)]), (11, .agg #[.func (.func 49) #[] #[], .bool (false), .bool (false), I64 (0#64), .bool (true)]), (12, .agg #[.func (.func 50) #[] #[], .bool (false), .bool (false), I64 (0#64), .bool (true)]), (13, .agg #[.func (.func 51) #[] #[], .bool (false), .bool (false), I64 (0#64), .bool (true)]), (14, .agg #[.func (.func 52) #[] #[], .bool (false), .bool (false), I64 (0#64), .bool (false)]), (15, .agg #[.func (.func 54) #[] #[], .bool (false), .bool (false), I64 (0#64), .bool (false)]), (16, .agg #[.func (.func 55) #[] #[], .bool (true), .bool (false), I64 (0#64), .bool (false)])]) rfl (bld27_20) rfl ?_
  refine WL.allocStore (v := .agg #[.nilFunc, .bool (false), .bool (false), IN (0), .bool (false), .func (.func 39) #[] #[], .bool (true), .bool (true), I64 (0#64), .bool (true), .func (.func 40) #[] #[], .bool (false), .bool (false), I64 (0#64), .bool (true), .func (.func 41) #[] #[], .bool (true), .bool (true), I64 (1#64), .bool (true), .func (.func 42) #[] #[], .bool (false), .bool (false), I64 (1#64), .bool (true), .func (.func 43) #[] #[], .bool (false), .bool (false), I64 (0#64), .bool (true), .func (.func 44) #[] #[], .bool (false), .bool (false), I64 (1#64), .bool (true), .func (.func 45) #[] #[], .bool (false), .bool (false), I64 (0#64), .bool (true), .func (.func 46) #[] #[], .bool (true), .bool (true), I64 (BitVec.ofInt 64 (-1)), .bool (true), .func (.func 47) #[] #[], .bool (true), .bool (true), I64 (0#64), .bool (true), .func (.func 48) #[] #[], .bool (true), .bool (true), I64 (0#64), .bool (true), .func (.func 49) #[] #[], .bool (false), .bool (false), I64 (0#64), .bool (true), .func (.func 50) #[] #[], .bool (false), .bool (false), I64 (0#64), .bool (true), .func (.func 51) #[] #[], .bool (false), .bool (false), I64 (0#64), .bool (true), .func (.func 52) #[] #[], .bool (false), .bool (false), I64 (0#64), .bool (false), .func (.func 54) #[] #[], .bool (false), .bool (false), I64 (0#64), .bool (false), .func (.func 55) #[] #[], .bool (true), .bool (false), I64 (0#64), .bool (false)]) zt52 rfl sz52 rfl rfl rfl rfl ?_
  intro b3 w3 n3
  have E2 : Ext w w3 := Mod.trans (E1) (n3.ext)
  refine WL.nil ?_
  refine WC.seq ?_
  refine WC.seq ?_
  refine WC.region ?_
  refine WL.move (v := .int .u8 (((n : Nat) : Int))) rfl rfl ?_
  refine WL.conv (v := IN (n)) rfl rfl (ConvR.toI Tryd.underlying22 Tryd.underlying3 (by omega)) ?_
  refine WL.bin rfl rfl rfl (BinR.geq) ?_
  refine WL.nil ?_
  refine WC.condT (congrArg Value.bool (decide_eq_true (by omega))) ?_
  refine WC.seq ?_
  refine WC.region ?_
  refine WL.build (vs := []) rfl (bld27_24) rfl ?_
  have B3 := (n2.blk).ext (n3.ext)
  refine WL.storeS (v := .agg #[.nilFunc, .bool (false), .bool (false), IN (0), .bool (false)]) rfl rfl B3 rfl sz41 rfl rfl ?_
  intro ws4 ms4 bs4 zs4
  have E4 : Ext w ws4 := Mod.own (Mod.refl _ _) n2 (E2) (ms4)
  refine WL.nil ?_
  refine WC.ret ?_
  exact ⟨_, Res.cell rfl rfl (loadVar_agg [.nilFunc, .bool (false), .bool (false), IN (0), .bool (false)] ag41 sz41 rfl (bs4.sub (o := 0) rfl)), congrArg (fun l : List Value => Value.agg l.toArray) (rowNone n (.inr hn)).symm, E4⟩

theorem of_spec (n : Nat) (w : World) (hn : n < 256) : CallsR Tryd.prog 27 #[.int .u8 ((n : Nat) : Int)] w (fun v w' => v = .agg (rowOf n).toArray ∧ Ext w w') := by
  by_cases h : n < 17
  · exact of_lt n w h
  · exact of_ge n w (by omega) hn
end Go.Proofs.W
