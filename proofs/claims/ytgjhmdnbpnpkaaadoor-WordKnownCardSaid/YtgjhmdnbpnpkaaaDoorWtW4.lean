import Derived.Test.YtgjhmdnbpnpkaaaDoorUxMem
import Derived.Test.YtgjhmdnbpnpkaaaDoorWordPure2
import Derived.Test.YtgjhmdnbpnpkaaaDoorRows
import Derived.Test.YtgjhmdnbpnpkaaaDoorWtW3
set_option linter.unusedSimpArgs false
set_option linter.unusedVariables false
namespace Go.Proofs.W
open Go Go.Ux Go.Ux.Word Go.Proofs
theorem ca30 : callable Tryd.prog 30 = true := by kernel_rfl
theorem ca31 : callable Tryd.prog 31 = true := by kernel_rfl
theorem ca32 : callable Tryd.prog 32 = true := by kernel_rfl
theorem ca34 : callable Tryd.prog 34 = true := by kernel_rfl

theorem bit63_spec (x : BitVec 64) (w : World) : CallsR Tryd.prog 33 #[I64 x, IN 63] w (fun v w' => v = U64 (b01 (x.getLsbD 63)) ∧ w = w') := by rw [← bitU_b01]; exact bit_spec x 63 w

theorem refDo1 (x y : BitVec 64) (w : World) : CallsR Tryd.prog 12 #[.int .u8 (1), I64 (x), I64 (y)] w (fun v w' => v = I64 (opW 1 x y) ∧ w = w') := by
  refine callsR_of Tryd.func12 rfl rfl rfl ?_
  refine WC.seq ?_
  refine WC.region ?_
  refine WL.assign (v := I64 (0#64)) rfl rfl ?_
  refine WL.nil ?_
  refine WC.seq ?_
  refine WC.region ?_
  refine WL.move (v := I64 (y)) rfl rfl ?_
  refine WL.conv rfl rfl (ConvR.i64u64 Tryd.underlying2 Tryd.underlying43) ?_
  refine WL.bin rfl (vy := U64 (63#64)) rfl rfl (BinR.andU64) ?_
  refine WL.conv (v := IN (six y)) rfl rfl (ConvR.toI Tryd.underlying43 Tryd.underlying3 (by have := six_lt y; unfold six at this; omega)) ?_
  refine WL.assign (v := IN (six y)) rfl rfl ?_
  refine WL.nil ?_
  refine WC.seq ?_
  refine WC.seq ?_
  refine WC.region ?_
  refine WL.move (v := .int .u8 (1)) rfl rfl ?_
  refine WL.nil ?_
  refine WC.block ?_
  refine WC.seq ?_
  refine WC.region ?_
  refine WL.bin rfl rfl rfl (BinR.eql) ?_
  refine WL.assign (v := .bool (true)) rfl rfl ?_
  refine WL.nil ?_
  refine WC.condT rfl ?_
  refine WC.seq ?_
  refine WC.region ?_
  refine WL.move (v := I64 (x)) rfl rfl ?_
  refine WL.move (v := I64 (y)) rfl rfl ?_
  refine WL.call ca28 (rfl) rfl (add_spec (x) (y) _) ?_
  rintro _ _ ⟨rfl, rfl⟩
  refine WL.assign (v := I64 ((x + y))) rfl rfl ?_
  refine WL.nil ?_
  refine WC.ret ?_
  exact ⟨_, Res.one (v := I64 ((x + y))) rfl rfl, rfl, rfl⟩

theorem refDo2 (x y : BitVec 64) (w : World) : CallsR Tryd.prog 12 #[.int .u8 (2), I64 (x), I64 (y)] w (fun v w' => v = I64 (opW 2 x y) ∧ w = w') := by
  refine callsR_of Tryd.func12 rfl rfl rfl ?_
  refine WC.seq ?_
  refine WC.region ?_
  refine WL.assign (v := I64 (0#64)) rfl rfl ?_
  refine WL.nil ?_
  refine WC.seq ?_
  refine WC.region ?_
  refine WL.move (v := I64 (y)) rfl rfl ?_
  refine WL.conv rfl rfl (ConvR.i64u64 Tryd.underlying2 Tryd.underlying43) ?_
  refine WL.bin rfl (vy := U64 (63#64)) rfl rfl (BinR.andU64) ?_
  refine WL.conv (v := IN (six y)) rfl rfl (ConvR.toI Tryd.underlying43 Tryd.underlying3 (by have := six_lt y; unfold six at this; omega)) ?_
  refine WL.assign (v := IN (six y)) rfl rfl ?_
  refine WL.nil ?_
  refine WC.seq ?_
  refine WC.seq ?_
  refine WC.region ?_
  refine WL.move (v := .int .u8 (2)) rfl rfl ?_
  refine WL.nil ?_
  refine WC.block ?_
  refine WC.seq ?_
  refine WC.region ?_
  refine WL.bin rfl rfl rfl (BinR.eql) ?_
  refine WL.assign (v := .bool (false)) rfl rfl ?_
  refine WL.nil ?_
  refine WC.condF rfl ?_
  refine WC.seq ?_
  refine WC.region ?_
  refine WL.bin rfl rfl rfl (BinR.eql) ?_
  refine WL.assign (v := .bool (true)) rfl rfl ?_
  refine WL.nil ?_
  refine WC.condT rfl ?_
  refine WC.seq ?_
  refine WC.region ?_
  refine WL.move (v := I64 (x)) rfl rfl ?_
  refine WL.move (v := I64 (y)) rfl rfl ?_
  refine WL.call ca29 (rfl) rfl (neg_spec (y) _) ?_
  rintro _ _ ⟨rfl, rfl⟩
  refine WL.call ca28 (rfl) rfl (add_spec (x) ((-(y))) _) ?_
  rintro _ _ ⟨rfl, rfl⟩
  refine WL.assign (v := I64 ((x + (-(y))))) rfl rfl ?_
  refine WL.nil ?_
  refine WC.ret ?_
  exact ⟨_, Res.one (v := I64 ((x + (-(y))))) rfl rfl, congrArg I64 (BitVec.sub_eq_add_neg x y).symm, rfl⟩

theorem refDo3 (x y : BitVec 64) (w : World) : CallsR Tryd.prog 12 #[.int .u8 (3), I64 (x), I64 (y)] w (fun v w' => v = I64 (opW 3 x y) ∧ w = w') := by
  refine callsR_of Tryd.func12 rfl rfl rfl ?_
  refine WC.seq ?_
  refine WC.region ?_
  refine WL.assign (v := I64 (0#64)) rfl rfl ?_
  refine WL.nil ?_
  refine WC.seq ?_
  refine WC.region ?_
  refine WL.move (v := I64 (y)) rfl rfl ?_
  refine WL.conv rfl rfl (ConvR.i64u64 Tryd.underlying2 Tryd.underlying43) ?_
  refine WL.bin rfl (vy := U64 (63#64)) rfl rfl (BinR.andU64) ?_
  refine WL.conv (v := IN (six y)) rfl rfl (ConvR.toI Tryd.underlying43 Tryd.underlying3 (by have := six_lt y; unfold six at this; omega)) ?_
  refine WL.assign (v := IN (six y)) rfl rfl ?_
  refine WL.nil ?_
  refine WC.seq ?_
  refine WC.seq ?_
  refine WC.region ?_
  refine WL.move (v := .int .u8 (3)) rfl rfl ?_
  refine WL.nil ?_
  refine WC.block ?_
  refine WC.seq ?_
  refine WC.region ?_
  refine WL.bin rfl rfl rfl (BinR.eql) ?_
  refine WL.assign (v := .bool (false)) rfl rfl ?_
  refine WL.nil ?_
  refine WC.condF rfl ?_
  refine WC.seq ?_
  refine WC.region ?_
  refine WL.bin rfl rfl rfl (BinR.eql) ?_
  refine WL.assign (v := .bool (false)) rfl rfl ?_
  refine WL.nil ?_
  refine WC.condF rfl ?_
  refine WC.seq ?_
  refine WC.region ?_
  refine WL.bin rfl rfl rfl (BinR.eql) ?_
  refine WL.assign (v := .bool (true)) rfl rfl ?_
  refine WL.nil ?_
  refine WC.condT rfl ?_
  refine WC.seq ?_
  refine WC.region ?_
  refine WL.move (v := I64 (x)) rfl rfl ?_
  refine WL.move (v := I64 (y)) rfl rfl ?_
  refine WL.call ca30 (rfl) rfl (mul_spec (x) (y) _) ?_
  rintro _ _ ⟨rfl, rfl⟩
  refine WL.assign (v := I64 ((x * y))) rfl rfl ?_
  refine WL.nil ?_
  refine WC.ret ?_
  exact ⟨_, Res.one (v := I64 ((x * y))) rfl rfl, rfl, rfl⟩

theorem refDo4 (x y : BitVec 64) (w : World) : CallsR Tryd.prog 12 #[.int .u8 (4), I64 (x), I64 (y)] w (fun v w' => v = I64 (opW 4 x y) ∧ w = w') := by
  refine callsR_of Tryd.func12 rfl rfl rfl ?_
  refine WC.seq ?_
  refine WC.region ?_
  refine WL.assign (v := I64 (0#64)) rfl rfl ?_
  refine WL.nil ?_
  refine WC.seq ?_
  refine WC.region ?_
  refine WL.move (v := I64 (y)) rfl rfl ?_
  refine WL.conv rfl rfl (ConvR.i64u64 Tryd.underlying2 Tryd.underlying43) ?_
  refine WL.bin rfl (vy := U64 (63#64)) rfl rfl (BinR.andU64) ?_
  refine WL.conv (v := IN (six y)) rfl rfl (ConvR.toI Tryd.underlying43 Tryd.underlying3 (by have := six_lt y; unfold six at this; omega)) ?_
  refine WL.assign (v := IN (six y)) rfl rfl ?_
  refine WL.nil ?_
  refine WC.seq ?_
  refine WC.seq ?_
  refine WC.region ?_
  refine WL.move (v := .int .u8 (4)) rfl rfl ?_
  refine WL.nil ?_
  refine WC.block ?_
  refine WC.seq ?_
  refine WC.region ?_
  refine WL.bin rfl rfl rfl (BinR.eql) ?_
  refine WL.assign (v := .bool (false)) rfl rfl ?_
  refine WL.nil ?_
  refine WC.condF rfl ?_
  refine WC.seq ?_
  refine WC.region ?_
  refine WL.bin rfl rfl rfl (BinR.eql) ?_
  refine WL.assign (v := .bool (false)) rfl rfl ?_
  refine WL.nil ?_
  refine WC.condF rfl ?_
  refine WC.seq ?_
  refine WC.region ?_
  refine WL.bin rfl rfl rfl (BinR.eql) ?_
  refine WL.assign (v := .bool (false)) rfl rfl ?_
  refine WL.nil ?_
  refine WC.condF rfl ?_
  refine WC.seq ?_
  refine WC.seq ?_
  refine WC.region ?_
  refine WL.bin rfl rfl rfl (BinR.eql) ?_
  refine WL.assign (v := .bool (true)) rfl rfl ?_
  refine WL.nil ?_
  refine WC.condT rfl ?_
  refine WC.skip ?_
  refine WC.condT rfl ?_
  refine WC.seq ?_
  refine WC.region ?_
  refine WL.move (v := .int .u8 (4)) rfl rfl ?_
  refine WL.move (v := I64 (x)) rfl rfl ?_
  refine WL.move (v := I64 (y)) rfl rfl ?_
  refine WL.call ca31 (rfl) rfl (quot4_spec (x) (y) _) ?_
  rintro _ _ ⟨rfl, rfl⟩
  refine WL.assign (v := I64 ((opW 4 (x) (y)))) rfl rfl ?_
  refine WL.nil ?_
  refine WC.ret ?_
  exact ⟨_, Res.one (v := I64 ((opW 4 (x) (y)))) rfl rfl, rfl, rfl⟩

theorem refDo5 (x y : BitVec 64) (w : World) : CallsR Tryd.prog 12 #[.int .u8 (5), I64 (x), I64 (y)] w (fun v w' => v = I64 (opW 5 x y) ∧ w = w') := by
  refine callsR_of Tryd.func12 rfl rfl rfl ?_
  refine WC.seq ?_
  refine WC.region ?_
  refine WL.assign (v := I64 (0#64)) rfl rfl ?_
  refine WL.nil ?_
  refine WC.seq ?_
  refine WC.region ?_
  refine WL.move (v := I64 (y)) rfl rfl ?_
  refine WL.conv rfl rfl (ConvR.i64u64 Tryd.underlying2 Tryd.underlying43) ?_
  refine WL.bin rfl (vy := U64 (63#64)) rfl rfl (BinR.andU64) ?_
  refine WL.conv (v := IN (six y)) rfl rfl (ConvR.toI Tryd.underlying43 Tryd.underlying3 (by have := six_lt y; unfold six at this; omega)) ?_
  refine WL.assign (v := IN (six y)) rfl rfl ?_
  refine WL.nil ?_
  refine WC.seq ?_
  refine WC.seq ?_
  refine WC.region ?_
  refine WL.move (v := .int .u8 (5)) rfl rfl ?_
  refine WL.nil ?_
  refine WC.block ?_
  refine WC.seq ?_
  refine WC.region ?_
  refine WL.bin rfl rfl rfl (BinR.eql) ?_
  refine WL.assign (v := .bool (false)) rfl rfl ?_
  refine WL.nil ?_
  refine WC.condF rfl ?_
  refine WC.seq ?_
  refine WC.region ?_
  refine WL.bin rfl rfl rfl (BinR.eql) ?_
  refine WL.assign (v := .bool (false)) rfl rfl ?_
  refine WL.nil ?_
  refine WC.condF rfl ?_
  refine WC.seq ?_
  refine WC.region ?_
  refine WL.bin rfl rfl rfl (BinR.eql) ?_
  refine WL.assign (v := .bool (false)) rfl rfl ?_
  refine WL.nil ?_
  refine WC.condF rfl ?_
  refine WC.seq ?_
  refine WC.seq ?_
  refine WC.region ?_
  refine WL.bin rfl rfl rfl (BinR.eql) ?_
  refine WL.assign (v := .bool (false)) rfl rfl ?_
  refine WL.nil ?_
  refine WC.condF rfl ?_
  refine WC.seq ?_
  refine WC.region ?_
  refine WL.bin rfl rfl rfl (BinR.eql) ?_
  refine WL.assign (v := .bool (true)) rfl rfl ?_
  refine WL.nil ?_
  refine WC.condT rfl ?_
  refine WC.skip ?_
  refine WC.condT rfl ?_
  refine WC.seq ?_
  refine WC.region ?_
  refine WL.move (v := .int .u8 (5)) rfl rfl ?_
  refine WL.move (v := I64 (x)) rfl rfl ?_
  refine WL.move (v := I64 (y)) rfl rfl ?_
  refine WL.call ca31 (rfl) rfl (quot5_spec (x) (y) _) ?_
  rintro _ _ ⟨rfl, rfl⟩
  refine WL.assign (v := I64 ((opW 5 (x) (y)))) rfl rfl ?_
  refine WL.nil ?_
  refine WC.ret ?_
  exact ⟨_, Res.one (v := I64 ((opW 5 (x) (y)))) rfl rfl, rfl, rfl⟩

theorem refDo6 (x y : BitVec 64) (w : World) : CallsR Tryd.prog 12 #[.int .u8 (6), I64 (x), I64 (y)] w (fun v w' => v = I64 (opW 6 x y) ∧ w = w') := by
  refine callsR_of Tryd.func12 rfl rfl rfl ?_
  refine WC.seq ?_
  refine WC.region ?_
  refine WL.assign (v := I64 (0#64)) rfl rfl ?_
  refine WL.nil ?_
  refine WC.seq ?_
  refine WC.region ?_
  refine WL.move (v := I64 (y)) rfl rfl ?_
  refine WL.conv rfl rfl (ConvR.i64u64 Tryd.underlying2 Tryd.underlying43) ?_
  refine WL.bin rfl (vy := U64 (63#64)) rfl rfl (BinR.andU64) ?_
  refine WL.conv (v := IN (six y)) rfl rfl (ConvR.toI Tryd.underlying43 Tryd.underlying3 (by have := six_lt y; unfold six at this; omega)) ?_
  refine WL.assign (v := IN (six y)) rfl rfl ?_
  refine WL.nil ?_
  refine WC.seq ?_
  refine WC.seq ?_
  refine WC.region ?_
  refine WL.move (v := .int .u8 (6)) rfl rfl ?_
  refine WL.nil ?_
  refine WC.block ?_
  refine WC.seq ?_
  refine WC.region ?_
  refine WL.bin rfl rfl rfl (BinR.eql) ?_
  refine WL.assign (v := .bool (false)) rfl rfl ?_
  refine WL.nil ?_
  refine WC.condF rfl ?_
  refine WC.seq ?_
  refine WC.region ?_
  refine WL.bin rfl rfl rfl (BinR.eql) ?_
  refine WL.assign (v := .bool (false)) rfl rfl ?_
  refine WL.nil ?_
  refine WC.condF rfl ?_
  refine WC.seq ?_
  refine WC.region ?_
  refine WL.bin rfl rfl rfl (BinR.eql) ?_
  refine WL.assign (v := .bool (false)) rfl rfl ?_
  refine WL.nil ?_
  refine WC.condF rfl ?_
  refine WC.seq ?_
  refine WC.seq ?_
  refine WC.region ?_
  refine WL.bin rfl rfl rfl (BinR.eql) ?_
  refine WL.assign (v := .bool (false)) rfl rfl ?_
  refine WL.nil ?_
  refine WC.condF rfl ?_
  refine WC.seq ?_
  refine WC.region ?_
  refine WL.bin rfl rfl rfl (BinR.eql) ?_
  refine WL.assign (v := .bool (false)) rfl rfl ?_
  refine WL.nil ?_
  refine WC.condF rfl ?_
  refine WC.seq ?_
  refine WC.region ?_
  refine WL.bin rfl rfl rfl (BinR.eql) ?_
  refine WL.assign (v := .bool (true)) rfl rfl ?_
  refine WL.nil ?_
  refine WC.condT rfl ?_
  refine WC.skip ?_
  refine WC.condT rfl ?_
  refine WC.seq ?_
  refine WC.region ?_
  refine WL.move (v := .int .u8 (6)) rfl rfl ?_
  refine WL.move (v := I64 (x)) rfl rfl ?_
  refine WL.move (v := I64 (y)) rfl rfl ?_
  refine WL.call ca31 (rfl) rfl (quot6_spec (x) (y) _) ?_
  rintro _ _ ⟨rfl, rfl⟩
  refine WL.assign (v := I64 ((opW 6 (x) (y)))) rfl rfl ?_
  refine WL.nil ?_
  refine WC.ret ?_
  exact ⟨_, Res.one (v := I64 ((opW 6 (x) (y)))) rfl rfl, rfl, rfl⟩

theorem refDo7 (x y : BitVec 64) (w : World) : CallsR Tryd.prog 12 #[.int .u8 (7), I64 (x), I64 (y)] w (fun v w' => v = I64 (opW 7 x y) ∧ w = w') := by
  refine callsR_of Tryd.func12 rfl rfl rfl ?_
  refine WC.seq ?_
  refine WC.region ?_
  refine WL.assign (v := I64 (0#64)) rfl rfl ?_
  refine WL.nil ?_
  refine WC.seq ?_
  refine WC.region ?_
  refine WL.move (v := I64 (y)) rfl rfl ?_
  refine WL.conv rfl rfl (ConvR.i64u64 Tryd.underlying2 Tryd.underlying43) ?_
  refine WL.bin rfl (vy := U64 (63#64)) rfl rfl (BinR.andU64) ?_
  refine WL.conv (v := IN (six y)) rfl rfl (ConvR.toI Tryd.underlying43 Tryd.underlying3 (by have := six_lt y; unfold six at this; omega)) ?_
  refine WL.assign (v := IN (six y)) rfl rfl ?_
  refine WL.nil ?_
  refine WC.seq ?_
  refine WC.seq ?_
  refine WC.region ?_
  refine WL.move (v := .int .u8 (7)) rfl rfl ?_
  refine WL.nil ?_
  refine WC.block ?_
  refine WC.seq ?_
  refine WC.region ?_
  refine WL.bin rfl rfl rfl (BinR.eql) ?_
  refine WL.assign (v := .bool (false)) rfl rfl ?_
  refine WL.nil ?_
  refine WC.condF rfl ?_
  refine WC.seq ?_
  refine WC.region ?_
  refine WL.bin rfl rfl rfl (BinR.eql) ?_
  refine WL.assign (v := .bool (false)) rfl rfl ?_
  refine WL.nil ?_
  refine WC.condF rfl ?_
  refine WC.seq ?_
  refine WC.region ?_
  refine WL.bin rfl rfl rfl (BinR.eql) ?_
  refine WL.assign (v := .bool (false)) rfl rfl ?_
  refine WL.nil ?_
  refine WC.condF rfl ?_
  refine WC.seq ?_
  refine WC.seq ?_
  refine WC.region ?_
  refine WL.bin rfl rfl rfl (BinR.eql) ?_
  refine WL.assign (v := .bool (false)) rfl rfl ?_
  refine WL.nil ?_
  refine WC.condF rfl ?_
  refine WC.seq ?_
  refine WC.region ?_
  refine WL.bin rfl rfl rfl (BinR.eql) ?_
  refine WL.assign (v := .bool (false)) rfl rfl ?_
  refine WL.nil ?_
  refine WC.condF rfl ?_
  refine WC.seq ?_
  refine WC.region ?_
  refine WL.bin rfl rfl rfl (BinR.eql) ?_
  refine WL.assign (v := .bool (false)) rfl rfl ?_
  refine WL.nil ?_
  refine WC.condF rfl ?_
  refine WC.region ?_
  refine WL.bin rfl rfl rfl (BinR.eql) ?_
  refine WL.assign (v := .bool (true)) rfl rfl ?_
  refine WL.nil ?_
  refine WC.condT rfl ?_
  refine WC.seq ?_
  refine WC.region ?_
  refine WL.move (v := .int .u8 (7)) rfl rfl ?_
  refine WL.move (v := I64 (x)) rfl rfl ?_
  refine WL.move (v := I64 (y)) rfl rfl ?_
  refine WL.call ca31 (rfl) rfl (quot7_spec (x) (y) _) ?_
  rintro _ _ ⟨rfl, rfl⟩
  refine WL.assign (v := I64 ((opW 7 (x) (y)))) rfl rfl ?_
  refine WL.nil ?_
  refine WC.ret ?_
  exact ⟨_, Res.one (v := I64 ((opW 7 (x) (y)))) rfl rfl, rfl, rfl⟩

theorem refDo8 (x y : BitVec 64) (w : World) : CallsR Tryd.prog 12 #[.int .u8 (8), I64 (x), I64 (y)] w (fun v w' => v = I64 (opW 8 x y) ∧ w = w') := by
  refine callsR_of Tryd.func12 rfl rfl rfl ?_
  refine WC.seq ?_
  refine WC.region ?_
  refine WL.assign (v := I64 (0#64)) rfl rfl ?_
  refine WL.nil ?_
  refine WC.seq ?_
  refine WC.region ?_
  refine WL.move (v := I64 (y)) rfl rfl ?_
  refine WL.conv rfl rfl (ConvR.i64u64 Tryd.underlying2 Tryd.underlying43) ?_
  refine WL.bin rfl (vy := U64 (63#64)) rfl rfl (BinR.andU64) ?_
  refine WL.conv (v := IN (six y)) rfl rfl (ConvR.toI Tryd.underlying43 Tryd.underlying3 (by have := six_lt y; unfold six at this; omega)) ?_
  refine WL.assign (v := IN (six y)) rfl rfl ?_
  refine WL.nil ?_
  refine WC.seq ?_
  refine WC.seq ?_
  refine WC.region ?_
  refine WL.move (v := .int .u8 (8)) rfl rfl ?_
  refine WL.nil ?_
  refine WC.block ?_
  refine WC.seq ?_
  refine WC.region ?_
  refine WL.bin rfl rfl rfl (BinR.eql) ?_
  refine WL.assign (v := .bool (false)) rfl rfl ?_
  refine WL.nil ?_
  refine WC.condF rfl ?_
  refine WC.seq ?_
  refine WC.region ?_
  refine WL.bin rfl rfl rfl (BinR.eql) ?_
  refine WL.assign (v := .bool (false)) rfl rfl ?_
  refine WL.nil ?_
  refine WC.condF rfl ?_
  refine WC.seq ?_
  refine WC.region ?_
  refine WL.bin rfl rfl rfl (BinR.eql) ?_
  refine WL.assign (v := .bool (false)) rfl rfl ?_
  refine WL.nil ?_
  refine WC.condF rfl ?_
  refine WC.seq ?_
  refine WC.seq ?_
  refine WC.region ?_
  refine WL.bin rfl rfl rfl (BinR.eql) ?_
  refine WL.assign (v := .bool (false)) rfl rfl ?_
  refine WL.nil ?_
  refine WC.condF rfl ?_
  refine WC.seq ?_
  refine WC.region ?_
  refine WL.bin rfl rfl rfl (BinR.eql) ?_
  refine WL.assign (v := .bool (false)) rfl rfl ?_
  refine WL.nil ?_
  refine WC.condF rfl ?_
  refine WC.seq ?_
  refine WC.region ?_
  refine WL.bin rfl rfl rfl (BinR.eql) ?_
  refine WL.assign (v := .bool (false)) rfl rfl ?_
  refine WL.nil ?_
  refine WC.condF rfl ?_
  refine WC.region ?_
  refine WL.bin rfl rfl rfl (BinR.eql) ?_
  refine WL.assign (v := .bool (false)) rfl rfl ?_
  refine WL.nil ?_
  refine WC.condF rfl ?_
  refine WC.seq ?_
  refine WC.region ?_
  refine WL.bin rfl rfl rfl (BinR.eql) ?_
  refine WL.assign (v := .bool (true)) rfl rfl ?_
  refine WL.nil ?_
  refine WC.condT rfl ?_
  refine WC.seq ?_
  refine WC.region ?_
  refine WL.move (v := I64 (x)) rfl rfl ?_
  refine WL.move (v := I64 (y)) rfl rfl ?_
  refine WL.bin rfl rfl rfl (BinR.and64) ?_
  refine WL.assign (v := I64 ((x &&& y))) rfl rfl ?_
  refine WL.nil ?_
  refine WC.ret ?_
  exact ⟨_, Res.one (v := I64 ((x &&& y))) rfl rfl, rfl, rfl⟩

theorem refDo9 (x y : BitVec 64) (w : World) : CallsR Tryd.prog 12 #[.int .u8 (9), I64 (x), I64 (y)] w (fun v w' => v = I64 (opW 9 x y) ∧ w = w') := by
  refine callsR_of Tryd.func12 rfl rfl rfl ?_
  refine WC.seq ?_
  refine WC.region ?_
  refine WL.assign (v := I64 (0#64)) rfl rfl ?_
  refine WL.nil ?_
  refine WC.seq ?_
  refine WC.region ?_
  refine WL.move (v := I64 (y)) rfl rfl ?_
  refine WL.conv rfl rfl (ConvR.i64u64 Tryd.underlying2 Tryd.underlying43) ?_
  refine WL.bin rfl (vy := U64 (63#64)) rfl rfl (BinR.andU64) ?_
  refine WL.conv (v := IN (six y)) rfl rfl (ConvR.toI Tryd.underlying43 Tryd.underlying3 (by have := six_lt y; unfold six at this; omega)) ?_
  refine WL.assign (v := IN (six y)) rfl rfl ?_
  refine WL.nil ?_
  refine WC.seq ?_
  refine WC.seq ?_
  refine WC.region ?_
  refine WL.move (v := .int .u8 (9)) rfl rfl ?_
  refine WL.nil ?_
  refine WC.block ?_
  refine WC.seq ?_
  refine WC.region ?_
  refine WL.bin rfl rfl rfl (BinR.eql) ?_
  refine WL.assign (v := .bool (false)) rfl rfl ?_
  refine WL.nil ?_
  refine WC.condF rfl ?_
  refine WC.seq ?_
  refine WC.region ?_
  refine WL.bin rfl rfl rfl (BinR.eql) ?_
  refine WL.assign (v := .bool (false)) rfl rfl ?_
  refine WL.nil ?_
  refine WC.condF rfl ?_
  refine WC.seq ?_
  refine WC.region ?_
  refine WL.bin rfl rfl rfl (BinR.eql) ?_
  refine WL.assign (v := .bool (false)) rfl rfl ?_
  refine WL.nil ?_
  refine WC.condF rfl ?_
  refine WC.seq ?_
  refine WC.seq ?_
  refine WC.region ?_
  refine WL.bin rfl rfl rfl (BinR.eql) ?_
  refine WL.assign (v := .bool (false)) rfl rfl ?_
  refine WL.nil ?_
  refine WC.condF rfl ?_
  refine WC.seq ?_
  refine WC.region ?_
  refine WL.bin rfl rfl rfl (BinR.eql) ?_
  refine WL.assign (v := .bool (false)) rfl rfl ?_
  refine WL.nil ?_
  refine WC.condF rfl ?_
  refine WC.seq ?_
  refine WC.region ?_
  refine WL.bin rfl rfl rfl (BinR.eql) ?_
  refine WL.assign (v := .bool (false)) rfl rfl ?_
  refine WL.nil ?_
  refine WC.condF rfl ?_
  refine WC.region ?_
  refine WL.bin rfl rfl rfl (BinR.eql) ?_
  refine WL.assign (v := .bool (false)) rfl rfl ?_
  refine WL.nil ?_
  refine WC.condF rfl ?_
  refine WC.seq ?_
  refine WC.region ?_
  refine WL.bin rfl rfl rfl (BinR.eql) ?_
  refine WL.assign (v := .bool (false)) rfl rfl ?_
  refine WL.nil ?_
  refine WC.condF rfl ?_
  refine WC.seq ?_
  refine WC.region ?_
  refine WL.bin rfl rfl rfl (BinR.eql) ?_
  refine WL.assign (v := .bool (true)) rfl rfl ?_
  refine WL.nil ?_
  refine WC.condT rfl ?_
  refine WC.seq ?_
  refine WC.region ?_
  refine WL.move (v := I64 (x)) rfl rfl ?_
  refine WL.move (v := I64 (y)) rfl rfl ?_
  refine WL.bin rfl rfl rfl (BinR.or64) ?_
  refine WL.assign (v := I64 ((x ||| y))) rfl rfl ?_
  refine WL.nil ?_
  refine WC.ret ?_
  exact ⟨_, Res.one (v := I64 ((x ||| y))) rfl rfl, rfl, rfl⟩

theorem refDo10 (x y : BitVec 64) (w : World) : CallsR Tryd.prog 12 #[.int .u8 (10), I64 (x), I64 (y)] w (fun v w' => v = I64 (opW 10 x y) ∧ w = w') := by
  refine callsR_of Tryd.func12 rfl rfl rfl ?_
  refine WC.seq ?_
  refine WC.region ?_
  refine WL.assign (v := I64 (0#64)) rfl rfl ?_
  refine WL.nil ?_
  refine WC.seq ?_
  refine WC.region ?_
  refine WL.move (v := I64 (y)) rfl rfl ?_
  refine WL.conv rfl rfl (ConvR.i64u64 Tryd.underlying2 Tryd.underlying43) ?_
  refine WL.bin rfl (vy := U64 (63#64)) rfl rfl (BinR.andU64) ?_
  refine WL.conv (v := IN (six y)) rfl rfl (ConvR.toI Tryd.underlying43 Tryd.underlying3 (by have := six_lt y; unfold six at this; omega)) ?_
  refine WL.assign (v := IN (six y)) rfl rfl ?_
  refine WL.nil ?_
  refine WC.seq ?_
  refine WC.seq ?_
  refine WC.region ?_
  refine WL.move (v := .int .u8 (10)) rfl rfl ?_
  refine WL.nil ?_
  refine WC.block ?_
  refine WC.seq ?_
  refine WC.region ?_
  refine WL.bin rfl rfl rfl (BinR.eql) ?_
  refine WL.assign (v := .bool (false)) rfl rfl ?_
  refine WL.nil ?_
  refine WC.condF rfl ?_
  refine WC.seq ?_
  refine WC.region ?_
  refine WL.bin rfl rfl rfl (BinR.eql) ?_
  refine WL.assign (v := .bool (false)) rfl rfl ?_
  refine WL.nil ?_
  refine WC.condF rfl ?_
  refine WC.seq ?_
  refine WC.region ?_
  refine WL.bin rfl rfl rfl (BinR.eql) ?_
  refine WL.assign (v := .bool (false)) rfl rfl ?_
  refine WL.nil ?_
  refine WC.condF rfl ?_
  refine WC.seq ?_
  refine WC.seq ?_
  refine WC.region ?_
  refine WL.bin rfl rfl rfl (BinR.eql) ?_
  refine WL.assign (v := .bool (false)) rfl rfl ?_
  refine WL.nil ?_
  refine WC.condF rfl ?_
  refine WC.seq ?_
  refine WC.region ?_
  refine WL.bin rfl rfl rfl (BinR.eql) ?_
  refine WL.assign (v := .bool (false)) rfl rfl ?_
  refine WL.nil ?_
  refine WC.condF rfl ?_
  refine WC.seq ?_
  refine WC.region ?_
  refine WL.bin rfl rfl rfl (BinR.eql) ?_
  refine WL.assign (v := .bool (false)) rfl rfl ?_
  refine WL.nil ?_
  refine WC.condF rfl ?_
  refine WC.region ?_
  refine WL.bin rfl rfl rfl (BinR.eql) ?_
  refine WL.assign (v := .bool (false)) rfl rfl ?_
  refine WL.nil ?_
  refine WC.condF rfl ?_
  refine WC.seq ?_
  refine WC.region ?_
  refine WL.bin rfl rfl rfl (BinR.eql) ?_
  refine WL.assign (v := .bool (false)) rfl rfl ?_
  refine WL.nil ?_
  refine WC.condF rfl ?_
  refine WC.seq ?_
  refine WC.region ?_
  refine WL.bin rfl rfl rfl (BinR.eql) ?_
  refine WL.assign (v := .bool (false)) rfl rfl ?_
  refine WL.nil ?_
  refine WC.condF rfl ?_
  refine WC.seq ?_
  refine WC.region ?_
  refine WL.bin rfl rfl rfl (BinR.eql) ?_
  refine WL.assign (v := .bool (true)) rfl rfl ?_
  refine WL.nil ?_
  refine WC.condT rfl ?_
  refine WC.seq ?_
  refine WC.region ?_
  refine WL.move (v := I64 (x)) rfl rfl ?_
  refine WL.move (v := I64 (y)) rfl rfl ?_
  refine WL.bin rfl rfl rfl (BinR.xor64) ?_
  refine WL.assign (v := I64 ((x ^^^ y))) rfl rfl ?_
  refine WL.nil ?_
  refine WC.ret ?_
  exact ⟨_, Res.one (v := I64 ((x ^^^ y))) rfl rfl, rfl, rfl⟩

theorem refDo11 (x y : BitVec 64) (w : World) : CallsR Tryd.prog 12 #[.int .u8 (11), I64 (x), I64 (y)] w (fun v w' => v = I64 (opW 11 x y) ∧ w = w') := by
  refine callsR_of Tryd.func12 rfl rfl rfl ?_
  refine WC.seq ?_
  refine WC.region ?_
  refine WL.assign (v := I64 (0#64)) rfl rfl ?_
  refine WL.nil ?_
  refine WC.seq ?_
  refine WC.region ?_
  refine WL.move (v := I64 (y)) rfl rfl ?_
  refine WL.conv rfl rfl (ConvR.i64u64 Tryd.underlying2 Tryd.underlying43) ?_
  refine WL.bin rfl (vy := U64 (63#64)) rfl rfl (BinR.andU64) ?_
  refine WL.conv (v := IN (six y)) rfl rfl (ConvR.toI Tryd.underlying43 Tryd.underlying3 (by have := six_lt y; unfold six at this; omega)) ?_
  refine WL.assign (v := IN (six y)) rfl rfl ?_
  refine WL.nil ?_
  refine WC.seq ?_
  refine WC.seq ?_
  refine WC.region ?_
  refine WL.move (v := .int .u8 (11)) rfl rfl ?_
  refine WL.nil ?_
  refine WC.block ?_
  refine WC.seq ?_
  refine WC.region ?_
  refine WL.bin rfl rfl rfl (BinR.eql) ?_
  refine WL.assign (v := .bool (false)) rfl rfl ?_
  refine WL.nil ?_
  refine WC.condF rfl ?_
  refine WC.seq ?_
  refine WC.region ?_
  refine WL.bin rfl rfl rfl (BinR.eql) ?_
  refine WL.assign (v := .bool (false)) rfl rfl ?_
  refine WL.nil ?_
  refine WC.condF rfl ?_
  refine WC.seq ?_
  refine WC.region ?_
  refine WL.bin rfl rfl rfl (BinR.eql) ?_
  refine WL.assign (v := .bool (false)) rfl rfl ?_
  refine WL.nil ?_
  refine WC.condF rfl ?_
  refine WC.seq ?_
  refine WC.seq ?_
  refine WC.region ?_
  refine WL.bin rfl rfl rfl (BinR.eql) ?_
  refine WL.assign (v := .bool (false)) rfl rfl ?_
  refine WL.nil ?_
  refine WC.condF rfl ?_
  refine WC.seq ?_
  refine WC.region ?_
  refine WL.bin rfl rfl rfl (BinR.eql) ?_
  refine WL.assign (v := .bool (false)) rfl rfl ?_
  refine WL.nil ?_
  refine WC.condF rfl ?_
  refine WC.seq ?_
  refine WC.region ?_
  refine WL.bin rfl rfl rfl (BinR.eql) ?_
  refine WL.assign (v := .bool (false)) rfl rfl ?_
  refine WL.nil ?_
  refine WC.condF rfl ?_
  refine WC.region ?_
  refine WL.bin rfl rfl rfl (BinR.eql) ?_
  refine WL.assign (v := .bool (false)) rfl rfl ?_
  refine WL.nil ?_
  refine WC.condF rfl ?_
  refine WC.seq ?_
  refine WC.region ?_
  refine WL.bin rfl rfl rfl (BinR.eql) ?_
  refine WL.assign (v := .bool (false)) rfl rfl ?_
  refine WL.nil ?_
  refine WC.condF rfl ?_
  refine WC.seq ?_
  refine WC.region ?_
  refine WL.bin rfl rfl rfl (BinR.eql) ?_
  refine WL.assign (v := .bool (false)) rfl rfl ?_
  refine WL.nil ?_
  refine WC.condF rfl ?_
  refine WC.seq ?_
  refine WC.region ?_
  refine WL.bin rfl rfl rfl (BinR.eql) ?_
  refine WL.assign (v := .bool (false)) rfl rfl ?_
  refine WL.nil ?_
  refine WC.condF rfl ?_
  refine WC.seq ?_
  refine WC.region ?_
  refine WL.bin rfl rfl rfl (BinR.eql) ?_
  refine WL.assign (v := .bool (true)) rfl rfl ?_
  refine WL.nil ?_
  refine WC.condT rfl ?_
  refine WC.seq ?_
  refine WC.region ?_
  refine WL.move (v := I64 (x)) rfl rfl ?_
  refine WL.move (v := IN (six y)) rfl rfl ?_
  refine WL.call ca32 (rfl) rfl (movedU_spec (x) (false) (six y) _ (six_lt _)) ?_
  rintro _ _ ⟨rfl, rfl⟩
  refine WL.assign (v := I64 ((mvW (x) true (false) (six y)))) rfl rfl ?_
  refine WL.nil ?_
  refine WC.ret ?_
  exact ⟨_, Res.one (v := I64 ((mvW (x) true (false) (six y)))) rfl rfl, rfl, rfl⟩

theorem refDo12 (x y : BitVec 64) (w : World) : CallsR Tryd.prog 12 #[.int .u8 (12), I64 (x), I64 (y)] w (fun v w' => v = I64 (opW 12 x y) ∧ w = w') := by
  refine callsR_of Tryd.func12 rfl rfl rfl ?_
  refine WC.seq ?_
  refine WC.region ?_
  refine WL.assign (v := I64 (0#64)) rfl rfl ?_
  refine WL.nil ?_
  refine WC.seq ?_
  refine WC.region ?_
  refine WL.move (v := I64 (y)) rfl rfl ?_
  refine WL.conv rfl rfl (ConvR.i64u64 Tryd.underlying2 Tryd.underlying43) ?_
  refine WL.bin rfl (vy := U64 (63#64)) rfl rfl (BinR.andU64) ?_
  refine WL.conv (v := IN (six y)) rfl rfl (ConvR.toI Tryd.underlying43 Tryd.underlying3 (by have := six_lt y; unfold six at this; omega)) ?_
  refine WL.assign (v := IN (six y)) rfl rfl ?_
  refine WL.nil ?_
  refine WC.seq ?_
  refine WC.seq ?_
  refine WC.region ?_
  refine WL.move (v := .int .u8 (12)) rfl rfl ?_
  refine WL.nil ?_
  refine WC.block ?_
  refine WC.seq ?_
  refine WC.region ?_
  refine WL.bin rfl rfl rfl (BinR.eql) ?_
  refine WL.assign (v := .bool (false)) rfl rfl ?_
  refine WL.nil ?_
  refine WC.condF rfl ?_
  refine WC.seq ?_
  refine WC.region ?_
  refine WL.bin rfl rfl rfl (BinR.eql) ?_
  refine WL.assign (v := .bool (false)) rfl rfl ?_
  refine WL.nil ?_
  refine WC.condF rfl ?_
  refine WC.seq ?_
  refine WC.region ?_
  refine WL.bin rfl rfl rfl (BinR.eql) ?_
  refine WL.assign (v := .bool (false)) rfl rfl ?_
  refine WL.nil ?_
  refine WC.condF rfl ?_
  refine WC.seq ?_
  refine WC.seq ?_
  refine WC.region ?_
  refine WL.bin rfl rfl rfl (BinR.eql) ?_
  refine WL.assign (v := .bool (false)) rfl rfl ?_
  refine WL.nil ?_
  refine WC.condF rfl ?_
  refine WC.seq ?_
  refine WC.region ?_
  refine WL.bin rfl rfl rfl (BinR.eql) ?_
  refine WL.assign (v := .bool (false)) rfl rfl ?_
  refine WL.nil ?_
  refine WC.condF rfl ?_
  refine WC.seq ?_
  refine WC.region ?_
  refine WL.bin rfl rfl rfl (BinR.eql) ?_
  refine WL.assign (v := .bool (false)) rfl rfl ?_
  refine WL.nil ?_
  refine WC.condF rfl ?_
  refine WC.region ?_
  refine WL.bin rfl rfl rfl (BinR.eql) ?_
  refine WL.assign (v := .bool (false)) rfl rfl ?_
  refine WL.nil ?_
  refine WC.condF rfl ?_
  refine WC.seq ?_
  refine WC.region ?_
  refine WL.bin rfl rfl rfl (BinR.eql) ?_
  refine WL.assign (v := .bool (false)) rfl rfl ?_
  refine WL.nil ?_
  refine WC.condF rfl ?_
  refine WC.seq ?_
  refine WC.region ?_
  refine WL.bin rfl rfl rfl (BinR.eql) ?_
  refine WL.assign (v := .bool (false)) rfl rfl ?_
  refine WL.nil ?_
  refine WC.condF rfl ?_
  refine WC.seq ?_
  refine WC.region ?_
  refine WL.bin rfl rfl rfl (BinR.eql) ?_
  refine WL.assign (v := .bool (false)) rfl rfl ?_
  refine WL.nil ?_
  refine WC.condF rfl ?_
  refine WC.seq ?_
  refine WC.region ?_
  refine WL.bin rfl rfl rfl (BinR.eql) ?_
  refine WL.assign (v := .bool (false)) rfl rfl ?_
  refine WL.nil ?_
  refine WC.condF rfl ?_
  refine WC.seq ?_
  refine WC.region ?_
  refine WL.bin rfl rfl rfl (BinR.eql) ?_
  refine WL.assign (v := .bool (true)) rfl rfl ?_
  refine WL.nil ?_
  refine WC.condT rfl ?_
  refine WC.seq ?_
  refine WC.region ?_
  refine WL.move (v := I64 (x)) rfl rfl ?_
  refine WL.move (v := IN (six y)) rfl rfl ?_
  refine WL.call ca32 (rfl) rfl (movedD_spec (x) (false) (six y) _ (six_lt _)) ?_
  rintro _ _ ⟨rfl, rfl⟩
  refine WL.assign (v := I64 ((mvW (x) false (false) (six y)))) rfl rfl ?_
  refine WL.nil ?_
  refine WC.ret ?_
  exact ⟨_, Res.one (v := I64 ((mvW (x) false (false) (six y)))) rfl rfl, rfl, rfl⟩

theorem refDo13 (x y : BitVec 64) (w : World) : CallsR Tryd.prog 12 #[.int .u8 (13), I64 (x), I64 (y)] w (fun v w' => v = I64 (opW 13 x y) ∧ w = w') := by
  refine callsR_of Tryd.func12 rfl rfl rfl ?_
  refine WC.seq ?_
  refine WC.region ?_
  refine WL.assign (v := I64 (0#64)) rfl rfl ?_
  refine WL.nil ?_
  refine WC.seq ?_
  refine WC.region ?_
  refine WL.move (v := I64 (y)) rfl rfl ?_
  refine WL.conv rfl rfl (ConvR.i64u64 Tryd.underlying2 Tryd.underlying43) ?_
  refine WL.bin rfl (vy := U64 (63#64)) rfl rfl (BinR.andU64) ?_
  refine WL.conv (v := IN (six y)) rfl rfl (ConvR.toI Tryd.underlying43 Tryd.underlying3 (by have := six_lt y; unfold six at this; omega)) ?_
  refine WL.assign (v := IN (six y)) rfl rfl ?_
  refine WL.nil ?_
  refine WC.seq ?_
  refine WC.seq ?_
  refine WC.region ?_
  refine WL.move (v := .int .u8 (13)) rfl rfl ?_
  refine WL.nil ?_
  refine WC.block ?_
  refine WC.seq ?_
  refine WC.region ?_
  refine WL.bin rfl rfl rfl (BinR.eql) ?_
  refine WL.assign (v := .bool (false)) rfl rfl ?_
  refine WL.nil ?_
  refine WC.condF rfl ?_
  refine WC.seq ?_
  refine WC.region ?_
  refine WL.bin rfl rfl rfl (BinR.eql) ?_
  refine WL.assign (v := .bool (false)) rfl rfl ?_
  refine WL.nil ?_
  refine WC.condF rfl ?_
  refine WC.seq ?_
  refine WC.region ?_
  refine WL.bin rfl rfl rfl (BinR.eql) ?_
  refine WL.assign (v := .bool (false)) rfl rfl ?_
  refine WL.nil ?_
  refine WC.condF rfl ?_
  refine WC.seq ?_
  refine WC.seq ?_
  refine WC.region ?_
  refine WL.bin rfl rfl rfl (BinR.eql) ?_
  refine WL.assign (v := .bool (false)) rfl rfl ?_
  refine WL.nil ?_
  refine WC.condF rfl ?_
  refine WC.seq ?_
  refine WC.region ?_
  refine WL.bin rfl rfl rfl (BinR.eql) ?_
  refine WL.assign (v := .bool (false)) rfl rfl ?_
  refine WL.nil ?_
  refine WC.condF rfl ?_
  refine WC.seq ?_
  refine WC.region ?_
  refine WL.bin rfl rfl rfl (BinR.eql) ?_
  refine WL.assign (v := .bool (false)) rfl rfl ?_
  refine WL.nil ?_
  refine WC.condF rfl ?_
  refine WC.region ?_
  refine WL.bin rfl rfl rfl (BinR.eql) ?_
  refine WL.assign (v := .bool (false)) rfl rfl ?_
  refine WL.nil ?_
  refine WC.condF rfl ?_
  refine WC.seq ?_
  refine WC.region ?_
  refine WL.bin rfl rfl rfl (BinR.eql) ?_
  refine WL.assign (v := .bool (false)) rfl rfl ?_
  refine WL.nil ?_
  refine WC.condF rfl ?_
  refine WC.seq ?_
  refine WC.region ?_
  refine WL.bin rfl rfl rfl (BinR.eql) ?_
  refine WL.assign (v := .bool (false)) rfl rfl ?_
  refine WL.nil ?_
  refine WC.condF rfl ?_
  refine WC.seq ?_
  refine WC.region ?_
  refine WL.bin rfl rfl rfl (BinR.eql) ?_
  refine WL.assign (v := .bool (false)) rfl rfl ?_
  refine WL.nil ?_
  refine WC.condF rfl ?_
  refine WC.seq ?_
  refine WC.region ?_
  refine WL.bin rfl rfl rfl (BinR.eql) ?_
  refine WL.assign (v := .bool (false)) rfl rfl ?_
  refine WL.nil ?_
  refine WC.condF rfl ?_
  refine WC.seq ?_
  refine WC.region ?_
  refine WL.bin rfl rfl rfl (BinR.eql) ?_
  refine WL.assign (v := .bool (false)) rfl rfl ?_
  refine WL.nil ?_
  refine WC.condF rfl ?_
  refine WC.seq ?_
  refine WC.region ?_
  refine WL.bin rfl rfl rfl (BinR.eql) ?_
  refine WL.assign (v := .bool (true)) rfl rfl ?_
  refine WL.nil ?_
  refine WC.condT rfl ?_
  refine WC.seq ?_
  refine WC.region ?_
  refine WL.move (v := I64 (x)) rfl rfl ?_
  refine WL.move (v := I64 (x)) rfl rfl ?_
  refine WL.call ca33 (rfl) rfl (bit63_spec x _) ?_
  rintro _ _ ⟨rfl, rfl⟩
  refine WL.move (v := IN (six y)) rfl rfl ?_
  refine WL.call ca32 (rfl) rfl (movedD_spec (x) (x.getLsbD 63) (six y) _ (six_lt _)) ?_
  rintro _ _ ⟨rfl, rfl⟩
  refine WL.assign (v := I64 ((mvW (x) false (x.getLsbD 63) (six y)))) rfl rfl ?_
  refine WL.nil ?_
  refine WC.ret ?_
  exact ⟨_, Res.one (v := I64 ((mvW (x) false (x.getLsbD 63) (six y)))) rfl rfl, congrArg I64 (mv_sar x (six y)), rfl⟩

theorem refDo14 (x y : BitVec 64) (w : World) : CallsR Tryd.prog 12 #[.int .u8 (14), I64 (x), I64 (y)] w (fun v w' => v = I64 (opW 14 x y) ∧ w = w') := by
  refine callsR_of Tryd.func12 rfl rfl rfl ?_
  refine WC.seq ?_
  refine WC.region ?_
  refine WL.assign (v := I64 (0#64)) rfl rfl ?_
  refine WL.nil ?_
  refine WC.seq ?_
  refine WC.region ?_
  refine WL.move (v := I64 (y)) rfl rfl ?_
  refine WL.conv rfl rfl (ConvR.i64u64 Tryd.underlying2 Tryd.underlying43) ?_
  refine WL.bin rfl (vy := U64 (63#64)) rfl rfl (BinR.andU64) ?_
  refine WL.conv (v := IN (six y)) rfl rfl (ConvR.toI Tryd.underlying43 Tryd.underlying3 (by have := six_lt y; unfold six at this; omega)) ?_
  refine WL.assign (v := IN (six y)) rfl rfl ?_
  refine WL.nil ?_
  refine WC.seq ?_
  refine WC.seq ?_
  refine WC.region ?_
  refine WL.move (v := .int .u8 (14)) rfl rfl ?_
  refine WL.nil ?_
  refine WC.block ?_
  refine WC.seq ?_
  refine WC.region ?_
  refine WL.bin rfl rfl rfl (BinR.eql) ?_
  refine WL.assign (v := .bool (false)) rfl rfl ?_
  refine WL.nil ?_
  refine WC.condF rfl ?_
  refine WC.seq ?_
  refine WC.region ?_
  refine WL.bin rfl rfl rfl (BinR.eql) ?_
  refine WL.assign (v := .bool (false)) rfl rfl ?_
  refine WL.nil ?_
  refine WC.condF rfl ?_
  refine WC.seq ?_
  refine WC.region ?_
  refine WL.bin rfl rfl rfl (BinR.eql) ?_
  refine WL.assign (v := .bool (false)) rfl rfl ?_
  refine WL.nil ?_
  refine WC.condF rfl ?_
  refine WC.seq ?_
  refine WC.seq ?_
  refine WC.region ?_
  refine WL.bin rfl rfl rfl (BinR.eql) ?_
  refine WL.assign (v := .bool (false)) rfl rfl ?_
  refine WL.nil ?_
  refine WC.condF rfl ?_
  refine WC.seq ?_
  refine WC.region ?_
  refine WL.bin rfl rfl rfl (BinR.eql) ?_
  refine WL.assign (v := .bool (false)) rfl rfl ?_
  refine WL.nil ?_
  refine WC.condF rfl ?_
  refine WC.seq ?_
  refine WC.region ?_
  refine WL.bin rfl rfl rfl (BinR.eql) ?_
  refine WL.assign (v := .bool (false)) rfl rfl ?_
  refine WL.nil ?_
  refine WC.condF rfl ?_
  refine WC.region ?_
  refine WL.bin rfl rfl rfl (BinR.eql) ?_
  refine WL.assign (v := .bool (false)) rfl rfl ?_
  refine WL.nil ?_
  refine WC.condF rfl ?_
  refine WC.seq ?_
  refine WC.region ?_
  refine WL.bin rfl rfl rfl (BinR.eql) ?_
  refine WL.assign (v := .bool (false)) rfl rfl ?_
  refine WL.nil ?_
  refine WC.condF rfl ?_
  refine WC.seq ?_
  refine WC.region ?_
  refine WL.bin rfl rfl rfl (BinR.eql) ?_
  refine WL.assign (v := .bool (false)) rfl rfl ?_
  refine WL.nil ?_
  refine WC.condF rfl ?_
  refine WC.seq ?_
  refine WC.region ?_
  refine WL.bin rfl rfl rfl (BinR.eql) ?_
  refine WL.assign (v := .bool (false)) rfl rfl ?_
  refine WL.nil ?_
  refine WC.condF rfl ?_
  refine WC.seq ?_
  refine WC.region ?_
  refine WL.bin rfl rfl rfl (BinR.eql) ?_
  refine WL.assign (v := .bool (false)) rfl rfl ?_
  refine WL.nil ?_
  refine WC.condF rfl ?_
  refine WC.seq ?_
  refine WC.region ?_
  refine WL.bin rfl rfl rfl (BinR.eql) ?_
  refine WL.assign (v := .bool (false)) rfl rfl ?_
  refine WL.nil ?_
  refine WC.condF rfl ?_
  refine WC.seq ?_
  refine WC.region ?_
  refine WL.bin rfl rfl rfl (BinR.eql) ?_
  refine WL.assign (v := .bool (false)) rfl rfl ?_
  refine WL.nil ?_
  refine WC.condF rfl ?_
  refine WC.seq ?_
  refine WC.region ?_
  refine WL.bin rfl rfl rfl (BinR.eql) ?_
  refine WL.assign (v := .bool (true)) rfl rfl ?_
  refine WL.nil ?_
  refine WC.condT rfl ?_
  refine WC.seq ?_
  refine WC.region ?_
  refine WL.move (v := I64 (x)) rfl rfl ?_
  refine WL.bin rfl (vy := I64 (BitVec.ofInt 64 (-9223372036854775808))) (cI64 _ (by decide)) rfl (BinR.xor64) ?_
  refine WL.move (v := I64 (y)) rfl rfl ?_
  refine WL.bin rfl (vy := I64 (BitVec.ofInt 64 (-9223372036854775808))) (cI64 _ (by decide)) rfl (BinR.xor64) ?_
  refine WL.call ca35 (rfl) rfl (below_spec ((x ^^^ BitVec.ofInt 64 (-9223372036854775808))) ((y ^^^ BitVec.ofInt 64 (-9223372036854775808))) _) ?_
  rintro _ _ ⟨rfl, rfl⟩
  refine WL.call ca34 (rfl) rfl (one_spec ((BitVec.ult ((x ^^^ BitVec.ofInt 64 (-9223372036854775808))) ((y ^^^ BitVec.ofInt 64 (-9223372036854775808))))) _) ?_
  rintro _ _ ⟨rfl, rfl⟩
  refine WL.assign (v := I64 ((oneW ((BitVec.ult ((x ^^^ BitVec.ofInt 64 (-9223372036854775808))) ((y ^^^ BitVec.ofInt 64 (-9223372036854775808)))))))) rfl rfl ?_
  refine WL.nil ?_
  refine WC.ret ?_
  exact ⟨_, Res.one (v := I64 ((oneW ((BitVec.ult ((x ^^^ BitVec.ofInt 64 (-9223372036854775808))) ((y ^^^ BitVec.ofInt 64 (-9223372036854775808)))))))) rfl rfl, congrArg (fun b => I64 (oneW b)) (slt_ult x y), rfl⟩

theorem refDo15 (x y : BitVec 64) (w : World) : CallsR Tryd.prog 12 #[.int .u8 (15), I64 (x), I64 (y)] w (fun v w' => v = I64 (opW 15 x y) ∧ w = w') := by
  refine callsR_of Tryd.func12 rfl rfl rfl ?_
  refine WC.seq ?_
  refine WC.region ?_
  refine WL.assign (v := I64 (0#64)) rfl rfl ?_
  refine WL.nil ?_
  refine WC.seq ?_
  refine WC.region ?_
  refine WL.move (v := I64 (y)) rfl rfl ?_
  refine WL.conv rfl rfl (ConvR.i64u64 Tryd.underlying2 Tryd.underlying43) ?_
  refine WL.bin rfl (vy := U64 (63#64)) rfl rfl (BinR.andU64) ?_
  refine WL.conv (v := IN (six y)) rfl rfl (ConvR.toI Tryd.underlying43 Tryd.underlying3 (by have := six_lt y; unfold six at this; omega)) ?_
  refine WL.assign (v := IN (six y)) rfl rfl ?_
  refine WL.nil ?_
  refine WC.seq ?_
  refine WC.seq ?_
  refine WC.region ?_
  refine WL.move (v := .int .u8 (15)) rfl rfl ?_
  refine WL.nil ?_
  refine WC.block ?_
  refine WC.seq ?_
  refine WC.region ?_
  refine WL.bin rfl rfl rfl (BinR.eql) ?_
  refine WL.assign (v := .bool (false)) rfl rfl ?_
  refine WL.nil ?_
  refine WC.condF rfl ?_
  refine WC.seq ?_
  refine WC.region ?_
  refine WL.bin rfl rfl rfl (BinR.eql) ?_
  refine WL.assign (v := .bool (false)) rfl rfl ?_
  refine WL.nil ?_
  refine WC.condF rfl ?_
  refine WC.seq ?_
  refine WC.region ?_
  refine WL.bin rfl rfl rfl (BinR.eql) ?_
  refine WL.assign (v := .bool (false)) rfl rfl ?_
  refine WL.nil ?_
  refine WC.condF rfl ?_
  refine WC.seq ?_
  refine WC.seq ?_
  refine WC.region ?_
  refine WL.bin rfl rfl rfl (BinR.eql) ?_
  refine WL.assign (v := .bool (false)) rfl rfl ?_
  refine WL.nil ?_
  refine WC.condF rfl ?_
  refine WC.seq ?_
  refine WC.region ?_
  refine WL.bin rfl rfl rfl (BinR.eql) ?_
  refine WL.assign (v := .bool (false)) rfl rfl ?_
  refine WL.nil ?_
  refine WC.condF rfl ?_
  refine WC.seq ?_
  refine WC.region ?_
  refine WL.bin rfl rfl rfl (BinR.eql) ?_
  refine WL.assign (v := .bool (false)) rfl rfl ?_
  refine WL.nil ?_
  refine WC.condF rfl ?_
  refine WC.region ?_
  refine WL.bin rfl rfl rfl (BinR.eql) ?_
  refine WL.assign (v := .bool (false)) rfl rfl ?_
  refine WL.nil ?_
  refine WC.condF rfl ?_
  refine WC.seq ?_
  refine WC.region ?_
  refine WL.bin rfl rfl rfl (BinR.eql) ?_
  refine WL.assign (v := .bool (false)) rfl rfl ?_
  refine WL.nil ?_
  refine WC.condF rfl ?_
  refine WC.seq ?_
  refine WC.region ?_
  refine WL.bin rfl rfl rfl (BinR.eql) ?_
  refine WL.assign (v := .bool (false)) rfl rfl ?_
  refine WL.nil ?_
  refine WC.condF rfl ?_
  refine WC.seq ?_
  refine WC.region ?_
  refine WL.bin rfl rfl rfl (BinR.eql) ?_
  refine WL.assign (v := .bool (false)) rfl rfl ?_
  refine WL.nil ?_
  refine WC.condF rfl ?_
  refine WC.seq ?_
  refine WC.region ?_
  refine WL.bin rfl rfl rfl (BinR.eql) ?_
  refine WL.assign (v := .bool (false)) rfl rfl ?_
  refine WL.nil ?_
  refine WC.condF rfl ?_
  refine WC.seq ?_
  refine WC.region ?_
  refine WL.bin rfl rfl rfl (BinR.eql) ?_
  refine WL.assign (v := .bool (false)) rfl rfl ?_
  refine WL.nil ?_
  refine WC.condF rfl ?_
  refine WC.seq ?_
  refine WC.region ?_
  refine WL.bin rfl rfl rfl (BinR.eql) ?_
  refine WL.assign (v := .bool (false)) rfl rfl ?_
  refine WL.nil ?_
  refine WC.condF rfl ?_
  refine WC.seq ?_
  refine WC.region ?_
  refine WL.bin rfl rfl rfl (BinR.eql) ?_
  refine WL.assign (v := .bool (false)) rfl rfl ?_
  refine WL.nil ?_
  refine WC.condF rfl ?_
  refine WC.seq ?_
  refine WC.region ?_
  refine WL.bin rfl rfl rfl (BinR.eql) ?_
  refine WL.assign (v := .bool (true)) rfl rfl ?_
  refine WL.nil ?_
  refine WC.condT rfl ?_
  refine WC.seq ?_
  refine WC.region ?_
  refine WL.move (v := I64 (x)) rfl rfl ?_
  refine WL.move (v := I64 (y)) rfl rfl ?_
  refine WL.call ca35 (rfl) rfl (below_spec (x) (y) _) ?_
  rintro _ _ ⟨rfl, rfl⟩
  refine WL.call ca34 (rfl) rfl (one_spec ((BitVec.ult (x) (y))) _) ?_
  rintro _ _ ⟨rfl, rfl⟩
  refine WL.assign (v := I64 ((oneW ((BitVec.ult (x) (y)))))) rfl rfl ?_
  refine WL.nil ?_
  refine WC.ret ?_
  exact ⟨_, Res.one (v := I64 ((oneW ((BitVec.ult (x) (y)))))) rfl rfl, rfl, rfl⟩

theorem refDo16 (x y : BitVec 64) (w : World) : CallsR Tryd.prog 12 #[.int .u8 (16), I64 (x), I64 (y)] w (fun v w' => v = I64 (opW 16 x y) ∧ w = w') := by
  refine callsR_of Tryd.func12 rfl rfl rfl ?_
  refine WC.seq ?_
  refine WC.region ?_
  refine WL.assign (v := I64 (0#64)) rfl rfl ?_
  refine WL.nil ?_
  refine WC.seq ?_
  refine WC.region ?_
  refine WL.move (v := I64 (y)) rfl rfl ?_
  refine WL.conv rfl rfl (ConvR.i64u64 Tryd.underlying2 Tryd.underlying43) ?_
  refine WL.bin rfl (vy := U64 (63#64)) rfl rfl (BinR.andU64) ?_
  refine WL.conv (v := IN (six y)) rfl rfl (ConvR.toI Tryd.underlying43 Tryd.underlying3 (by have := six_lt y; unfold six at this; omega)) ?_
  refine WL.assign (v := IN (six y)) rfl rfl ?_
  refine WL.nil ?_
  refine WC.seq ?_
  refine WC.seq ?_
  refine WC.region ?_
  refine WL.move (v := .int .u8 (16)) rfl rfl ?_
  refine WL.nil ?_
  refine WC.block ?_
  refine WC.seq ?_
  refine WC.region ?_
  refine WL.bin rfl rfl rfl (BinR.eql) ?_
  refine WL.assign (v := .bool (false)) rfl rfl ?_
  refine WL.nil ?_
  refine WC.condF rfl ?_
  refine WC.seq ?_
  refine WC.region ?_
  refine WL.bin rfl rfl rfl (BinR.eql) ?_
  refine WL.assign (v := .bool (false)) rfl rfl ?_
  refine WL.nil ?_
  refine WC.condF rfl ?_
  refine WC.seq ?_
  refine WC.region ?_
  refine WL.bin rfl rfl rfl (BinR.eql) ?_
  refine WL.assign (v := .bool (false)) rfl rfl ?_
  refine WL.nil ?_
  refine WC.condF rfl ?_
  refine WC.seq ?_
  refine WC.seq ?_
  refine WC.region ?_
  refine WL.bin rfl rfl rfl (BinR.eql) ?_
  refine WL.assign (v := .bool (false)) rfl rfl ?_
  refine WL.nil ?_
  refine WC.condF rfl ?_
  refine WC.seq ?_
  refine WC.region ?_
  refine WL.bin rfl rfl rfl (BinR.eql) ?_
  refine WL.assign (v := .bool (false)) rfl rfl ?_
  refine WL.nil ?_
  refine WC.condF rfl ?_
  refine WC.seq ?_
  refine WC.region ?_
  refine WL.bin rfl rfl rfl (BinR.eql) ?_
  refine WL.assign (v := .bool (false)) rfl rfl ?_
  refine WL.nil ?_
  refine WC.condF rfl ?_
  refine WC.region ?_
  refine WL.bin rfl rfl rfl (BinR.eql) ?_
  refine WL.assign (v := .bool (false)) rfl rfl ?_
  refine WL.nil ?_
  refine WC.condF rfl ?_
  refine WC.seq ?_
  refine WC.region ?_
  refine WL.bin rfl rfl rfl (BinR.eql) ?_
  refine WL.assign (v := .bool (false)) rfl rfl ?_
  refine WL.nil ?_
  refine WC.condF rfl ?_
  refine WC.seq ?_
  refine WC.region ?_
  refine WL.bin rfl rfl rfl (BinR.eql) ?_
  refine WL.assign (v := .bool (false)) rfl rfl ?_
  refine WL.nil ?_
  refine WC.condF rfl ?_
  refine WC.seq ?_
  refine WC.region ?_
  refine WL.bin rfl rfl rfl (BinR.eql) ?_
  refine WL.assign (v := .bool (false)) rfl rfl ?_
  refine WL.nil ?_
  refine WC.condF rfl ?_
  refine WC.seq ?_
  refine WC.region ?_
  refine WL.bin rfl rfl rfl (BinR.eql) ?_
  refine WL.assign (v := .bool (false)) rfl rfl ?_
  refine WL.nil ?_
  refine WC.condF rfl ?_
  refine WC.seq ?_
  refine WC.region ?_
  refine WL.bin rfl rfl rfl (BinR.eql) ?_
  refine WL.assign (v := .bool (false)) rfl rfl ?_
  refine WL.nil ?_
  refine WC.condF rfl ?_
  refine WC.seq ?_
  refine WC.region ?_
  refine WL.bin rfl rfl rfl (BinR.eql) ?_
  refine WL.assign (v := .bool (false)) rfl rfl ?_
  refine WL.nil ?_
  refine WC.condF rfl ?_
  refine WC.seq ?_
  refine WC.region ?_
  refine WL.bin rfl rfl rfl (BinR.eql) ?_
  refine WL.assign (v := .bool (false)) rfl rfl ?_
  refine WL.nil ?_
  refine WC.condF rfl ?_
  refine WC.seq ?_
  refine WC.region ?_
  refine WL.bin rfl rfl rfl (BinR.eql) ?_
  refine WL.assign (v := .bool (false)) rfl rfl ?_
  refine WL.nil ?_
  refine WC.condF rfl ?_
  refine WC.seq ?_
  refine WC.region ?_
  refine WL.bin rfl rfl rfl (BinR.eql) ?_
  refine WL.assign (v := .bool (true)) rfl rfl ?_
  refine WL.nil ?_
  refine WC.condT rfl ?_
  refine WC.seq ?_
  refine WC.region ?_
  refine WL.move (v := I64 (x)) rfl rfl ?_
  refine WL.move (v := I64 (y)) rfl rfl ?_
  refine WL.bin rfl rfl rfl (BinR.eql64) ?_
  refine WL.call ca34 (rfl) rfl (one_spec ((x == y)) _) ?_
  rintro _ _ ⟨rfl, rfl⟩
  refine WL.assign (v := I64 ((oneW ((x == y))))) rfl rfl ?_
  refine WL.nil ?_
  refine WC.ret ?_
  exact ⟨_, Res.one (v := I64 ((oneW ((x == y))))) rfl rfl, rfl, rfl⟩

theorem refDo_none (n : Nat) (x y : BitVec 64) (w : World) (hn : n = 0 ∨ 16 < n) : CallsR Tryd.prog 12 #[.int .u8 (((n : Nat) : Int)), I64 (x), I64 (y)] w (fun v w' => v = I64 (opW n x y) ∧ w = w') := by
  refine callsR_of Tryd.func12 rfl rfl rfl ?_
  refine WC.seq ?_
  refine WC.region ?_
  refine WL.assign (v := I64 (0#64)) rfl rfl ?_
  refine WL.nil ?_
  refine WC.seq ?_
  refine WC.region ?_
  refine WL.move (v := I64 (y)) rfl rfl ?_
  refine WL.conv rfl rfl (ConvR.i64u64 Tryd.underlying2 Tryd.underlying43) ?_
  refine WL.bin rfl (vy := U64 (63#64)) rfl rfl (BinR.andU64) ?_
  refine WL.conv (v := IN (six y)) rfl rfl (ConvR.toI Tryd.underlying43 Tryd.underlying3 (by have := six_lt y; unfold six at this; omega)) ?_
  refine WL.assign (v := IN (six y)) rfl rfl ?_
  refine WL.nil ?_
  refine WC.seq ?_
  refine WC.seq ?_
  refine WC.region ?_
  refine WL.move (v := .int .u8 (((n : Nat) : Int))) rfl rfl ?_
  refine WL.nil ?_
  refine WC.block ?_
  refine WC.seq ?_
  refine WC.region ?_
  refine WL.bin rfl rfl rfl (BinR.eql) ?_
  refine WL.assign (v := .bool (((((n : Nat) : Int) : Int) == (1 : Int)))) rfl rfl ?_
  refine WL.nil ?_
  refine WC.condF (congrArg Value.bool (beq_eq_false_iff_ne.2 (by omega))) ?_
  refine WC.seq ?_
  refine WC.region ?_
  refine WL.bin rfl rfl rfl (BinR.eql) ?_
  refine WL.assign (v := .bool (((((n : Nat) : Int) : Int) == (2 : Int)))) rfl rfl ?_
  refine WL.nil ?_
  refine WC.condF (congrArg Value.bool (beq_eq_false_iff_ne.2 (by omega))) ?_
  refine WC.seq ?_
  refine WC.region ?_
  refine WL.bin rfl rfl rfl (BinR.eql) ?_
  refine WL.assign (v := .bool (((((n : Nat) : Int) : Int) == (3 : Int)))) rfl rfl ?_
  refine WL.nil ?_
  refine WC.condF (congrArg Value.bool (beq_eq_false_iff_ne.2 (by omega))) ?_
  refine WC.seq ?_
  refine WC.seq ?_
  refine WC.region ?_
  refine WL.bin rfl rfl rfl (BinR.eql) ?_
  refine WL.assign (v := .bool (((((n : Nat) : Int) : Int) == (4 : Int)))) rfl rfl ?_
  refine WL.nil ?_
  refine WC.condF (congrArg Value.bool (beq_eq_false_iff_ne.2 (by omega))) ?_
  refine WC.seq ?_
  refine WC.region ?_
  refine WL.bin rfl rfl rfl (BinR.eql) ?_
  refine WL.assign (v := .bool (((((n : Nat) : Int) : Int) == (5 : Int)))) rfl rfl ?_
  refine WL.nil ?_
  refine WC.condF (congrArg Value.bool (beq_eq_false_iff_ne.2 (by omega))) ?_
  refine WC.seq ?_
  refine WC.region ?_
  refine WL.bin rfl rfl rfl (BinR.eql) ?_
  refine WL.assign (v := .bool (((((n : Nat) : Int) : Int) == (6 : Int)))) rfl rfl ?_
  refine WL.nil ?_
  refine WC.condF (congrArg Value.bool (beq_eq_false_iff_ne.2 (by omega))) ?_
  refine WC.region ?_
  refine WL.bin rfl rfl rfl (BinR.eql) ?_
  refine WL.assign (v := .bool (((((n : Nat) : Int) : Int) == (7 : Int)))) rfl rfl ?_
  refine WL.nil ?_
  refine WC.condF (congrArg Value.bool (beq_eq_false_iff_ne.2 (by omega))) ?_
  refine WC.seq ?_
  refine WC.region ?_
  refine WL.bin rfl rfl rfl (BinR.eql) ?_
  refine WL.assign (v := .bool (((((n : Nat) : Int) : Int) == (8 : Int)))) rfl rfl ?_
  refine WL.nil ?_
  refine WC.condF (congrArg Value.bool (beq_eq_false_iff_ne.2 (by omega))) ?_
  refine WC.seq ?_
  refine WC.region ?_
  refine WL.bin rfl rfl rfl (BinR.eql) ?_
  refine WL.assign (v := .bool (((((n : Nat) : Int) : Int) == (9 : Int)))) rfl rfl ?_
  refine WL.nil ?_
  refine WC.condF (congrArg Value.bool (beq_eq_false_iff_ne.2 (by omega))) ?_
  refine WC.seq ?_
  refine WC.region ?_
  refine WL.bin rfl rfl rfl (BinR.eql) ?_
  refine WL.assign (v := .bool (((((n : Nat) : Int) : Int) == (10 : Int)))) rfl rfl ?_
  refine WL.nil ?_
  refine WC.condF (congrArg Value.bool (beq_eq_false_iff_ne.2 (by omega))) ?_
  refine WC.seq ?_
  refine WC.region ?_
  refine WL.bin rfl rfl rfl (BinR.eql) ?_
  refine WL.assign (v := .bool (((((n : Nat) : Int) : Int) == (11 : Int)))) rfl rfl ?_
  refine WL.nil ?_
  refine WC.condF (congrArg Value.bool (beq_eq_false_iff_ne.2 (by omega))) ?_
  refine WC.seq ?_
  refine WC.region ?_
  refine WL.bin rfl rfl rfl (BinR.eql) ?_
  refine WL.assign (v := .bool (((((n : Nat) : Int) : Int) == (12 : Int)))) rfl rfl ?_
  refine WL.nil ?_
  refine WC.condF (congrArg Value.bool (beq_eq_false_iff_ne.2 (by omega))) ?_
  refine WC.seq ?_
  refine WC.region ?_
  refine WL.bin rfl rfl rfl (BinR.eql) ?_
  refine WL.assign (v := .bool (((((n : Nat) : Int) : Int) == (13 : Int)))) rfl rfl ?_
  refine WL.nil ?_
  refine WC.condF (congrArg Value.bool (beq_eq_false_iff_ne.2 (by omega))) ?_
  refine WC.seq ?_
  refine WC.region ?_
  refine WL.bin rfl rfl rfl (BinR.eql) ?_
  refine WL.assign (v := .bool (((((n : Nat) : Int) : Int) == (14 : Int)))) rfl rfl ?_
  refine WL.nil ?_
  refine WC.condF (congrArg Value.bool (beq_eq_false_iff_ne.2 (by omega))) ?_
  refine WC.seq ?_
  refine WC.region ?_
  refine WL.bin rfl rfl rfl (BinR.eql) ?_
  refine WL.assign (v := .bool (((((n : Nat) : Int) : Int) == (15 : Int)))) rfl rfl ?_
  refine WL.nil ?_
  refine WC.condF (congrArg Value.bool (beq_eq_false_iff_ne.2 (by omega))) ?_
  refine WC.seq ?_
  refine WC.region ?_
  refine WL.bin rfl rfl rfl (BinR.eql) ?_
  refine WL.assign (v := .bool (((((n : Nat) : Int) : Int) == (16 : Int)))) rfl rfl ?_
  refine WL.nil ?_
  refine WC.condF (congrArg Value.bool (beq_eq_false_iff_ne.2 (by omega))) ?_
  refine WC.skip ?_
  refine WC.seq ?_
  refine WC.region ?_
  refine WL.assign (v := I64 (0#64)) rfl rfl ?_
  refine WL.nil ?_
  refine WC.ret ?_
  exact ⟨_, Res.one (v := I64 (0#64)) rfl rfl, congrArg I64 (opW_none n hn x y).symm, rfl⟩

theorem refDo_spec (n : Nat) (x y : BitVec 64) (w : World) : CallsR Tryd.prog 12 #[.int .u8 ((n : Nat) : Int), I64 x, I64 y] w (fun v w' => v = I64 (opW n x y) ∧ w = w') := by
  by_cases hn : n = 0 ∨ 16 < n
  · exact refDo_none n x y w hn
  · match n, hn with
    | 0, hn => exact (hn (.inl rfl)).elim
    | 1, _ => exact refDo1 x y w
    | 2, _ => exact refDo2 x y w
    | 3, _ => exact refDo3 x y w
    | 4, _ => exact refDo4 x y w
    | 5, _ => exact refDo5 x y w
    | 6, _ => exact refDo6 x y w
    | 7, _ => exact refDo7 x y w
    | 8, _ => exact refDo8 x y w
    | 9, _ => exact refDo9 x y w
    | 10, _ => exact refDo10 x y w
    | 11, _ => exact refDo11 x y w
    | 12, _ => exact refDo12 x y w
    | 13, _ => exact refDo13 x y w
    | 14, _ => exact refDo14 x y w
    | 15, _ => exact refDo15 x y w
    | 16, _ => exact refDo16 x y w
    | n + 17, hn => exact (hn (.inr (by omega))).elim
end Go.Proofs.W
