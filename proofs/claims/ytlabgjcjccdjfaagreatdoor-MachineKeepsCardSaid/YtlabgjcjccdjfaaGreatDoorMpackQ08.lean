/- Steps of the proof, packed by program: McA5 McA6 McA7. -/
import Derived.Test.YtlabgjcjccdjfaaGreatDoorRows
import Derived.Test.YtlabgjcjccdjfaaGreatDoorMpackQ02
import Derived.Test.YtlabgjcjccdjfaaGreatDoorMpackQ07
set_option linter.unusedVariables false
set_option linter.unusedSimpArgs false
set_option linter.unnecessarySimpa false
section
set_option linter.unusedSimpArgs false
set_option linter.unusedVariables false
namespace Go.Proofs.N
open Go Go.Ux Go.Ux.Mach Go.Proofs
theorem fo48_4 : fieldOff Tryz.prog 48 4 = some 4 := by kernel_rfl
theorem ag2 : isAggT Tryz.prog 2 = some false := by kernel_rfl
theorem fo48_0 : fieldOff Tryz.prog 48 0 = some 0 := by kernel_rfl
theorem ag5 : isAggT Tryz.prog 5 = some false := by kernel_rfl
theorem ca87 : callable Tryz.prog 87 = true := by kernel_rfl
theorem BinR.andNotU64 {P : Program} {t : TypeId} {x y : BitVec 64} : BinR P .andNot t (U64 x) (U64 y) (U64 (x &&& ~~~y)) := .of_int fun w => by
  have e : Op.intBits .andNot .u64 (x.toNat : Int) (y.toNat : Int) = pure (.int .u64 (IntKind.u64.wrap ((x &&& ~~~y).toNat : Int))) := by unfold Op.intBits; simp only [IntKind.bits, ofInt_toNat_id]; rfl
  simp only [binOp, ne_eq, not_true_eq_false, if_false, e, wrap_u64_bv, ofInt_toNat_id, Sem.run_pure]
theorem jumps_z (z : BitVec 8) (hz : ∀ c ∈ [5#8, 6#8, 7#8, 8#8, 9#8, 10#8], (z == c) = false) (x y : BitVec 64) (w : World) : CallsR Tryz.prog 87 #[U8 (z), U64 (x), U64 (y)] w (fun v w' => v = .tuple #[.bool (false), .bool false] ∧ Ext w w') := by
  refine callsR_of Tryz.func87 rfl rfl rfl ?_
  refine WC.seq (WC.region (WL.assign (v := .bool (false)) rfl rfl (WL.assign (v := .bool (false)) rfl rfl (WL.nil (WC.seq (WC.seq (WC.region (WL.move (v := U8 (z)) rfl rfl (WL.nil ?_)))))))))
  refine WC.block (WC.seq (WC.neU (c := 5#8) rfl rfl rfl rfl rfl rfl (hz _ (by decide)) (WC.seq (WC.neU (c := 6#8) rfl rfl rfl rfl rfl rfl (hz _ (by decide)) (WC.seq (WC.neU (c := 7#8) rfl rfl rfl rfl rfl rfl (hz _ (by decide)) (WC.seq (WC.neU (c := 8#8) rfl rfl rfl rfl rfl rfl (hz _ (by decide)) (WC.seq ?_)))))))))
  refine WC.neU (c := 9#8) rfl rfl rfl rfl rfl rfl (hz _ (by decide)) (WC.seq (WC.neU (c := 10#8) rfl rfl rfl rfl rfl rfl (hz _ (by decide)) (WC.skip (WC.seq (WC.region (WL.assign (v := .bool (false)) rfl rfl (WL.assign (v := .bool (false)) rfl rfl (WL.nil (WC.ret ?_)))))))))
  exact ⟨_, Res.two (v := .bool (false)) (v' := .bool (false)) rfl rfl rfl, rfl, Mod.refl _ _⟩
theorem jumps_5 (x y : BitVec 64) (w : World) : CallsR Tryz.prog 87 #[U8 (5#8), U64 (x), U64 (y)] w (fun v w' => v = .tuple #[.bool ((x == y)), .bool true] ∧ Ext w w') := by
  refine callsR_of Tryz.func87 rfl rfl rfl ?_
  refine WC.seq (WC.region (WL.assign (v := .bool (false)) rfl rfl (WL.assign (v := .bool (false)) rfl rfl (WL.nil (WC.seq (WC.seq (WC.region (WL.move (v := U8 (5#8)) rfl rfl (WL.nil ?_)))))))))
  refine WC.block (WC.seq (WC.region (WL.bin (v := .bool (true)) rfl (vy := U8 (5#8)) rfl rfl (BinR.toB (BinR.eqlU8) (by decide)) (WL.assign (v := .bool (true)) rfl rfl (WL.nil (WC.condT rfl (WC.seq (WC.region (WL.move (v := U64 (x)) rfl rfl ?_)))))))))
  refine WL.move (v := U64 (y)) rfl rfl (WL.bin rfl rfl rfl (BinR.eqlU64) (WL.assign (v := .bool ((x == y))) rfl rfl (WL.assign (v := .bool (true)) rfl rfl (WL.nil (WC.ret ?_)))))
  exact ⟨_, Res.two (v := .bool ((x == y))) (v' := .bool (true)) rfl rfl rfl, rfl, Mod.refl _ _⟩
theorem jumps_6 (x y : BitVec 64) (w : World) : CallsR Tryz.prog 87 #[U8 (6#8), U64 (x), U64 (y)] w (fun v w' => v = .tuple #[.bool ((x != y)), .bool true] ∧ Ext w w') := by
  refine callsR_of Tryz.func87 rfl rfl rfl ?_
  refine WC.seq (WC.region (WL.assign (v := .bool (false)) rfl rfl (WL.assign (v := .bool (false)) rfl rfl (WL.nil (WC.seq (WC.seq (WC.region (WL.move (v := U8 (6#8)) rfl rfl (WL.nil ?_)))))))))
  refine WC.block (WC.seq (WC.neU (c := 5#8) rfl rfl rfl rfl rfl rfl (by decide) (WC.seq (WC.region (WL.bin (v := .bool (true)) rfl (vy := U8 (6#8)) rfl rfl (BinR.toB (BinR.eqlU8) (by decide)) (WL.assign (v := .bool (true)) rfl rfl (WL.nil (WC.condT rfl (WC.seq ?_)))))))))
  refine WC.region (WL.move (v := U64 (x)) rfl rfl (WL.move (v := U64 (y)) rfl rfl (WL.bin rfl rfl rfl (BinR.neqU64) (WL.assign (v := .bool ((x != y))) rfl rfl (WL.assign (v := .bool (true)) rfl rfl (WL.nil (WC.ret ?_)))))))
  exact ⟨_, Res.two (v := .bool ((x != y))) (v' := .bool (true)) rfl rfl rfl, rfl, Mod.refl _ _⟩
theorem jumps_7 (x y : BitVec 64) (w : World) : CallsR Tryz.prog 87 #[U8 (7#8), U64 (x), U64 (y)] w (fun v w' => v = .tuple #[.bool (BitVec.slt (x) (y)), .bool true] ∧ Ext w w') := by
  refine callsR_of Tryz.func87 rfl rfl rfl ?_
  refine WC.seq (WC.region (WL.assign (v := .bool (false)) rfl rfl (WL.assign (v := .bool (false)) rfl rfl (WL.nil (WC.seq (WC.seq (WC.region (WL.move (v := U8 (7#8)) rfl rfl (WL.nil ?_)))))))))
  refine WC.block (WC.seq (WC.neU (c := 5#8) rfl rfl rfl rfl rfl rfl (by decide) (WC.seq (WC.neU (c := 6#8) rfl rfl rfl rfl rfl rfl (by decide) (WC.seq (WC.region (WL.bin (v := .bool (true)) rfl (vy := U8 (7#8)) rfl rfl (BinR.toB (BinR.eqlU8) (by decide)) (WL.assign (v := .bool (true)) rfl rfl (WL.nil ?_)))))))))
  refine WC.condT rfl (WC.seq (WC.region (WL.move (v := U64 (x)) rfl rfl (WL.conv rfl rfl (ConvR.u64i64 Tryz.underlying39 Tryz.underlying2) (WL.move (v := U64 (y)) rfl rfl (WL.conv rfl rfl (ConvR.u64i64 Tryz.underlying39 Tryz.underlying2) (WL.bin rfl rfl rfl (BinR.lss64) (WL.assign (v := .bool (BitVec.slt (x) (y))) rfl rfl (WL.assign (v := .bool (true)) rfl rfl ?_)))))))))
  refine WL.nil (WC.ret ?_)
  exact ⟨_, Res.two (v := .bool (BitVec.slt (x) (y))) (v' := .bool (true)) rfl rfl rfl, rfl, Mod.refl _ _⟩
theorem jumps_8 (x y : BitVec 64) (w : World) : CallsR Tryz.prog 87 #[U8 (8#8), U64 (x), U64 (y)] w (fun v w' => v = .tuple #[.bool (BitVec.sle (y) (x)), .bool true] ∧ Ext w w') := by
  refine callsR_of Tryz.func87 rfl rfl rfl ?_
  refine WC.seq (WC.region (WL.assign (v := .bool (false)) rfl rfl (WL.assign (v := .bool (false)) rfl rfl (WL.nil (WC.seq (WC.seq (WC.region (WL.move (v := U8 (8#8)) rfl rfl (WL.nil ?_)))))))))
  refine WC.block (WC.seq (WC.neU (c := 5#8) rfl rfl rfl rfl rfl rfl (by decide) (WC.seq (WC.neU (c := 6#8) rfl rfl rfl rfl rfl rfl (by decide) (WC.seq (WC.neU (c := 7#8) rfl rfl rfl rfl rfl rfl (by decide) (WC.seq (WC.region (WL.bin (v := .bool (true)) rfl (vy := U8 (8#8)) rfl rfl (BinR.toB (BinR.eqlU8) (by decide)) ?_)))))))))
  refine WL.assign (v := .bool (true)) rfl rfl (WL.nil (WC.condT rfl (WC.seq (WC.region (WL.move (v := U64 (x)) rfl rfl (WL.conv rfl rfl (ConvR.u64i64 Tryz.underlying39 Tryz.underlying2) (WL.move (v := U64 (y)) rfl rfl (WL.conv rfl rfl (ConvR.u64i64 Tryz.underlying39 Tryz.underlying2) (WL.bin rfl rfl rfl (BinR.geq64) ?_)))))))))
  refine WL.assign (v := .bool (BitVec.sle (y) (x))) rfl rfl (WL.assign (v := .bool (true)) rfl rfl (WL.nil (WC.ret ?_)))
  exact ⟨_, Res.two (v := .bool (BitVec.sle (y) (x))) (v' := .bool (true)) rfl rfl rfl, rfl, Mod.refl _ _⟩
theorem jumps_9 (x y : BitVec 64) (w : World) : CallsR Tryz.prog 87 #[U8 (9#8), U64 (x), U64 (y)] w (fun v w' => v = .tuple #[.bool (BitVec.ult (x) (y)), .bool true] ∧ Ext w w') := by
  refine callsR_of Tryz.func87 rfl rfl rfl ?_
  refine WC.seq (WC.region (WL.assign (v := .bool (false)) rfl rfl (WL.assign (v := .bool (false)) rfl rfl (WL.nil (WC.seq (WC.seq (WC.region (WL.move (v := U8 (9#8)) rfl rfl (WL.nil ?_)))))))))
  refine WC.block (WC.seq (WC.neU (c := 5#8) rfl rfl rfl rfl rfl rfl (by decide) (WC.seq (WC.neU (c := 6#8) rfl rfl rfl rfl rfl rfl (by decide) (WC.seq (WC.neU (c := 7#8) rfl rfl rfl rfl rfl rfl (by decide) (WC.seq (WC.neU (c := 8#8) rfl rfl rfl rfl rfl rfl (by decide) (WC.seq ?_)))))))))
  refine WC.region (WL.bin (v := .bool (true)) rfl (vy := U8 (9#8)) rfl rfl (BinR.toB (BinR.eqlU8) (by decide)) (WL.assign (v := .bool (true)) rfl rfl (WL.nil (WC.condT rfl (WC.seq (WC.region (WL.move (v := U64 (x)) rfl rfl (WL.move (v := U64 (y)) rfl rfl (WL.bin rfl rfl rfl (BinR.lssU64) ?_)))))))))
  refine WL.assign (v := .bool (BitVec.ult (x) (y))) rfl rfl (WL.assign (v := .bool (true)) rfl rfl (WL.nil (WC.ret ?_)))
  exact ⟨_, Res.two (v := .bool (BitVec.ult (x) (y))) (v' := .bool (true)) rfl rfl rfl, rfl, Mod.refl _ _⟩
theorem jumps_10 (x y : BitVec 64) (w : World) : CallsR Tryz.prog 87 #[U8 (10#8), U64 (x), U64 (y)] w (fun v w' => v = .tuple #[.bool (BitVec.ule (y) (x)), .bool true] ∧ Ext w w') := by
  refine callsR_of Tryz.func87 rfl rfl rfl ?_
  refine WC.seq (WC.region (WL.assign (v := .bool (false)) rfl rfl (WL.assign (v := .bool (false)) rfl rfl (WL.nil (WC.seq (WC.seq (WC.region (WL.move (v := U8 (10#8)) rfl rfl (WL.nil ?_)))))))))
  refine WC.block (WC.seq (WC.neU (c := 5#8) rfl rfl rfl rfl rfl rfl (by decide) (WC.seq (WC.neU (c := 6#8) rfl rfl rfl rfl rfl rfl (by decide) (WC.seq (WC.neU (c := 7#8) rfl rfl rfl rfl rfl rfl (by decide) (WC.seq (WC.neU (c := 8#8) rfl rfl rfl rfl rfl rfl (by decide) (WC.seq ?_)))))))))
  refine WC.neU (c := 9#8) rfl rfl rfl rfl rfl rfl (by decide) (WC.seq (WC.region (WL.bin (v := .bool (true)) rfl (vy := U8 (10#8)) rfl rfl (BinR.toB (BinR.eqlU8) (by decide)) (WL.assign (v := .bool (true)) rfl rfl (WL.nil (WC.condT rfl (WC.seq (WC.region (WL.move (v := U64 (x)) rfl rfl ?_)))))))))
  refine WL.move (v := U64 (y)) rfl rfl (WL.bin rfl rfl rfl (BinR.geqU64) (WL.assign (v := .bool (BitVec.ule (y) (x))) rfl rfl (WL.assign (v := .bool (true)) rfl rfl (WL.nil (WC.ret ?_)))))
  exact ⟨_, Res.two (v := .bool (BitVec.ule (y) (x))) (v' := .bool (true)) rfl rfl rfl, rfl, Mod.refl _ _⟩
theorem do_none (z : BitVec 8) (hj : ∀ c ∈ [5#8, 6#8, 7#8, 8#8, 9#8, 10#8], (z == c) = false) (hz : ∀ c ∈ [1#8, 2#8, 3#8, 4#8], (z == c) = false) (hr : ∀ w, CallsR Tryz.prog 88 #[U8 z] w (fun v w' => v = .nilFunc ∧ Ext w w')) (rd rs1 rs2 : BitVec 8) (imm pc x y : BitVec 64) (w : World) : CallsR Tryz.prog 53 #[.agg #[U8 (z), U8 (rd), U8 (rs1), U8 (rs2), I64 (imm)], U64 (pc), U64 (x), U64 (y)] w (fun v w' => v = .tuple #[U64 (0#64), U64 (pc + 4#64)] ∧ Ext w w') := by
  refine callsR_of Tryz.func53 rfl rfl rfl ?_
  refine WC.seq (WC.region (WL.box (v := .agg #[U8 (z), U8 (rd), U8 (rs1), U8 (rs2), I64 (imm)]) rfl rfl ?_))
  intro b4 w4 n4
  have E1 : Ext w w4 := Mod.trans (Mod.refl _ _) (n4.ext)
  refine WL.assign (v := U64 (0#64)) rfl rfl (WL.assign (v := U64 (0#64)) rfl rfl (WL.nil (WC.seq (WC.region (WL.fieldAddr rfl fo48_4 rfl (WL.load1 rfl ag2 (n4.blk.cell (j := 4) rfl) rfl (WL.conv rfl rfl (ConvR.i64u64 Tryz.underlying2 Tryz.underlying39) (WL.move (v := U64 (pc)) rfl rfl (WL.bin rfl (vy := U64 (4#64)) rfl rfl (BinR.addU64) ?_)))))))))
  refine WL.assign (v := U64 (imm)) rfl rfl (WL.assign (v := U64 ((pc + 4#64))) rfl rfl (WL.nil (WC.seq (WC.seq (WC.region (WL.fieldAddr rfl fo48_0 rfl (WL.load1 rfl ag5 (n4.blk.cell (j := 0) rfl) rfl (WL.move (v := U64 (x)) rfl rfl (WL.move (v := U64 (y)) rfl rfl ?_)))))))))
  refine WL.call ca87 (rfl) rfl (jumps_z z hj x y _) ?_
  rintro _ wj ⟨rfl, ej⟩
  have E2 : Ext w wj := Mod.trans (E1) (ej)
  refine WL.move (v := .tuple #[.bool (false), .bool false]) rfl rfl (WL.extract rfl rfl rfl (WL.extract rfl rfl rfl (WL.assign (v := .bool (false)) rfl rfl (WL.assign (v := .bool (false)) rfl rfl (WL.nil (WC.seq (WC.region (WL.move (v := .bool (false)) rfl rfl (WL.nil ?_)))))))))
  refine WC.condF rfl (WC.skip (WC.seq (WC.seq (WC.region (WL.fieldAddr rfl fo48_0 rfl ?_)))))
  have B3 := (n4.blk).ext (ej)
  refine WL.load1 rfl ag5 (B3.cell (j := 0) rfl) rfl (WL.nil (WC.block (WC.seq (WC.neU (c := 1#8) rfl rfl rfl rfl rfl rfl (hz _ (by decide)) (WC.seq (WC.neU (c := 2#8) rfl rfl rfl rfl rfl rfl (hz _ (by decide)) (WC.seq (WC.neU (c := 3#8) rfl rfl rfl rfl rfl rfl (hz _ (by decide)) (WC.seq ?_)))))))))
  refine WC.neU (c := 4#8) rfl rfl rfl rfl rfl rfl (hz _ (by decide)) (WC.skip (WC.seq (WC.region (WL.fieldAddr rfl fo48_0 rfl (WL.load1 rfl ag5 (B3.cell (j := 0) rfl) rfl (WL.call ca88 rfl rfl (hr _) ?_))))))
  rintro _ wr ⟨rfl, er⟩
  have E4 : Ext w wr := Mod.trans (E2) (er)
  refine WL.assign (v := .nilFunc) rfl rfl (WL.nil (WC.seq (WC.seq (WC.region (WL.move (v := .nilFunc) rfl rfl (WL.bin rfl rfl rfl (BinR.eqlNil Tryz.underlying178) (WL.nil (WC.condT rfl (WC.seq ?_)))))))))
  refine WC.region (WL.move (v := U64 ((pc + 4#64))) rfl rfl (WL.assign (v := U64 (0#64)) rfl rfl (WL.assign (v := U64 ((pc + 4#64))) rfl rfl (WL.nil (WC.ret ?_)))))
  exact ⟨_, Res.two (v := U64 (0#64)) (v' := U64 ((pc + 4#64))) rfl rfl rfl, rfl, E4⟩
theorem do_y (z : BitVec 8) (F : BitVec 64 → BitVec 64 → BitVec 64) (hj : ∀ c ∈ [5#8, 6#8, 7#8, 8#8, 9#8, 10#8], (z == c) = false) (hz : ∀ c ∈ [1#8, 2#8, 3#8, 4#8, 22#8, 23#8, 24#8, 25#8, 26#8, 27#8, 28#8, 29#8, 30#8, 41#8, 42#8, 43#8, 44#8], (z == c) = false) (hr : ∀ w, CallsR Tryz.prog 88 #[U8 z] w (fun v w' => FunOk w' v F ∧ Ext w w')) (rd rs1 rs2 : BitVec 8) (imm pc x y : BitVec 64) (w : World) : CallsR Tryz.prog 53 #[.agg #[U8 (z), U8 (rd), U8 (rs1), U8 (rs2), I64 (imm)], U64 (pc), U64 (x), U64 (y)] w (fun v w' => v = .tuple #[U64 (F x y), U64 (pc + 4#64)] ∧ Ext w w') := by
  refine callsR_of Tryz.func53 rfl rfl rfl ?_
  refine WC.seq (WC.region (WL.box (v := .agg #[U8 (z), U8 (rd), U8 (rs1), U8 (rs2), I64 (imm)]) rfl rfl ?_))
  intro b4 w4 n4
  have E1 : Ext w w4 := Mod.trans (Mod.refl _ _) (n4.ext)
  refine WL.assign (v := U64 (0#64)) rfl rfl (WL.assign (v := U64 (0#64)) rfl rfl (WL.nil (WC.seq (WC.region (WL.fieldAddr rfl fo48_4 rfl (WL.load1 rfl ag2 (n4.blk.cell (j := 4) rfl) rfl (WL.conv rfl rfl (ConvR.i64u64 Tryz.underlying2 Tryz.underlying39) (WL.move (v := U64 (pc)) rfl rfl (WL.bin rfl (vy := U64 (4#64)) rfl rfl (BinR.addU64) ?_)))))))))
  refine WL.assign (v := U64 (imm)) rfl rfl (WL.assign (v := U64 ((pc + 4#64))) rfl rfl (WL.nil (WC.seq (WC.seq (WC.region (WL.fieldAddr rfl fo48_0 rfl (WL.load1 rfl ag5 (n4.blk.cell (j := 0) rfl) rfl (WL.move (v := U64 (x)) rfl rfl (WL.move (v := U64 (y)) rfl rfl ?_)))))))))
  refine WL.call ca87 (rfl) rfl (jumps_z z hj x y _) ?_
  rintro _ wj ⟨rfl, ej⟩
  have E2 : Ext w wj := Mod.trans (E1) (ej)
  refine WL.move (v := .tuple #[.bool (false), .bool false]) rfl rfl (WL.extract rfl rfl rfl (WL.extract rfl rfl rfl (WL.assign (v := .bool (false)) rfl rfl (WL.assign (v := .bool (false)) rfl rfl (WL.nil (WC.seq (WC.region (WL.move (v := .bool (false)) rfl rfl (WL.nil ?_)))))))))
  refine WC.condF rfl (WC.skip (WC.seq (WC.seq (WC.region (WL.fieldAddr rfl fo48_0 rfl ?_)))))
  have B3 := (n4.blk).ext (ej)
  refine WL.load1 rfl ag5 (B3.cell (j := 0) rfl) rfl (WL.nil (WC.block (WC.seq (WC.neU (c := 1#8) rfl rfl rfl rfl rfl rfl (hz _ (by decide)) (WC.seq (WC.neU (c := 2#8) rfl rfl rfl rfl rfl rfl (hz _ (by decide)) (WC.seq (WC.neU (c := 3#8) rfl rfl rfl rfl rfl rfl (hz _ (by decide)) (WC.seq ?_)))))))))
  refine WC.neU (c := 4#8) rfl rfl rfl rfl rfl rfl (hz _ (by decide)) (WC.skip (WC.seq (WC.region (WL.fieldAddr rfl fo48_0 rfl (WL.load1 rfl ag5 (B3.cell (j := 0) rfl) rfl (WL.call ca88 rfl rfl (hr _) ?_))))))
  rintro _ wr ⟨⟨g, cs, rfl, hcal, hcl⟩, er⟩
  have E4 : Ext w wr := Mod.trans (E2) (er)
  refine WL.assign (v := .func (.func g) #[] cs) rfl rfl (WL.nil (WC.seq (WC.seq (WC.region (WL.move (v := .func (.func g) #[] cs) rfl rfl (WL.bin rfl rfl rfl (BinR.eqlFnil Tryz.underlying178) (WL.nil (WC.condF rfl (WC.skip ?_)))))))))
  refine WC.seq (WC.seq (WC.region (WL.fieldAddr rfl fo48_0 rfl ?_)))
  have B5 := (B3).ext (er)
  refine WL.load1 rfl ag5 (B5.cell (j := 0) rfl) rfl (WL.nil (WC.block (WC.seq (WC.seq (WC.neU (c := 22#8) rfl rfl rfl rfl rfl rfl (hz _ (by decide)) (WC.seq (WC.neU (c := 23#8) rfl rfl rfl rfl rfl rfl (hz _ (by decide)) (WC.seq (WC.neU (c := 24#8) rfl rfl rfl rfl rfl rfl (hz _ (by decide)) ?_)))))))))
  refine WC.seq (WC.neU (c := 25#8) rfl rfl rfl rfl rfl rfl (hz _ (by decide)) (WC.seq (WC.neU (c := 26#8) rfl rfl rfl rfl rfl rfl (hz _ (by decide)) (WC.seq (WC.neU (c := 27#8) rfl rfl rfl rfl rfl rfl (hz _ (by decide)) (WC.seq (WC.neU (c := 28#8) rfl rfl rfl rfl rfl rfl (hz _ (by decide)) (WC.seq (WC.neU (c := 29#8) rfl rfl rfl rfl rfl rfl (hz _ (by decide)) ?_)))))))))
  refine WC.seq (WC.neU (c := 30#8) rfl rfl rfl rfl rfl rfl (hz _ (by decide)) (WC.seq (WC.neU (c := 41#8) rfl rfl rfl rfl rfl rfl (hz _ (by decide)) (WC.seq (WC.neU (c := 42#8) rfl rfl rfl rfl rfl rfl (hz _ (by decide)) (WC.seq (WC.neU (c := 43#8) rfl rfl rfl rfl rfl rfl (hz _ (by decide)) (WC.neU (c := 44#8) rfl rfl rfl rfl rfl rfl (hz _ (by decide)) (WC.skip ?_)))))))))
  refine WC.seq (WC.region (WL.move (v := .func (.func g) #[] cs) rfl rfl (WL.move (v := U64 (x)) rfl rfl (WL.move (v := U64 (y)) rfl rfl (WL.callV (fs := #[]) (cs := cs) rfl hcal rfl rfl (hcl _ (Mod.refl _ _) x y) ?_)))))
  rintro _ wc ⟨rfl, ec⟩
  have E7 : Ext w wc := Mod.trans (E4) (ec)
  refine WL.move (v := U64 ((pc + 4#64))) rfl rfl (WL.assign (v := U64 (F x y)) rfl rfl (WL.assign (v := U64 ((pc + 4#64))) rfl rfl (WL.nil (WC.ret ?_))))
  exact ⟨_, Res.two (v := U64 (F x y)) (v' := U64 ((pc + 4#64))) rfl rfl rfl, rfl, E7⟩
theorem do_1 (rd rs1 rs2 : BitVec 8) (imm pc x y : BitVec 64) (w : World) : CallsR Tryz.prog 53 #[.agg #[U8 (1#8), U8 (rd), U8 (rs1), U8 (rs2), I64 (imm)], U64 (pc), U64 (x), U64 (y)] w (fun v w' => v = .tuple #[U64 (imm), U64 (pc + 4#64)] ∧ Ext w w') := by
  refine callsR_of Tryz.func53 rfl rfl rfl ?_
  refine WC.seq (WC.region (WL.box (v := .agg #[U8 (1#8), U8 (rd), U8 (rs1), U8 (rs2), I64 (imm)]) rfl rfl ?_))
  intro b4 w4 n4
  have E1 : Ext w w4 := Mod.trans (Mod.refl _ _) (n4.ext)
  refine WL.assign (v := U64 (0#64)) rfl rfl (WL.assign (v := U64 (0#64)) rfl rfl (WL.nil (WC.seq (WC.region (WL.fieldAddr rfl fo48_4 rfl (WL.load1 rfl ag2 (n4.blk.cell (j := 4) rfl) rfl (WL.conv rfl rfl (ConvR.i64u64 Tryz.underlying2 Tryz.underlying39) (WL.move (v := U64 (pc)) rfl rfl (WL.bin rfl (vy := U64 (4#64)) rfl rfl (BinR.addU64) ?_)))))))))
  refine WL.assign (v := U64 (imm)) rfl rfl (WL.assign (v := U64 ((pc + 4#64))) rfl rfl (WL.nil (WC.seq (WC.seq (WC.region (WL.fieldAddr rfl fo48_0 rfl (WL.load1 rfl ag5 (n4.blk.cell (j := 0) rfl) rfl (WL.move (v := U64 (x)) rfl rfl (WL.move (v := U64 (y)) rfl rfl ?_)))))))))
  refine WL.call ca87 (rfl) rfl (jumps_z 1#8 (by decide) x y _) ?_
  rintro _ wj ⟨rfl, ej⟩
  have E2 : Ext w wj := Mod.trans (E1) (ej)
  refine WL.move (v := .tuple #[.bool (false), .bool false]) rfl rfl (WL.extract rfl rfl rfl (WL.extract rfl rfl rfl (WL.assign (v := .bool (false)) rfl rfl (WL.assign (v := .bool (false)) rfl rfl (WL.nil (WC.seq (WC.region (WL.move (v := .bool (false)) rfl rfl (WL.nil ?_)))))))))
  refine WC.condF rfl (WC.skip (WC.seq (WC.seq (WC.region (WL.fieldAddr rfl fo48_0 rfl ?_)))))
  have B3 := (n4.blk).ext (ej)
  refine WL.load1 rfl ag5 (B3.cell (j := 0) rfl) rfl (WL.nil (WC.block (WC.seq (WC.region (WL.bin (v := .bool (true)) rfl (vy := U8 (1#8)) rfl rfl (BinR.toB (BinR.eqlU8) (by decide)) (WL.assign (v := .bool (true)) rfl rfl (WL.nil (WC.condT rfl (WC.seq ?_)))))))))
  refine WC.region (WL.move (v := U64 (imm)) rfl rfl (WL.move (v := U64 ((pc + 4#64))) rfl rfl (WL.assign (v := U64 (imm)) rfl rfl (WL.assign (v := U64 ((pc + 4#64))) rfl rfl (WL.nil (WC.ret ?_))))))
  exact ⟨_, Res.two (v := U64 (imm)) (v' := U64 ((pc + 4#64))) rfl rfl rfl, rfl, E2⟩
theorem do_2 (rd rs1 rs2 : BitVec 8) (imm pc x y : BitVec 64) (w : World) : CallsR Tryz.prog 53 #[.agg #[U8 (2#8), U8 (rd), U8 (rs1), U8 (rs2), I64 (imm)], U64 (pc), U64 (x), U64 (y)] w (fun v w' => v = .tuple #[U64 (pc + imm), U64 (pc + 4#64)] ∧ Ext w w') := by
  refine callsR_of Tryz.func53 rfl rfl rfl ?_
  refine WC.seq (WC.region (WL.box (v := .agg #[U8 (2#8), U8 (rd), U8 (rs1), U8 (rs2), I64 (imm)]) rfl rfl ?_))
  intro b4 w4 n4
  have E1 : Ext w w4 := Mod.trans (Mod.refl _ _) (n4.ext)
  refine WL.assign (v := U64 (0#64)) rfl rfl (WL.assign (v := U64 (0#64)) rfl rfl (WL.nil (WC.seq (WC.region (WL.fieldAddr rfl fo48_4 rfl (WL.load1 rfl ag2 (n4.blk.cell (j := 4) rfl) rfl (WL.conv rfl rfl (ConvR.i64u64 Tryz.underlying2 Tryz.underlying39) (WL.move (v := U64 (pc)) rfl rfl (WL.bin rfl (vy := U64 (4#64)) rfl rfl (BinR.addU64) ?_)))))))))
  refine WL.assign (v := U64 (imm)) rfl rfl (WL.assign (v := U64 ((pc + 4#64))) rfl rfl (WL.nil (WC.seq (WC.seq (WC.region (WL.fieldAddr rfl fo48_0 rfl (WL.load1 rfl ag5 (n4.blk.cell (j := 0) rfl) rfl (WL.move (v := U64 (x)) rfl rfl (WL.move (v := U64 (y)) rfl rfl ?_)))))))))
  refine WL.call ca87 (rfl) rfl (jumps_z 2#8 (by decide) x y _) ?_
  rintro _ wj ⟨rfl, ej⟩
  have E2 : Ext w wj := Mod.trans (E1) (ej)
  refine WL.move (v := .tuple #[.bool (false), .bool false]) rfl rfl (WL.extract rfl rfl rfl (WL.extract rfl rfl rfl (WL.assign (v := .bool (false)) rfl rfl (WL.assign (v := .bool (false)) rfl rfl (WL.nil (WC.seq (WC.region (WL.move (v := .bool (false)) rfl rfl (WL.nil ?_)))))))))
  refine WC.condF rfl (WC.skip (WC.seq (WC.seq (WC.region (WL.fieldAddr rfl fo48_0 rfl ?_)))))
  have B3 := (n4.blk).ext (ej)
  refine WL.load1 rfl ag5 (B3.cell (j := 0) rfl) rfl (WL.nil (WC.block (WC.seq (WC.neU (c := 1#8) rfl rfl rfl rfl rfl rfl (by decide) (WC.seq (WC.region (WL.bin (v := .bool (true)) rfl (vy := U8 (2#8)) rfl rfl (BinR.toB (BinR.eqlU8) (by decide)) (WL.assign (v := .bool (true)) rfl rfl (WL.nil ?_)))))))))
  refine WC.condT rfl (WC.seq (WC.region (WL.move (v := U64 (pc)) rfl rfl (WL.move (v := U64 (imm)) rfl rfl (WL.bin rfl rfl rfl (BinR.addU64) (WL.move (v := U64 ((pc + 4#64))) rfl rfl (WL.assign (v := U64 ((pc + imm))) rfl rfl (WL.assign (v := U64 ((pc + 4#64))) rfl rfl (WL.nil ?_)))))))))
  refine WC.ret ?_
  exact ⟨_, Res.two (v := U64 ((pc + imm))) (v' := U64 ((pc + 4#64))) rfl rfl rfl, rfl, E2⟩
theorem do_3 (rd rs1 rs2 : BitVec 8) (imm pc x y : BitVec 64) (w : World) : CallsR Tryz.prog 53 #[.agg #[U8 (3#8), U8 (rd), U8 (rs1), U8 (rs2), I64 (imm)], U64 (pc), U64 (x), U64 (y)] w (fun v w' => v = .tuple #[U64 (pc + 4#64), U64 (pc + imm)] ∧ Ext w w') := by
  refine callsR_of Tryz.func53 rfl rfl rfl ?_
  refine WC.seq (WC.region (WL.box (v := .agg #[U8 (3#8), U8 (rd), U8 (rs1), U8 (rs2), I64 (imm)]) rfl rfl ?_))
  intro b4 w4 n4
  have E1 : Ext w w4 := Mod.trans (Mod.refl _ _) (n4.ext)
  refine WL.assign (v := U64 (0#64)) rfl rfl (WL.assign (v := U64 (0#64)) rfl rfl (WL.nil (WC.seq (WC.region (WL.fieldAddr rfl fo48_4 rfl (WL.load1 rfl ag2 (n4.blk.cell (j := 4) rfl) rfl (WL.conv rfl rfl (ConvR.i64u64 Tryz.underlying2 Tryz.underlying39) (WL.move (v := U64 (pc)) rfl rfl (WL.bin rfl (vy := U64 (4#64)) rfl rfl (BinR.addU64) ?_)))))))))
  refine WL.assign (v := U64 (imm)) rfl rfl (WL.assign (v := U64 ((pc + 4#64))) rfl rfl (WL.nil (WC.seq (WC.seq (WC.region (WL.fieldAddr rfl fo48_0 rfl (WL.load1 rfl ag5 (n4.blk.cell (j := 0) rfl) rfl (WL.move (v := U64 (x)) rfl rfl (WL.move (v := U64 (y)) rfl rfl ?_)))))))))
  refine WL.call ca87 (rfl) rfl (jumps_z 3#8 (by decide) x y _) ?_
  rintro _ wj ⟨rfl, ej⟩
  have E2 : Ext w wj := Mod.trans (E1) (ej)
  refine WL.move (v := .tuple #[.bool (false), .bool false]) rfl rfl (WL.extract rfl rfl rfl (WL.extract rfl rfl rfl (WL.assign (v := .bool (false)) rfl rfl (WL.assign (v := .bool (false)) rfl rfl (WL.nil (WC.seq (WC.region (WL.move (v := .bool (false)) rfl rfl (WL.nil ?_)))))))))
  refine WC.condF rfl (WC.skip (WC.seq (WC.seq (WC.region (WL.fieldAddr rfl fo48_0 rfl ?_)))))
  have B3 := (n4.blk).ext (ej)
  refine WL.load1 rfl ag5 (B3.cell (j := 0) rfl) rfl (WL.nil (WC.block (WC.seq (WC.neU (c := 1#8) rfl rfl rfl rfl rfl rfl (by decide) (WC.seq (WC.neU (c := 2#8) rfl rfl rfl rfl rfl rfl (by decide) (WC.seq (WC.region (WL.bin (v := .bool (true)) rfl (vy := U8 (3#8)) rfl rfl (BinR.toB (BinR.eqlU8) (by decide)) ?_)))))))))
  refine WL.assign (v := .bool (true)) rfl rfl (WL.nil (WC.condT rfl (WC.seq (WC.region (WL.move (v := U64 ((pc + 4#64))) rfl rfl (WL.move (v := U64 (pc)) rfl rfl (WL.move (v := U64 (imm)) rfl rfl (WL.bin rfl rfl rfl (BinR.addU64) (WL.assign (v := U64 ((pc + 4#64))) rfl rfl ?_)))))))))
  refine WL.assign (v := U64 ((pc + imm))) rfl rfl (WL.nil (WC.ret ?_))
  exact ⟨_, Res.two (v := U64 ((pc + 4#64))) (v' := U64 ((pc + imm))) rfl rfl rfl, rfl, E2⟩
theorem do_4 (rd rs1 rs2 : BitVec 8) (imm pc x y : BitVec 64) (w : World) : CallsR Tryz.prog 53 #[.agg #[U8 (4#8), U8 (rd), U8 (rs1), U8 (rs2), I64 (imm)], U64 (pc), U64 (x), U64 (y)] w (fun v w' => v = .tuple #[U64 (pc + 4#64), U64 ((x + imm) &&& ~~~1#64)] ∧ Ext w w') := by
  refine callsR_of Tryz.func53 rfl rfl rfl ?_
  refine WC.seq (WC.region (WL.box (v := .agg #[U8 (4#8), U8 (rd), U8 (rs1), U8 (rs2), I64 (imm)]) rfl rfl ?_))
  intro b4 w4 n4
  have E1 : Ext w w4 := Mod.trans (Mod.refl _ _) (n4.ext)
  refine WL.assign (v := U64 (0#64)) rfl rfl (WL.assign (v := U64 (0#64)) rfl rfl (WL.nil (WC.seq (WC.region (WL.fieldAddr rfl fo48_4 rfl (WL.load1 rfl ag2 (n4.blk.cell (j := 4) rfl) rfl (WL.conv rfl rfl (ConvR.i64u64 Tryz.underlying2 Tryz.underlying39) (WL.move (v := U64 (pc)) rfl rfl (WL.bin rfl (vy := U64 (4#64)) rfl rfl (BinR.addU64) ?_)))))))))
  refine WL.assign (v := U64 (imm)) rfl rfl (WL.assign (v := U64 ((pc + 4#64))) rfl rfl (WL.nil (WC.seq (WC.seq (WC.region (WL.fieldAddr rfl fo48_0 rfl (WL.load1 rfl ag5 (n4.blk.cell (j := 0) rfl) rfl (WL.move (v := U64 (x)) rfl rfl (WL.move (v := U64 (y)) rfl rfl ?_)))))))))
  refine WL.call ca87 (rfl) rfl (jumps_z 4#8 (by decide) x y _) ?_
  rintro _ wj ⟨rfl, ej⟩
  have E2 : Ext w wj := Mod.trans (E1) (ej)
  refine WL.move (v := .tuple #[.bool (false), .bool false]) rfl rfl (WL.extract rfl rfl rfl (WL.extract rfl rfl rfl (WL.assign (v := .bool (false)) rfl rfl (WL.assign (v := .bool (false)) rfl rfl (WL.nil (WC.seq (WC.region (WL.move (v := .bool (false)) rfl rfl (WL.nil ?_)))))))))
  refine WC.condF rfl (WC.skip (WC.seq (WC.seq (WC.region (WL.fieldAddr rfl fo48_0 rfl ?_)))))
  have B3 := (n4.blk).ext (ej)
  refine WL.load1 rfl ag5 (B3.cell (j := 0) rfl) rfl (WL.nil (WC.block (WC.seq (WC.neU (c := 1#8) rfl rfl rfl rfl rfl rfl (by decide) (WC.seq (WC.neU (c := 2#8) rfl rfl rfl rfl rfl rfl (by decide) (WC.seq (WC.neU (c := 3#8) rfl rfl rfl rfl rfl rfl (by decide) (WC.seq ?_)))))))))
  refine WC.region (WL.bin (v := .bool (true)) rfl (vy := U8 (4#8)) rfl rfl (BinR.toB (BinR.eqlU8) (by decide)) (WL.assign (v := .bool (true)) rfl rfl (WL.nil (WC.condT rfl (WC.seq (WC.region (WL.move (v := U64 ((pc + 4#64))) rfl rfl (WL.move (v := U64 (x)) rfl rfl (WL.move (v := U64 (imm)) rfl rfl ?_)))))))))
  refine WL.bin rfl rfl rfl (BinR.addU64) (WL.bin (vy := U64 1#64) rfl rfl rfl BinR.andNotU64 (WL.assign (v := U64 ((pc + 4#64))) rfl rfl (WL.assign (v := U64 ((x + imm) &&& ~~~1#64)) rfl rfl (WL.nil (WC.ret ?_)))))
  exact ⟨_, Res.two (v := U64 ((pc + 4#64))) (v' := U64 ((x + imm) &&& ~~~1#64)) rfl rfl rfl, rfl, E2⟩
theorem do_5 (rd rs1 rs2 : BitVec 8) (imm pc x y : BitVec 64) (w : World) : CallsR Tryz.prog 53 #[.agg #[U8 (5#8), U8 (rd), U8 (rs1), U8 (rs2), I64 (imm)], U64 (pc), U64 (x), U64 (y)] w (fun v w' => v = .tuple #[U64 (0#64), U64 (if (x == y) then pc + imm else pc + 4#64)] ∧ Ext w w') := by
  refine callsR_of Tryz.func53 rfl rfl rfl ?_
  refine WC.seq (WC.region (WL.box (v := .agg #[U8 (5#8), U8 (rd), U8 (rs1), U8 (rs2), I64 (imm)]) rfl rfl ?_))
  intro b4 w4 n4
  have E1 : Ext w w4 := Mod.trans (Mod.refl _ _) (n4.ext)
  refine WL.assign (v := U64 (0#64)) rfl rfl (WL.assign (v := U64 (0#64)) rfl rfl (WL.nil (WC.seq (WC.region (WL.fieldAddr rfl fo48_4 rfl (WL.load1 rfl ag2 (n4.blk.cell (j := 4) rfl) rfl (WL.conv rfl rfl (ConvR.i64u64 Tryz.underlying2 Tryz.underlying39) (WL.move (v := U64 (pc)) rfl rfl (WL.bin rfl (vy := U64 (4#64)) rfl rfl (BinR.addU64) ?_)))))))))
  refine WL.assign (v := U64 (imm)) rfl rfl (WL.assign (v := U64 ((pc + 4#64))) rfl rfl (WL.nil (WC.seq (WC.seq (WC.region (WL.fieldAddr rfl fo48_0 rfl (WL.load1 rfl ag5 (n4.blk.cell (j := 0) rfl) rfl (WL.move (v := U64 (x)) rfl rfl (WL.move (v := U64 (y)) rfl rfl ?_)))))))))
  refine WL.call ca87 (rfl) rfl (jumps_5 x y _) ?_
  rintro _ wj ⟨rfl, ej⟩
  have E2 : Ext w wj := Mod.trans (E1) (ej)
  refine WL.move (v := .tuple #[.bool ((x == y)), .bool true]) rfl rfl (WL.extract rfl rfl rfl (WL.extract rfl rfl rfl (WL.assign (v := .bool ((x == y))) rfl rfl (WL.assign (v := .bool (true)) rfl rfl (WL.nil (WC.seq (WC.region (WL.move (v := .bool (true)) rfl rfl (WL.nil ?_)))))))))
  refine WC.condT rfl (WC.seq (WC.seq (WC.region (WL.move (v := .bool ((x == y))) rfl rfl (WL.nil ?_)))))
  refine WC.cond rfl (fun hc29 => ?_) (fun hc29 => ?_)
  · refine WC.region (WL.move (v := U64 (pc)) rfl rfl (WL.move (v := U64 (imm)) rfl rfl (WL.bin rfl rfl rfl (BinR.addU64) (WL.assign (v := U64 ((pc + imm))) rfl rfl (WL.nil (WC.seq (WC.region (WL.move (v := U64 ((pc + imm))) rfl rfl (WL.assign (v := U64 (0#64)) rfl rfl ?_)))))))))
    refine WL.assign (v := U64 ((pc + imm))) rfl rfl (WL.nil (WC.ret ?_))
    exact ⟨_, Res.two (v := U64 (0#64)) (v' := U64 ((pc + imm))) rfl rfl rfl, (by rw [hc29]; rfl), E2⟩
  · refine WC.skip (WC.seq (WC.region (WL.move (v := U64 ((pc + 4#64))) rfl rfl (WL.assign (v := U64 (0#64)) rfl rfl (WL.assign (v := U64 ((pc + 4#64))) rfl rfl (WL.nil (WC.ret ?_)))))))
    exact ⟨_, Res.two (v := U64 (0#64)) (v' := U64 ((pc + 4#64))) rfl rfl rfl, (by rw [hc29]; rfl), E2⟩
theorem do_6 (rd rs1 rs2 : BitVec 8) (imm pc x y : BitVec 64) (w : World) : CallsR Tryz.prog 53 #[.agg #[U8 (6#8), U8 (rd), U8 (rs1), U8 (rs2), I64 (imm)], U64 (pc), U64 (x), U64 (y)] w (fun v w' => v = .tuple #[U64 (0#64), U64 (if (x != y) then pc + imm else pc + 4#64)] ∧ Ext w w') := by
  refine callsR_of Tryz.func53 rfl rfl rfl ?_
  refine WC.seq (WC.region (WL.box (v := .agg #[U8 (6#8), U8 (rd), U8 (rs1), U8 (rs2), I64 (imm)]) rfl rfl ?_))
  intro b4 w4 n4
  have E1 : Ext w w4 := Mod.trans (Mod.refl _ _) (n4.ext)
  refine WL.assign (v := U64 (0#64)) rfl rfl (WL.assign (v := U64 (0#64)) rfl rfl (WL.nil (WC.seq (WC.region (WL.fieldAddr rfl fo48_4 rfl (WL.load1 rfl ag2 (n4.blk.cell (j := 4) rfl) rfl (WL.conv rfl rfl (ConvR.i64u64 Tryz.underlying2 Tryz.underlying39) (WL.move (v := U64 (pc)) rfl rfl (WL.bin rfl (vy := U64 (4#64)) rfl rfl (BinR.addU64) ?_)))))))))
  refine WL.assign (v := U64 (imm)) rfl rfl (WL.assign (v := U64 ((pc + 4#64))) rfl rfl (WL.nil (WC.seq (WC.seq (WC.region (WL.fieldAddr rfl fo48_0 rfl (WL.load1 rfl ag5 (n4.blk.cell (j := 0) rfl) rfl (WL.move (v := U64 (x)) rfl rfl (WL.move (v := U64 (y)) rfl rfl ?_)))))))))
  refine WL.call ca87 (rfl) rfl (jumps_6 x y _) ?_
  rintro _ wj ⟨rfl, ej⟩
  have E2 : Ext w wj := Mod.trans (E1) (ej)
  refine WL.move (v := .tuple #[.bool ((x != y)), .bool true]) rfl rfl (WL.extract rfl rfl rfl (WL.extract rfl rfl rfl (WL.assign (v := .bool ((x != y))) rfl rfl (WL.assign (v := .bool (true)) rfl rfl (WL.nil (WC.seq (WC.region (WL.move (v := .bool (true)) rfl rfl (WL.nil ?_)))))))))
  refine WC.condT rfl (WC.seq (WC.seq (WC.region (WL.move (v := .bool ((x != y))) rfl rfl (WL.nil ?_)))))
  refine WC.cond rfl (fun hc29 => ?_) (fun hc29 => ?_)
  · refine WC.region (WL.move (v := U64 (pc)) rfl rfl (WL.move (v := U64 (imm)) rfl rfl (WL.bin rfl rfl rfl (BinR.addU64) (WL.assign (v := U64 ((pc + imm))) rfl rfl (WL.nil (WC.seq (WC.region (WL.move (v := U64 ((pc + imm))) rfl rfl (WL.assign (v := U64 (0#64)) rfl rfl ?_)))))))))
    refine WL.assign (v := U64 ((pc + imm))) rfl rfl (WL.nil (WC.ret ?_))
    exact ⟨_, Res.two (v := U64 (0#64)) (v' := U64 ((pc + imm))) rfl rfl rfl, (by rw [hc29]; rfl), E2⟩
  · refine WC.skip (WC.seq (WC.region (WL.move (v := U64 ((pc + 4#64))) rfl rfl (WL.assign (v := U64 (0#64)) rfl rfl (WL.assign (v := U64 ((pc + 4#64))) rfl rfl (WL.nil (WC.ret ?_)))))))
    exact ⟨_, Res.two (v := U64 (0#64)) (v' := U64 ((pc + 4#64))) rfl rfl rfl, (by rw [hc29]; rfl), E2⟩
theorem do_7 (rd rs1 rs2 : BitVec 8) (imm pc x y : BitVec 64) (w : World) : CallsR Tryz.prog 53 #[.agg #[U8 (7#8), U8 (rd), U8 (rs1), U8 (rs2), I64 (imm)], U64 (pc), U64 (x), U64 (y)] w (fun v w' => v = .tuple #[U64 (0#64), U64 (if BitVec.slt (x) (y) then pc + imm else pc + 4#64)] ∧ Ext w w') := by
  refine callsR_of Tryz.func53 rfl rfl rfl ?_
  refine WC.seq (WC.region (WL.box (v := .agg #[U8 (7#8), U8 (rd), U8 (rs1), U8 (rs2), I64 (imm)]) rfl rfl ?_))
  intro b4 w4 n4
  have E1 : Ext w w4 := Mod.trans (Mod.refl _ _) (n4.ext)
  refine WL.assign (v := U64 (0#64)) rfl rfl (WL.assign (v := U64 (0#64)) rfl rfl (WL.nil (WC.seq (WC.region (WL.fieldAddr rfl fo48_4 rfl (WL.load1 rfl ag2 (n4.blk.cell (j := 4) rfl) rfl (WL.conv rfl rfl (ConvR.i64u64 Tryz.underlying2 Tryz.underlying39) (WL.move (v := U64 (pc)) rfl rfl (WL.bin rfl (vy := U64 (4#64)) rfl rfl (BinR.addU64) ?_)))))))))
  refine WL.assign (v := U64 (imm)) rfl rfl (WL.assign (v := U64 ((pc + 4#64))) rfl rfl (WL.nil (WC.seq (WC.seq (WC.region (WL.fieldAddr rfl fo48_0 rfl (WL.load1 rfl ag5 (n4.blk.cell (j := 0) rfl) rfl (WL.move (v := U64 (x)) rfl rfl (WL.move (v := U64 (y)) rfl rfl ?_)))))))))
  refine WL.call ca87 (rfl) rfl (jumps_7 x y _) ?_
  rintro _ wj ⟨rfl, ej⟩
  have E2 : Ext w wj := Mod.trans (E1) (ej)
  refine WL.move (v := .tuple #[.bool (BitVec.slt (x) (y)), .bool true]) rfl rfl (WL.extract rfl rfl rfl (WL.extract rfl rfl rfl (WL.assign (v := .bool (BitVec.slt (x) (y))) rfl rfl (WL.assign (v := .bool (true)) rfl rfl (WL.nil (WC.seq (WC.region (WL.move (v := .bool (true)) rfl rfl (WL.nil ?_)))))))))
  refine WC.condT rfl (WC.seq (WC.seq (WC.region (WL.move (v := .bool (BitVec.slt (x) (y))) rfl rfl (WL.nil ?_)))))
  refine WC.cond rfl (fun hc29 => ?_) (fun hc29 => ?_)
  · refine WC.region (WL.move (v := U64 (pc)) rfl rfl (WL.move (v := U64 (imm)) rfl rfl (WL.bin rfl rfl rfl (BinR.addU64) (WL.assign (v := U64 ((pc + imm))) rfl rfl (WL.nil (WC.seq (WC.region (WL.move (v := U64 ((pc + imm))) rfl rfl (WL.assign (v := U64 (0#64)) rfl rfl ?_)))))))))
    refine WL.assign (v := U64 ((pc + imm))) rfl rfl (WL.nil (WC.ret ?_))
    exact ⟨_, Res.two (v := U64 (0#64)) (v' := U64 ((pc + imm))) rfl rfl rfl, (by rw [hc29]; rfl), E2⟩
  · refine WC.skip (WC.seq (WC.region (WL.move (v := U64 ((pc + 4#64))) rfl rfl (WL.assign (v := U64 (0#64)) rfl rfl (WL.assign (v := U64 ((pc + 4#64))) rfl rfl (WL.nil (WC.ret ?_)))))))
    exact ⟨_, Res.two (v := U64 (0#64)) (v' := U64 ((pc + 4#64))) rfl rfl rfl, (by rw [hc29]; rfl), E2⟩
theorem do_8 (rd rs1 rs2 : BitVec 8) (imm pc x y : BitVec 64) (w : World) : CallsR Tryz.prog 53 #[.agg #[U8 (8#8), U8 (rd), U8 (rs1), U8 (rs2), I64 (imm)], U64 (pc), U64 (x), U64 (y)] w (fun v w' => v = .tuple #[U64 (0#64), U64 (if BitVec.sle (y) (x) then pc + imm else pc + 4#64)] ∧ Ext w w') := by
  refine callsR_of Tryz.func53 rfl rfl rfl ?_
  refine WC.seq (WC.region (WL.box (v := .agg #[U8 (8#8), U8 (rd), U8 (rs1), U8 (rs2), I64 (imm)]) rfl rfl ?_))
  intro b4 w4 n4
  have E1 : Ext w w4 := Mod.trans (Mod.refl _ _) (n4.ext)
  refine WL.assign (v := U64 (0#64)) rfl rfl (WL.assign (v := U64 (0#64)) rfl rfl (WL.nil (WC.seq (WC.region (WL.fieldAddr rfl fo48_4 rfl (WL.load1 rfl ag2 (n4.blk.cell (j := 4) rfl) rfl (WL.conv rfl rfl (ConvR.i64u64 Tryz.underlying2 Tryz.underlying39) (WL.move (v := U64 (pc)) rfl rfl (WL.bin rfl (vy := U64 (4#64)) rfl rfl (BinR.addU64) ?_)))))))))
  refine WL.assign (v := U64 (imm)) rfl rfl (WL.assign (v := U64 ((pc + 4#64))) rfl rfl (WL.nil (WC.seq (WC.seq (WC.region (WL.fieldAddr rfl fo48_0 rfl (WL.load1 rfl ag5 (n4.blk.cell (j := 0) rfl) rfl (WL.move (v := U64 (x)) rfl rfl (WL.move (v := U64 (y)) rfl rfl ?_)))))))))
  refine WL.call ca87 (rfl) rfl (jumps_8 x y _) ?_
  rintro _ wj ⟨rfl, ej⟩
  have E2 : Ext w wj := Mod.trans (E1) (ej)
  refine WL.move (v := .tuple #[.bool (BitVec.sle (y) (x)), .bool true]) rfl rfl (WL.extract rfl rfl rfl (WL.extract rfl rfl rfl (WL.assign (v := .bool (BitVec.sle (y) (x))) rfl rfl (WL.assign (v := .bool (true)) rfl rfl (WL.nil (WC.seq (WC.region (WL.move (v := .bool (true)) rfl rfl (WL.nil ?_)))))))))
  refine WC.condT rfl (WC.seq (WC.seq (WC.region (WL.move (v := .bool (BitVec.sle (y) (x))) rfl rfl (WL.nil ?_)))))
  refine WC.cond rfl (fun hc29 => ?_) (fun hc29 => ?_)
  · refine WC.region (WL.move (v := U64 (pc)) rfl rfl (WL.move (v := U64 (imm)) rfl rfl (WL.bin rfl rfl rfl (BinR.addU64) (WL.assign (v := U64 ((pc + imm))) rfl rfl (WL.nil (WC.seq (WC.region (WL.move (v := U64 ((pc + imm))) rfl rfl (WL.assign (v := U64 (0#64)) rfl rfl ?_)))))))))
    refine WL.assign (v := U64 ((pc + imm))) rfl rfl (WL.nil (WC.ret ?_))
    exact ⟨_, Res.two (v := U64 (0#64)) (v' := U64 ((pc + imm))) rfl rfl rfl, (by rw [hc29]; rfl), E2⟩
  · refine WC.skip (WC.seq (WC.region (WL.move (v := U64 ((pc + 4#64))) rfl rfl (WL.assign (v := U64 (0#64)) rfl rfl (WL.assign (v := U64 ((pc + 4#64))) rfl rfl (WL.nil (WC.ret ?_)))))))
    exact ⟨_, Res.two (v := U64 (0#64)) (v' := U64 ((pc + 4#64))) rfl rfl rfl, (by rw [hc29]; rfl), E2⟩
theorem do_9 (rd rs1 rs2 : BitVec 8) (imm pc x y : BitVec 64) (w : World) : CallsR Tryz.prog 53 #[.agg #[U8 (9#8), U8 (rd), U8 (rs1), U8 (rs2), I64 (imm)], U64 (pc), U64 (x), U64 (y)] w (fun v w' => v = .tuple #[U64 (0#64), U64 (if BitVec.ult (x) (y) then pc + imm else pc + 4#64)] ∧ Ext w w') := by
  refine callsR_of Tryz.func53 rfl rfl rfl ?_
  refine WC.seq (WC.region (WL.box (v := .agg #[U8 (9#8), U8 (rd), U8 (rs1), U8 (rs2), I64 (imm)]) rfl rfl ?_))
  intro b4 w4 n4
  have E1 : Ext w w4 := Mod.trans (Mod.refl _ _) (n4.ext)
  refine WL.assign (v := U64 (0#64)) rfl rfl (WL.assign (v := U64 (0#64)) rfl rfl (WL.nil (WC.seq (WC.region (WL.fieldAddr rfl fo48_4 rfl (WL.load1 rfl ag2 (n4.blk.cell (j := 4) rfl) rfl (WL.conv rfl rfl (ConvR.i64u64 Tryz.underlying2 Tryz.underlying39) (WL.move (v := U64 (pc)) rfl rfl (WL.bin rfl (vy := U64 (4#64)) rfl rfl (BinR.addU64) ?_)))))))))
  refine WL.assign (v := U64 (imm)) rfl rfl (WL.assign (v := U64 ((pc + 4#64))) rfl rfl (WL.nil (WC.seq (WC.seq (WC.region (WL.fieldAddr rfl fo48_0 rfl (WL.load1 rfl ag5 (n4.blk.cell (j := 0) rfl) rfl (WL.move (v := U64 (x)) rfl rfl (WL.move (v := U64 (y)) rfl rfl ?_)))))))))
  refine WL.call ca87 (rfl) rfl (jumps_9 x y _) ?_
  rintro _ wj ⟨rfl, ej⟩
  have E2 : Ext w wj := Mod.trans (E1) (ej)
  refine WL.move (v := .tuple #[.bool (BitVec.ult (x) (y)), .bool true]) rfl rfl (WL.extract rfl rfl rfl (WL.extract rfl rfl rfl (WL.assign (v := .bool (BitVec.ult (x) (y))) rfl rfl (WL.assign (v := .bool (true)) rfl rfl (WL.nil (WC.seq (WC.region (WL.move (v := .bool (true)) rfl rfl (WL.nil ?_)))))))))
  refine WC.condT rfl (WC.seq (WC.seq (WC.region (WL.move (v := .bool (BitVec.ult (x) (y))) rfl rfl (WL.nil ?_)))))
  refine WC.cond rfl (fun hc29 => ?_) (fun hc29 => ?_)
  · refine WC.region (WL.move (v := U64 (pc)) rfl rfl (WL.move (v := U64 (imm)) rfl rfl (WL.bin rfl rfl rfl (BinR.addU64) (WL.assign (v := U64 ((pc + imm))) rfl rfl (WL.nil (WC.seq (WC.region (WL.move (v := U64 ((pc + imm))) rfl rfl (WL.assign (v := U64 (0#64)) rfl rfl ?_)))))))))
    refine WL.assign (v := U64 ((pc + imm))) rfl rfl (WL.nil (WC.ret ?_))
    exact ⟨_, Res.two (v := U64 (0#64)) (v' := U64 ((pc + imm))) rfl rfl rfl, (by rw [hc29]; rfl), E2⟩
  · refine WC.skip (WC.seq (WC.region (WL.move (v := U64 ((pc + 4#64))) rfl rfl (WL.assign (v := U64 (0#64)) rfl rfl (WL.assign (v := U64 ((pc + 4#64))) rfl rfl (WL.nil (WC.ret ?_)))))))
    exact ⟨_, Res.two (v := U64 (0#64)) (v' := U64 ((pc + 4#64))) rfl rfl rfl, (by rw [hc29]; rfl), E2⟩
theorem do_10 (rd rs1 rs2 : BitVec 8) (imm pc x y : BitVec 64) (w : World) : CallsR Tryz.prog 53 #[.agg #[U8 (10#8), U8 (rd), U8 (rs1), U8 (rs2), I64 (imm)], U64 (pc), U64 (x), U64 (y)] w (fun v w' => v = .tuple #[U64 (0#64), U64 (if BitVec.ule (y) (x) then pc + imm else pc + 4#64)] ∧ Ext w w') := by
  refine callsR_of Tryz.func53 rfl rfl rfl ?_
  refine WC.seq (WC.region (WL.box (v := .agg #[U8 (10#8), U8 (rd), U8 (rs1), U8 (rs2), I64 (imm)]) rfl rfl ?_))
  intro b4 w4 n4
  have E1 : Ext w w4 := Mod.trans (Mod.refl _ _) (n4.ext)
  refine WL.assign (v := U64 (0#64)) rfl rfl (WL.assign (v := U64 (0#64)) rfl rfl (WL.nil (WC.seq (WC.region (WL.fieldAddr rfl fo48_4 rfl (WL.load1 rfl ag2 (n4.blk.cell (j := 4) rfl) rfl (WL.conv rfl rfl (ConvR.i64u64 Tryz.underlying2 Tryz.underlying39) (WL.move (v := U64 (pc)) rfl rfl (WL.bin rfl (vy := U64 (4#64)) rfl rfl (BinR.addU64) ?_)))))))))
  refine WL.assign (v := U64 (imm)) rfl rfl (WL.assign (v := U64 ((pc + 4#64))) rfl rfl (WL.nil (WC.seq (WC.seq (WC.region (WL.fieldAddr rfl fo48_0 rfl (WL.load1 rfl ag5 (n4.blk.cell (j := 0) rfl) rfl (WL.move (v := U64 (x)) rfl rfl (WL.move (v := U64 (y)) rfl rfl ?_)))))))))
  refine WL.call ca87 (rfl) rfl (jumps_10 x y _) ?_
  rintro _ wj ⟨rfl, ej⟩
  have E2 : Ext w wj := Mod.trans (E1) (ej)
  refine WL.move (v := .tuple #[.bool (BitVec.ule (y) (x)), .bool true]) rfl rfl (WL.extract rfl rfl rfl (WL.extract rfl rfl rfl (WL.assign (v := .bool (BitVec.ule (y) (x))) rfl rfl (WL.assign (v := .bool (true)) rfl rfl (WL.nil (WC.seq (WC.region (WL.move (v := .bool (true)) rfl rfl (WL.nil ?_)))))))))
  refine WC.condT rfl (WC.seq (WC.seq (WC.region (WL.move (v := .bool (BitVec.ule (y) (x))) rfl rfl (WL.nil ?_)))))
  refine WC.cond rfl (fun hc29 => ?_) (fun hc29 => ?_)
  · refine WC.region (WL.move (v := U64 (pc)) rfl rfl (WL.move (v := U64 (imm)) rfl rfl (WL.bin rfl rfl rfl (BinR.addU64) (WL.assign (v := U64 ((pc + imm))) rfl rfl (WL.nil (WC.seq (WC.region (WL.move (v := U64 ((pc + imm))) rfl rfl (WL.assign (v := U64 (0#64)) rfl rfl ?_)))))))))
    refine WL.assign (v := U64 ((pc + imm))) rfl rfl (WL.nil (WC.ret ?_))
    exact ⟨_, Res.two (v := U64 (0#64)) (v' := U64 ((pc + imm))) rfl rfl rfl, (by rw [hc29]; rfl), E2⟩
  · refine WC.skip (WC.seq (WC.region (WL.move (v := U64 ((pc + 4#64))) rfl rfl (WL.assign (v := U64 (0#64)) rfl rfl (WL.assign (v := U64 ((pc + 4#64))) rfl rfl (WL.nil (WC.ret ?_)))))))
    exact ⟨_, Res.two (v := U64 (0#64)) (v' := U64 ((pc + 4#64))) rfl rfl rfl, (by rw [hc29]; rfl), E2⟩
theorem do_22 (rd rs1 rs2 : BitVec 8) (imm pc x y : BitVec 64) (w : World) : CallsR Tryz.prog 53 #[.agg #[U8 (22#8), U8 (rd), U8 (rs1), U8 (rs2), I64 (imm)], U64 (pc), U64 (x), U64 (y)] w (fun v w' => v = .tuple #[U64 ((fun x y => x + y) x imm), U64 (pc + 4#64)] ∧ Ext w w') := by
  refine callsR_of Tryz.func53 rfl rfl rfl ?_
  refine WC.seq (WC.region (WL.box (v := .agg #[U8 (22#8), U8 (rd), U8 (rs1), U8 (rs2), I64 (imm)]) rfl rfl ?_))
  intro b4 w4 n4
  have E1 : Ext w w4 := Mod.trans (Mod.refl _ _) (n4.ext)
  refine WL.assign (v := U64 (0#64)) rfl rfl (WL.assign (v := U64 (0#64)) rfl rfl (WL.nil (WC.seq (WC.region (WL.fieldAddr rfl fo48_4 rfl (WL.load1 rfl ag2 (n4.blk.cell (j := 4) rfl) rfl (WL.conv rfl rfl (ConvR.i64u64 Tryz.underlying2 Tryz.underlying39) (WL.move (v := U64 (pc)) rfl rfl (WL.bin rfl (vy := U64 (4#64)) rfl rfl (BinR.addU64) ?_)))))))))
  refine WL.assign (v := U64 (imm)) rfl rfl (WL.assign (v := U64 ((pc + 4#64))) rfl rfl (WL.nil (WC.seq (WC.seq (WC.region (WL.fieldAddr rfl fo48_0 rfl (WL.load1 rfl ag5 (n4.blk.cell (j := 0) rfl) rfl (WL.move (v := U64 (x)) rfl rfl (WL.move (v := U64 (y)) rfl rfl ?_)))))))))
  refine WL.call ca87 (rfl) rfl (jumps_z 22#8 (by decide) x y _) ?_
  rintro _ wj ⟨rfl, ej⟩
  have E2 : Ext w wj := Mod.trans (E1) (ej)
  refine WL.move (v := .tuple #[.bool (false), .bool false]) rfl rfl (WL.extract rfl rfl rfl (WL.extract rfl rfl rfl (WL.assign (v := .bool (false)) rfl rfl (WL.assign (v := .bool (false)) rfl rfl (WL.nil (WC.seq (WC.region (WL.move (v := .bool (false)) rfl rfl (WL.nil ?_)))))))))
  refine WC.condF rfl (WC.skip (WC.seq (WC.seq (WC.region (WL.fieldAddr rfl fo48_0 rfl ?_)))))
  have B3 := (n4.blk).ext (ej)
  refine WL.load1 rfl ag5 (B3.cell (j := 0) rfl) rfl (WL.nil (WC.block (WC.seq (WC.neU (c := 1#8) rfl rfl rfl rfl rfl rfl (by decide) (WC.seq (WC.neU (c := 2#8) rfl rfl rfl rfl rfl rfl (by decide) (WC.seq (WC.neU (c := 3#8) rfl rfl rfl rfl rfl rfl (by decide) (WC.seq ?_)))))))))
  refine WC.neU (c := 4#8) rfl rfl rfl rfl rfl rfl (by decide) (WC.skip (WC.seq (WC.region (WL.fieldAddr rfl fo48_0 rfl (WL.load1 rfl ag5 (B3.cell (j := 0) rfl) rfl (WL.call ca88 rfl rfl (reckons_22 _) ?_))))))
  rintro _ wr ⟨⟨g, cs, rfl, hcal, hcl⟩, er⟩
  have E4 : Ext w wr := Mod.trans (E2) (er)
  refine WL.assign (v := .func (.func g) #[] cs) rfl rfl (WL.nil (WC.seq (WC.seq (WC.region (WL.move (v := .func (.func g) #[] cs) rfl rfl (WL.bin rfl rfl rfl (BinR.eqlFnil Tryz.underlying178) (WL.nil (WC.condF rfl (WC.skip ?_)))))))))
  refine WC.seq (WC.seq (WC.region (WL.fieldAddr rfl fo48_0 rfl ?_)))
  have B5 := (B3).ext (er)
  refine WL.load1 rfl ag5 (B5.cell (j := 0) rfl) rfl (WL.nil (WC.block (WC.seq (WC.seq (WC.region (WL.bin (v := .bool (true)) rfl (vy := U8 (22#8)) rfl rfl (BinR.toB (BinR.eqlU8) (by decide)) (WL.assign (v := .bool (true)) rfl rfl (WL.nil (WC.condT rfl ?_)))))))))
  refine WC.skip (WC.condT rfl (WC.region (WL.move (v := U64 (imm)) rfl rfl (WL.assign (v := U64 (imm)) rfl rfl (WL.nil (WC.seq (WC.region (WL.move (v := .func (.func g) #[] cs) rfl rfl (WL.move (v := U64 (x)) rfl rfl ?_)))))))))
  refine WL.move (v := U64 (imm)) rfl rfl (WL.callV (fs := #[]) (cs := cs) rfl hcal rfl rfl (hcl _ (Mod.refl _ _) x imm) ?_)
  rintro _ wc ⟨rfl, ec⟩
  have E7 : Ext w wc := Mod.trans (E4) (ec)
  refine WL.move (v := U64 ((pc + 4#64))) rfl rfl (WL.assign (v := U64 ((fun x y => x + y) x imm)) rfl rfl (WL.assign (v := U64 ((pc + 4#64))) rfl rfl (WL.nil (WC.ret ?_))))
  exact ⟨_, Res.two (v := U64 ((fun x y => x + y) x imm)) (v' := U64 ((pc + 4#64))) rfl rfl rfl, rfl, E7⟩
theorem do_23 (rd rs1 rs2 : BitVec 8) (imm pc x y : BitVec 64) (w : World) : CallsR Tryz.prog 53 #[.agg #[U8 (23#8), U8 (rd), U8 (rs1), U8 (rs2), I64 (imm)], U64 (pc), U64 (x), U64 (y)] w (fun v w' => v = .tuple #[U64 ((fun x y => bitW (BitVec.slt x y)) x imm), U64 (pc + 4#64)] ∧ Ext w w') := by
  refine callsR_of Tryz.func53 rfl rfl rfl ?_
  refine WC.seq (WC.region (WL.box (v := .agg #[U8 (23#8), U8 (rd), U8 (rs1), U8 (rs2), I64 (imm)]) rfl rfl ?_))
  intro b4 w4 n4
  have E1 : Ext w w4 := Mod.trans (Mod.refl _ _) (n4.ext)
  refine WL.assign (v := U64 (0#64)) rfl rfl (WL.assign (v := U64 (0#64)) rfl rfl (WL.nil (WC.seq (WC.region (WL.fieldAddr rfl fo48_4 rfl (WL.load1 rfl ag2 (n4.blk.cell (j := 4) rfl) rfl (WL.conv rfl rfl (ConvR.i64u64 Tryz.underlying2 Tryz.underlying39) (WL.move (v := U64 (pc)) rfl rfl (WL.bin rfl (vy := U64 (4#64)) rfl rfl (BinR.addU64) ?_)))))))))
  refine WL.assign (v := U64 (imm)) rfl rfl (WL.assign (v := U64 ((pc + 4#64))) rfl rfl (WL.nil (WC.seq (WC.seq (WC.region (WL.fieldAddr rfl fo48_0 rfl (WL.load1 rfl ag5 (n4.blk.cell (j := 0) rfl) rfl (WL.move (v := U64 (x)) rfl rfl (WL.move (v := U64 (y)) rfl rfl ?_)))))))))
  refine WL.call ca87 (rfl) rfl (jumps_z 23#8 (by decide) x y _) ?_
  rintro _ wj ⟨rfl, ej⟩
  have E2 : Ext w wj := Mod.trans (E1) (ej)
  refine WL.move (v := .tuple #[.bool (false), .bool false]) rfl rfl (WL.extract rfl rfl rfl (WL.extract rfl rfl rfl (WL.assign (v := .bool (false)) rfl rfl (WL.assign (v := .bool (false)) rfl rfl (WL.nil (WC.seq (WC.region (WL.move (v := .bool (false)) rfl rfl (WL.nil ?_)))))))))
  refine WC.condF rfl (WC.skip (WC.seq (WC.seq (WC.region (WL.fieldAddr rfl fo48_0 rfl ?_)))))
  have B3 := (n4.blk).ext (ej)
  refine WL.load1 rfl ag5 (B3.cell (j := 0) rfl) rfl (WL.nil (WC.block (WC.seq (WC.neU (c := 1#8) rfl rfl rfl rfl rfl rfl (by decide) (WC.seq (WC.neU (c := 2#8) rfl rfl rfl rfl rfl rfl (by decide) (WC.seq (WC.neU (c := 3#8) rfl rfl rfl rfl rfl rfl (by decide) (WC.seq ?_)))))))))
  refine WC.neU (c := 4#8) rfl rfl rfl rfl rfl rfl (by decide) (WC.skip (WC.seq (WC.region (WL.fieldAddr rfl fo48_0 rfl (WL.load1 rfl ag5 (B3.cell (j := 0) rfl) rfl (WL.call ca88 rfl rfl (reckons_23 _) ?_))))))
  rintro _ wr ⟨⟨g, cs, rfl, hcal, hcl⟩, er⟩
  have E4 : Ext w wr := Mod.trans (E2) (er)
  refine WL.assign (v := .func (.func g) #[] cs) rfl rfl (WL.nil (WC.seq (WC.seq (WC.region (WL.move (v := .func (.func g) #[] cs) rfl rfl (WL.bin rfl rfl rfl (BinR.eqlFnil Tryz.underlying178) (WL.nil (WC.condF rfl (WC.skip ?_)))))))))
  refine WC.seq (WC.seq (WC.region (WL.fieldAddr rfl fo48_0 rfl ?_)))
  have B5 := (B3).ext (er)
  refine WL.load1 rfl ag5 (B5.cell (j := 0) rfl) rfl (WL.nil (WC.block (WC.seq (WC.seq (WC.neU (c := 22#8) rfl rfl rfl rfl rfl rfl (by decide) (WC.seq (WC.region (WL.bin (v := .bool (true)) rfl (vy := U8 (23#8)) rfl rfl (BinR.toB (BinR.eqlU8) (by decide)) (WL.assign (v := .bool (true)) rfl rfl ?_)))))))))
  refine WL.nil (WC.condT rfl (WC.skip (WC.condT rfl (WC.region (WL.move (v := U64 (imm)) rfl rfl (WL.assign (v := U64 (imm)) rfl rfl (WL.nil (WC.seq (WC.region ?_)))))))))
  refine WL.move (v := .func (.func g) #[] cs) rfl rfl (WL.move (v := U64 (x)) rfl rfl (WL.move (v := U64 (imm)) rfl rfl (WL.callV (fs := #[]) (cs := cs) rfl hcal rfl rfl (hcl _ (Mod.refl _ _) x imm) ?_)))
  rintro _ wc ⟨rfl, ec⟩
  have E7 : Ext w wc := Mod.trans (E4) (ec)
  refine WL.move (v := U64 ((pc + 4#64))) rfl rfl (WL.assign (v := U64 ((fun x y => bitW (BitVec.slt x y)) x imm)) rfl rfl (WL.assign (v := U64 ((pc + 4#64))) rfl rfl (WL.nil (WC.ret ?_))))
  exact ⟨_, Res.two (v := U64 ((fun x y => bitW (BitVec.slt x y)) x imm)) (v' := U64 ((pc + 4#64))) rfl rfl rfl, rfl, E7⟩
theorem do_24 (rd rs1 rs2 : BitVec 8) (imm pc x y : BitVec 64) (w : World) : CallsR Tryz.prog 53 #[.agg #[U8 (24#8), U8 (rd), U8 (rs1), U8 (rs2), I64 (imm)], U64 (pc), U64 (x), U64 (y)] w (fun v w' => v = .tuple #[U64 ((fun x y => bitW (BitVec.ult x y)) x imm), U64 (pc + 4#64)] ∧ Ext w w') := by
  refine callsR_of Tryz.func53 rfl rfl rfl ?_
  refine WC.seq (WC.region (WL.box (v := .agg #[U8 (24#8), U8 (rd), U8 (rs1), U8 (rs2), I64 (imm)]) rfl rfl ?_))
  intro b4 w4 n4
  have E1 : Ext w w4 := Mod.trans (Mod.refl _ _) (n4.ext)
  refine WL.assign (v := U64 (0#64)) rfl rfl (WL.assign (v := U64 (0#64)) rfl rfl (WL.nil (WC.seq (WC.region (WL.fieldAddr rfl fo48_4 rfl (WL.load1 rfl ag2 (n4.blk.cell (j := 4) rfl) rfl (WL.conv rfl rfl (ConvR.i64u64 Tryz.underlying2 Tryz.underlying39) (WL.move (v := U64 (pc)) rfl rfl (WL.bin rfl (vy := U64 (4#64)) rfl rfl (BinR.addU64) ?_)))))))))
  refine WL.assign (v := U64 (imm)) rfl rfl (WL.assign (v := U64 ((pc + 4#64))) rfl rfl (WL.nil (WC.seq (WC.seq (WC.region (WL.fieldAddr rfl fo48_0 rfl (WL.load1 rfl ag5 (n4.blk.cell (j := 0) rfl) rfl (WL.move (v := U64 (x)) rfl rfl (WL.move (v := U64 (y)) rfl rfl ?_)))))))))
  refine WL.call ca87 (rfl) rfl (jumps_z 24#8 (by decide) x y _) ?_
  rintro _ wj ⟨rfl, ej⟩
  have E2 : Ext w wj := Mod.trans (E1) (ej)
  refine WL.move (v := .tuple #[.bool (false), .bool false]) rfl rfl (WL.extract rfl rfl rfl (WL.extract rfl rfl rfl (WL.assign (v := .bool (false)) rfl rfl (WL.assign (v := .bool (false)) rfl rfl (WL.nil (WC.seq (WC.region (WL.move (v := .bool (false)) rfl rfl (WL.nil ?_)))))))))
  refine WC.condF rfl (WC.skip (WC.seq (WC.seq (WC.region (WL.fieldAddr rfl fo48_0 rfl ?_)))))
  have B3 := (n4.blk).ext (ej)
  refine WL.load1 rfl ag5 (B3.cell (j := 0) rfl) rfl (WL.nil (WC.block (WC.seq (WC.neU (c := 1#8) rfl rfl rfl rfl rfl rfl (by decide) (WC.seq (WC.neU (c := 2#8) rfl rfl rfl rfl rfl rfl (by decide) (WC.seq (WC.neU (c := 3#8) rfl rfl rfl rfl rfl rfl (by decide) (WC.seq ?_)))))))))
  refine WC.neU (c := 4#8) rfl rfl rfl rfl rfl rfl (by decide) (WC.skip (WC.seq (WC.region (WL.fieldAddr rfl fo48_0 rfl (WL.load1 rfl ag5 (B3.cell (j := 0) rfl) rfl (WL.call ca88 rfl rfl (reckons_24 _) ?_))))))
  rintro _ wr ⟨⟨g, cs, rfl, hcal, hcl⟩, er⟩
  have E4 : Ext w wr := Mod.trans (E2) (er)
  refine WL.assign (v := .func (.func g) #[] cs) rfl rfl (WL.nil (WC.seq (WC.seq (WC.region (WL.move (v := .func (.func g) #[] cs) rfl rfl (WL.bin rfl rfl rfl (BinR.eqlFnil Tryz.underlying178) (WL.nil (WC.condF rfl (WC.skip ?_)))))))))
  refine WC.seq (WC.seq (WC.region (WL.fieldAddr rfl fo48_0 rfl ?_)))
  have B5 := (B3).ext (er)
  refine WL.load1 rfl ag5 (B5.cell (j := 0) rfl) rfl (WL.nil (WC.block (WC.seq (WC.seq (WC.neU (c := 22#8) rfl rfl rfl rfl rfl rfl (by decide) (WC.seq (WC.neU (c := 23#8) rfl rfl rfl rfl rfl rfl (by decide) (WC.seq (WC.region ?_)))))))))
  refine WL.bin (v := .bool (true)) rfl (vy := U8 (24#8)) rfl rfl (BinR.toB (BinR.eqlU8) (by decide)) (WL.assign (v := .bool (true)) rfl rfl (WL.nil (WC.condT rfl (WC.skip (WC.condT rfl (WC.region (WL.move (v := U64 (imm)) rfl rfl (WL.assign (v := U64 (imm)) rfl rfl (WL.nil ?_)))))))))
  refine WC.seq (WC.region (WL.move (v := .func (.func g) #[] cs) rfl rfl (WL.move (v := U64 (x)) rfl rfl (WL.move (v := U64 (imm)) rfl rfl (WL.callV (fs := #[]) (cs := cs) rfl hcal rfl rfl (hcl _ (Mod.refl _ _) x imm) ?_)))))
  rintro _ wc ⟨rfl, ec⟩
  have E7 : Ext w wc := Mod.trans (E4) (ec)
  refine WL.move (v := U64 ((pc + 4#64))) rfl rfl (WL.assign (v := U64 ((fun x y => bitW (BitVec.ult x y)) x imm)) rfl rfl (WL.assign (v := U64 ((pc + 4#64))) rfl rfl (WL.nil (WC.ret ?_))))
  exact ⟨_, Res.two (v := U64 ((fun x y => bitW (BitVec.ult x y)) x imm)) (v' := U64 ((pc + 4#64))) rfl rfl rfl, rfl, E7⟩
theorem do_25 (rd rs1 rs2 : BitVec 8) (imm pc x y : BitVec 64) (w : World) : CallsR Tryz.prog 53 #[.agg #[U8 (25#8), U8 (rd), U8 (rs1), U8 (rs2), I64 (imm)], U64 (pc), U64 (x), U64 (y)] w (fun v w' => v = .tuple #[U64 ((fun x y => x ^^^ y) x imm), U64 (pc + 4#64)] ∧ Ext w w') := by
  refine callsR_of Tryz.func53 rfl rfl rfl ?_
  refine WC.seq (WC.region (WL.box (v := .agg #[U8 (25#8), U8 (rd), U8 (rs1), U8 (rs2), I64 (imm)]) rfl rfl ?_))
  intro b4 w4 n4
  have E1 : Ext w w4 := Mod.trans (Mod.refl _ _) (n4.ext)
  refine WL.assign (v := U64 (0#64)) rfl rfl (WL.assign (v := U64 (0#64)) rfl rfl (WL.nil (WC.seq (WC.region (WL.fieldAddr rfl fo48_4 rfl (WL.load1 rfl ag2 (n4.blk.cell (j := 4) rfl) rfl (WL.conv rfl rfl (ConvR.i64u64 Tryz.underlying2 Tryz.underlying39) (WL.move (v := U64 (pc)) rfl rfl (WL.bin rfl (vy := U64 (4#64)) rfl rfl (BinR.addU64) ?_)))))))))
  refine WL.assign (v := U64 (imm)) rfl rfl (WL.assign (v := U64 ((pc + 4#64))) rfl rfl (WL.nil (WC.seq (WC.seq (WC.region (WL.fieldAddr rfl fo48_0 rfl (WL.load1 rfl ag5 (n4.blk.cell (j := 0) rfl) rfl (WL.move (v := U64 (x)) rfl rfl (WL.move (v := U64 (y)) rfl rfl ?_)))))))))
  refine WL.call ca87 (rfl) rfl (jumps_z 25#8 (by decide) x y _) ?_
  rintro _ wj ⟨rfl, ej⟩
  have E2 : Ext w wj := Mod.trans (E1) (ej)
  refine WL.move (v := .tuple #[.bool (false), .bool false]) rfl rfl (WL.extract rfl rfl rfl (WL.extract rfl rfl rfl (WL.assign (v := .bool (false)) rfl rfl (WL.assign (v := .bool (false)) rfl rfl (WL.nil (WC.seq (WC.region (WL.move (v := .bool (false)) rfl rfl (WL.nil ?_)))))))))
  refine WC.condF rfl (WC.skip (WC.seq (WC.seq (WC.region (WL.fieldAddr rfl fo48_0 rfl ?_)))))
  have B3 := (n4.blk).ext (ej)
  refine WL.load1 rfl ag5 (B3.cell (j := 0) rfl) rfl (WL.nil (WC.block (WC.seq (WC.neU (c := 1#8) rfl rfl rfl rfl rfl rfl (by decide) (WC.seq (WC.neU (c := 2#8) rfl rfl rfl rfl rfl rfl (by decide) (WC.seq (WC.neU (c := 3#8) rfl rfl rfl rfl rfl rfl (by decide) (WC.seq ?_)))))))))
  refine WC.neU (c := 4#8) rfl rfl rfl rfl rfl rfl (by decide) (WC.skip (WC.seq (WC.region (WL.fieldAddr rfl fo48_0 rfl (WL.load1 rfl ag5 (B3.cell (j := 0) rfl) rfl (WL.call ca88 rfl rfl (reckons_25 _) ?_))))))
  rintro _ wr ⟨⟨g, cs, rfl, hcal, hcl⟩, er⟩
  have E4 : Ext w wr := Mod.trans (E2) (er)
  refine WL.assign (v := .func (.func g) #[] cs) rfl rfl (WL.nil (WC.seq (WC.seq (WC.region (WL.move (v := .func (.func g) #[] cs) rfl rfl (WL.bin rfl rfl rfl (BinR.eqlFnil Tryz.underlying178) (WL.nil (WC.condF rfl (WC.skip ?_)))))))))
  refine WC.seq (WC.seq (WC.region (WL.fieldAddr rfl fo48_0 rfl ?_)))
  have B5 := (B3).ext (er)
  refine WL.load1 rfl ag5 (B5.cell (j := 0) rfl) rfl (WL.nil (WC.block (WC.seq (WC.seq (WC.neU (c := 22#8) rfl rfl rfl rfl rfl rfl (by decide) (WC.seq (WC.neU (c := 23#8) rfl rfl rfl rfl rfl rfl (by decide) (WC.seq (WC.neU (c := 24#8) rfl rfl rfl rfl rfl rfl (by decide) ?_)))))))))
  refine WC.seq (WC.region (WL.bin (v := .bool (true)) rfl (vy := U8 (25#8)) rfl rfl (BinR.toB (BinR.eqlU8) (by decide)) (WL.assign (v := .bool (true)) rfl rfl (WL.nil (WC.condT rfl (WC.skip (WC.condT rfl (WC.region (WL.move (v := U64 (imm)) rfl rfl ?_)))))))))
  refine WL.assign (v := U64 (imm)) rfl rfl (WL.nil (WC.seq (WC.region (WL.move (v := .func (.func g) #[] cs) rfl rfl (WL.move (v := U64 (x)) rfl rfl (WL.move (v := U64 (imm)) rfl rfl (WL.callV (fs := #[]) (cs := cs) rfl hcal rfl rfl (hcl _ (Mod.refl _ _) x imm) ?_)))))))
  rintro _ wc ⟨rfl, ec⟩
  have E7 : Ext w wc := Mod.trans (E4) (ec)
  refine WL.move (v := U64 ((pc + 4#64))) rfl rfl (WL.assign (v := U64 ((fun x y => x ^^^ y) x imm)) rfl rfl (WL.assign (v := U64 ((pc + 4#64))) rfl rfl (WL.nil (WC.ret ?_))))
  exact ⟨_, Res.two (v := U64 ((fun x y => x ^^^ y) x imm)) (v' := U64 ((pc + 4#64))) rfl rfl rfl, rfl, E7⟩
theorem do_26 (rd rs1 rs2 : BitVec 8) (imm pc x y : BitVec 64) (w : World) : CallsR Tryz.prog 53 #[.agg #[U8 (26#8), U8 (rd), U8 (rs1), U8 (rs2), I64 (imm)], U64 (pc), U64 (x), U64 (y)] w (fun v w' => v = .tuple #[U64 ((fun x y => x ||| y) x imm), U64 (pc + 4#64)] ∧ Ext w w') := by
  refine callsR_of Tryz.func53 rfl rfl rfl ?_
  refine WC.seq (WC.region (WL.box (v := .agg #[U8 (26#8), U8 (rd), U8 (rs1), U8 (rs2), I64 (imm)]) rfl rfl ?_))
  intro b4 w4 n4
  have E1 : Ext w w4 := Mod.trans (Mod.refl _ _) (n4.ext)
  refine WL.assign (v := U64 (0#64)) rfl rfl (WL.assign (v := U64 (0#64)) rfl rfl (WL.nil (WC.seq (WC.region (WL.fieldAddr rfl fo48_4 rfl (WL.load1 rfl ag2 (n4.blk.cell (j := 4) rfl) rfl (WL.conv rfl rfl (ConvR.i64u64 Tryz.underlying2 Tryz.underlying39) (WL.move (v := U64 (pc)) rfl rfl (WL.bin rfl (vy := U64 (4#64)) rfl rfl (BinR.addU64) ?_)))))))))
  refine WL.assign (v := U64 (imm)) rfl rfl (WL.assign (v := U64 ((pc + 4#64))) rfl rfl (WL.nil (WC.seq (WC.seq (WC.region (WL.fieldAddr rfl fo48_0 rfl (WL.load1 rfl ag5 (n4.blk.cell (j := 0) rfl) rfl (WL.move (v := U64 (x)) rfl rfl (WL.move (v := U64 (y)) rfl rfl ?_)))))))))
  refine WL.call ca87 (rfl) rfl (jumps_z 26#8 (by decide) x y _) ?_
  rintro _ wj ⟨rfl, ej⟩
  have E2 : Ext w wj := Mod.trans (E1) (ej)
  refine WL.move (v := .tuple #[.bool (false), .bool false]) rfl rfl (WL.extract rfl rfl rfl (WL.extract rfl rfl rfl (WL.assign (v := .bool (false)) rfl rfl (WL.assign (v := .bool (false)) rfl rfl (WL.nil (WC.seq (WC.region (WL.move (v := .bool (false)) rfl rfl (WL.nil ?_)))))))))
  refine WC.condF rfl (WC.skip (WC.seq (WC.seq (WC.region (WL.fieldAddr rfl fo48_0 rfl ?_)))))
  have B3 := (n4.blk).ext (ej)
  refine WL.load1 rfl ag5 (B3.cell (j := 0) rfl) rfl (WL.nil (WC.block (WC.seq (WC.neU (c := 1#8) rfl rfl rfl rfl rfl rfl (by decide) (WC.seq (WC.neU (c := 2#8) rfl rfl rfl rfl rfl rfl (by decide) (WC.seq (WC.neU (c := 3#8) rfl rfl rfl rfl rfl rfl (by decide) (WC.seq ?_)))))))))
  refine WC.neU (c := 4#8) rfl rfl rfl rfl rfl rfl (by decide) (WC.skip (WC.seq (WC.region (WL.fieldAddr rfl fo48_0 rfl (WL.load1 rfl ag5 (B3.cell (j := 0) rfl) rfl (WL.call ca88 rfl rfl (reckons_26 _) ?_))))))
  rintro _ wr ⟨⟨g, cs, rfl, hcal, hcl⟩, er⟩
  have E4 : Ext w wr := Mod.trans (E2) (er)
  refine WL.assign (v := .func (.func g) #[] cs) rfl rfl (WL.nil (WC.seq (WC.seq (WC.region (WL.move (v := .func (.func g) #[] cs) rfl rfl (WL.bin rfl rfl rfl (BinR.eqlFnil Tryz.underlying178) (WL.nil (WC.condF rfl (WC.skip ?_)))))))))
  refine WC.seq (WC.seq (WC.region (WL.fieldAddr rfl fo48_0 rfl ?_)))
  have B5 := (B3).ext (er)
  refine WL.load1 rfl ag5 (B5.cell (j := 0) rfl) rfl (WL.nil (WC.block (WC.seq (WC.seq (WC.neU (c := 22#8) rfl rfl rfl rfl rfl rfl (by decide) (WC.seq (WC.neU (c := 23#8) rfl rfl rfl rfl rfl rfl (by decide) (WC.seq (WC.neU (c := 24#8) rfl rfl rfl rfl rfl rfl (by decide) ?_)))))))))
  refine WC.seq (WC.neU (c := 25#8) rfl rfl rfl rfl rfl rfl (by decide) (WC.seq (WC.region (WL.bin (v := .bool (true)) rfl (vy := U8 (26#8)) rfl rfl (BinR.toB (BinR.eqlU8) (by decide)) (WL.assign (v := .bool (true)) rfl rfl (WL.nil (WC.condT rfl (WC.skip (WC.condT rfl ?_)))))))))
  refine WC.region (WL.move (v := U64 (imm)) rfl rfl (WL.assign (v := U64 (imm)) rfl rfl (WL.nil (WC.seq (WC.region (WL.move (v := .func (.func g) #[] cs) rfl rfl (WL.move (v := U64 (x)) rfl rfl (WL.move (v := U64 (imm)) rfl rfl (WL.callV (fs := #[]) (cs := cs) rfl hcal rfl rfl (hcl _ (Mod.refl _ _) x imm) ?_)))))))))
  rintro _ wc ⟨rfl, ec⟩
  have E7 : Ext w wc := Mod.trans (E4) (ec)
  refine WL.move (v := U64 ((pc + 4#64))) rfl rfl (WL.assign (v := U64 ((fun x y => x ||| y) x imm)) rfl rfl (WL.assign (v := U64 ((pc + 4#64))) rfl rfl (WL.nil (WC.ret ?_))))
  exact ⟨_, Res.two (v := U64 ((fun x y => x ||| y) x imm)) (v' := U64 ((pc + 4#64))) rfl rfl rfl, rfl, E7⟩
theorem do_27 (rd rs1 rs2 : BitVec 8) (imm pc x y : BitVec 64) (w : World) : CallsR Tryz.prog 53 #[.agg #[U8 (27#8), U8 (rd), U8 (rs1), U8 (rs2), I64 (imm)], U64 (pc), U64 (x), U64 (y)] w (fun v w' => v = .tuple #[U64 ((fun x y => x &&& y) x imm), U64 (pc + 4#64)] ∧ Ext w w') := by
  refine callsR_of Tryz.func53 rfl rfl rfl ?_
  refine WC.seq (WC.region (WL.box (v := .agg #[U8 (27#8), U8 (rd), U8 (rs1), U8 (rs2), I64 (imm)]) rfl rfl ?_))
  intro b4 w4 n4
  have E1 : Ext w w4 := Mod.trans (Mod.refl _ _) (n4.ext)
  refine WL.assign (v := U64 (0#64)) rfl rfl (WL.assign (v := U64 (0#64)) rfl rfl (WL.nil (WC.seq (WC.region (WL.fieldAddr rfl fo48_4 rfl (WL.load1 rfl ag2 (n4.blk.cell (j := 4) rfl) rfl (WL.conv rfl rfl (ConvR.i64u64 Tryz.underlying2 Tryz.underlying39) (WL.move (v := U64 (pc)) rfl rfl (WL.bin rfl (vy := U64 (4#64)) rfl rfl (BinR.addU64) ?_)))))))))
  refine WL.assign (v := U64 (imm)) rfl rfl (WL.assign (v := U64 ((pc + 4#64))) rfl rfl (WL.nil (WC.seq (WC.seq (WC.region (WL.fieldAddr rfl fo48_0 rfl (WL.load1 rfl ag5 (n4.blk.cell (j := 0) rfl) rfl (WL.move (v := U64 (x)) rfl rfl (WL.move (v := U64 (y)) rfl rfl ?_)))))))))
  refine WL.call ca87 (rfl) rfl (jumps_z 27#8 (by decide) x y _) ?_
  rintro _ wj ⟨rfl, ej⟩
  have E2 : Ext w wj := Mod.trans (E1) (ej)
  refine WL.move (v := .tuple #[.bool (false), .bool false]) rfl rfl (WL.extract rfl rfl rfl (WL.extract rfl rfl rfl (WL.assign (v := .bool (false)) rfl rfl (WL.assign (v := .bool (false)) rfl rfl (WL.nil (WC.seq (WC.region (WL.move (v := .bool (false)) rfl rfl (WL.nil ?_)))))))))
  refine WC.condF rfl (WC.skip (WC.seq (WC.seq (WC.region (WL.fieldAddr rfl fo48_0 rfl ?_)))))
  have B3 := (n4.blk).ext (ej)
  refine WL.load1 rfl ag5 (B3.cell (j := 0) rfl) rfl (WL.nil (WC.block (WC.seq (WC.neU (c := 1#8) rfl rfl rfl rfl rfl rfl (by decide) (WC.seq (WC.neU (c := 2#8) rfl rfl rfl rfl rfl rfl (by decide) (WC.seq (WC.neU (c := 3#8) rfl rfl rfl rfl rfl rfl (by decide) (WC.seq ?_)))))))))
  refine WC.neU (c := 4#8) rfl rfl rfl rfl rfl rfl (by decide) (WC.skip (WC.seq (WC.region (WL.fieldAddr rfl fo48_0 rfl (WL.load1 rfl ag5 (B3.cell (j := 0) rfl) rfl (WL.call ca88 rfl rfl (reckons_27 _) ?_))))))
  rintro _ wr ⟨⟨g, cs, rfl, hcal, hcl⟩, er⟩
  have E4 : Ext w wr := Mod.trans (E2) (er)
  refine WL.assign (v := .func (.func g) #[] cs) rfl rfl (WL.nil (WC.seq (WC.seq (WC.region (WL.move (v := .func (.func g) #[] cs) rfl rfl (WL.bin rfl rfl rfl (BinR.eqlFnil Tryz.underlying178) (WL.nil (WC.condF rfl (WC.skip ?_)))))))))
  refine WC.seq (WC.seq (WC.region (WL.fieldAddr rfl fo48_0 rfl ?_)))
  have B5 := (B3).ext (er)
  refine WL.load1 rfl ag5 (B5.cell (j := 0) rfl) rfl (WL.nil (WC.block (WC.seq (WC.seq (WC.neU (c := 22#8) rfl rfl rfl rfl rfl rfl (by decide) (WC.seq (WC.neU (c := 23#8) rfl rfl rfl rfl rfl rfl (by decide) (WC.seq (WC.neU (c := 24#8) rfl rfl rfl rfl rfl rfl (by decide) ?_)))))))))
  refine WC.seq (WC.neU (c := 25#8) rfl rfl rfl rfl rfl rfl (by decide) (WC.seq (WC.neU (c := 26#8) rfl rfl rfl rfl rfl rfl (by decide) (WC.seq (WC.region (WL.bin (v := .bool (true)) rfl (vy := U8 (27#8)) rfl rfl (BinR.toB (BinR.eqlU8) (by decide)) (WL.assign (v := .bool (true)) rfl rfl (WL.nil (WC.condT rfl ?_)))))))))
  refine WC.skip (WC.condT rfl (WC.region (WL.move (v := U64 (imm)) rfl rfl (WL.assign (v := U64 (imm)) rfl rfl (WL.nil (WC.seq (WC.region (WL.move (v := .func (.func g) #[] cs) rfl rfl (WL.move (v := U64 (x)) rfl rfl ?_)))))))))
  refine WL.move (v := U64 (imm)) rfl rfl (WL.callV (fs := #[]) (cs := cs) rfl hcal rfl rfl (hcl _ (Mod.refl _ _) x imm) ?_)
  rintro _ wc ⟨rfl, ec⟩
  have E7 : Ext w wc := Mod.trans (E4) (ec)
  refine WL.move (v := U64 ((pc + 4#64))) rfl rfl (WL.assign (v := U64 ((fun x y => x &&& y) x imm)) rfl rfl (WL.assign (v := U64 ((pc + 4#64))) rfl rfl (WL.nil (WC.ret ?_))))
  exact ⟨_, Res.two (v := U64 ((fun x y => x &&& y) x imm)) (v' := U64 ((pc + 4#64))) rfl rfl rfl, rfl, E7⟩
theorem do_28 (rd rs1 rs2 : BitVec 8) (imm pc x y : BitVec 64) (w : World) : CallsR Tryz.prog 53 #[.agg #[U8 (28#8), U8 (rd), U8 (rs1), U8 (rs2), I64 (imm)], U64 (pc), U64 (x), U64 (y)] w (fun v w' => v = .tuple #[U64 (sllW x imm), U64 (pc + 4#64)] ∧ Ext w w') := by
  refine callsR_of Tryz.func53 rfl rfl rfl ?_
  refine WC.seq (WC.region (WL.box (v := .agg #[U8 (28#8), U8 (rd), U8 (rs1), U8 (rs2), I64 (imm)]) rfl rfl ?_))
  intro b4 w4 n4
  have E1 : Ext w w4 := Mod.trans (Mod.refl _ _) (n4.ext)
  refine WL.assign (v := U64 (0#64)) rfl rfl (WL.assign (v := U64 (0#64)) rfl rfl (WL.nil (WC.seq (WC.region (WL.fieldAddr rfl fo48_4 rfl (WL.load1 rfl ag2 (n4.blk.cell (j := 4) rfl) rfl (WL.conv rfl rfl (ConvR.i64u64 Tryz.underlying2 Tryz.underlying39) (WL.move (v := U64 (pc)) rfl rfl (WL.bin rfl (vy := U64 (4#64)) rfl rfl (BinR.addU64) ?_)))))))))
  refine WL.assign (v := U64 (imm)) rfl rfl (WL.assign (v := U64 ((pc + 4#64))) rfl rfl (WL.nil (WC.seq (WC.seq (WC.region (WL.fieldAddr rfl fo48_0 rfl (WL.load1 rfl ag5 (n4.blk.cell (j := 0) rfl) rfl (WL.move (v := U64 (x)) rfl rfl (WL.move (v := U64 (y)) rfl rfl ?_)))))))))
  refine WL.call ca87 (rfl) rfl (jumps_z 28#8 (by decide) x y _) ?_
  rintro _ wj ⟨rfl, ej⟩
  have E2 : Ext w wj := Mod.trans (E1) (ej)
  refine WL.move (v := .tuple #[.bool (false), .bool false]) rfl rfl (WL.extract rfl rfl rfl (WL.extract rfl rfl rfl (WL.assign (v := .bool (false)) rfl rfl (WL.assign (v := .bool (false)) rfl rfl (WL.nil (WC.seq (WC.region (WL.move (v := .bool (false)) rfl rfl (WL.nil ?_)))))))))
  refine WC.condF rfl (WC.skip (WC.seq (WC.seq (WC.region (WL.fieldAddr rfl fo48_0 rfl ?_)))))
  have B3 := (n4.blk).ext (ej)
  refine WL.load1 rfl ag5 (B3.cell (j := 0) rfl) rfl (WL.nil (WC.block (WC.seq (WC.neU (c := 1#8) rfl rfl rfl rfl rfl rfl (by decide) (WC.seq (WC.neU (c := 2#8) rfl rfl rfl rfl rfl rfl (by decide) (WC.seq (WC.neU (c := 3#8) rfl rfl rfl rfl rfl rfl (by decide) (WC.seq ?_)))))))))
  refine WC.neU (c := 4#8) rfl rfl rfl rfl rfl rfl (by decide) (WC.skip (WC.seq (WC.region (WL.fieldAddr rfl fo48_0 rfl (WL.load1 rfl ag5 (B3.cell (j := 0) rfl) rfl (WL.call ca88 rfl rfl (reckons_28 _) ?_))))))
  rintro _ wr ⟨⟨g, cs, rfl, hcal, hcl⟩, er⟩
  have E4 : Ext w wr := Mod.trans (E2) (er)
  refine WL.assign (v := .func (.func g) #[] cs) rfl rfl (WL.nil (WC.seq (WC.seq (WC.region (WL.move (v := .func (.func g) #[] cs) rfl rfl (WL.bin rfl rfl rfl (BinR.eqlFnil Tryz.underlying178) (WL.nil (WC.condF rfl (WC.skip ?_)))))))))
  refine WC.seq (WC.seq (WC.region (WL.fieldAddr rfl fo48_0 rfl ?_)))
  have B5 := (B3).ext (er)
  refine WL.load1 rfl ag5 (B5.cell (j := 0) rfl) rfl (WL.nil (WC.block (WC.seq (WC.seq (WC.neU (c := 22#8) rfl rfl rfl rfl rfl rfl (by decide) (WC.seq (WC.neU (c := 23#8) rfl rfl rfl rfl rfl rfl (by decide) (WC.seq (WC.neU (c := 24#8) rfl rfl rfl rfl rfl rfl (by decide) ?_)))))))))
  refine WC.seq (WC.neU (c := 25#8) rfl rfl rfl rfl rfl rfl (by decide) (WC.seq (WC.neU (c := 26#8) rfl rfl rfl rfl rfl rfl (by decide) (WC.seq (WC.neU (c := 27#8) rfl rfl rfl rfl rfl rfl (by decide) (WC.seq (WC.region (WL.bin (v := .bool (true)) rfl (vy := U8 (28#8)) rfl rfl (BinR.toB (BinR.eqlU8) (by decide)) (WL.assign (v := .bool (true)) rfl rfl ?_)))))))))
  refine WL.nil (WC.condT rfl (WC.skip (WC.condT rfl (WC.region (WL.move (v := U64 (imm)) rfl rfl (WL.assign (v := U64 (imm)) rfl rfl (WL.nil (WC.seq (WC.region ?_)))))))))
  refine WL.move (v := .func (.func g) #[] cs) rfl rfl (WL.move (v := U64 (x)) rfl rfl (WL.move (v := U64 (imm)) rfl rfl (WL.callV (fs := #[]) (cs := cs) rfl hcal rfl rfl (hcl _ (Mod.refl _ _) x imm) ?_)))
  rintro _ wc ⟨rfl, ec⟩
  have E7 : Ext w wc := Mod.trans (E4) (ec)
  refine WL.move (v := U64 ((pc + 4#64))) rfl rfl (WL.assign (v := U64 (sllW x imm)) rfl rfl (WL.assign (v := U64 ((pc + 4#64))) rfl rfl (WL.nil (WC.ret ?_))))
  exact ⟨_, Res.two (v := U64 (sllW x imm)) (v' := U64 ((pc + 4#64))) rfl rfl rfl, rfl, E7⟩
theorem do_29 (rd rs1 rs2 : BitVec 8) (imm pc x y : BitVec 64) (w : World) : CallsR Tryz.prog 53 #[.agg #[U8 (29#8), U8 (rd), U8 (rs1), U8 (rs2), I64 (imm)], U64 (pc), U64 (x), U64 (y)] w (fun v w' => v = .tuple #[U64 (srlW x imm), U64 (pc + 4#64)] ∧ Ext w w') := by
  refine callsR_of Tryz.func53 rfl rfl rfl ?_
  refine WC.seq (WC.region (WL.box (v := .agg #[U8 (29#8), U8 (rd), U8 (rs1), U8 (rs2), I64 (imm)]) rfl rfl ?_))
  intro b4 w4 n4
  have E1 : Ext w w4 := Mod.trans (Mod.refl _ _) (n4.ext)
  refine WL.assign (v := U64 (0#64)) rfl rfl (WL.assign (v := U64 (0#64)) rfl rfl (WL.nil (WC.seq (WC.region (WL.fieldAddr rfl fo48_4 rfl (WL.load1 rfl ag2 (n4.blk.cell (j := 4) rfl) rfl (WL.conv rfl rfl (ConvR.i64u64 Tryz.underlying2 Tryz.underlying39) (WL.move (v := U64 (pc)) rfl rfl (WL.bin rfl (vy := U64 (4#64)) rfl rfl (BinR.addU64) ?_)))))))))
  refine WL.assign (v := U64 (imm)) rfl rfl (WL.assign (v := U64 ((pc + 4#64))) rfl rfl (WL.nil (WC.seq (WC.seq (WC.region (WL.fieldAddr rfl fo48_0 rfl (WL.load1 rfl ag5 (n4.blk.cell (j := 0) rfl) rfl (WL.move (v := U64 (x)) rfl rfl (WL.move (v := U64 (y)) rfl rfl ?_)))))))))
  refine WL.call ca87 (rfl) rfl (jumps_z 29#8 (by decide) x y _) ?_
  rintro _ wj ⟨rfl, ej⟩
  have E2 : Ext w wj := Mod.trans (E1) (ej)
  refine WL.move (v := .tuple #[.bool (false), .bool false]) rfl rfl (WL.extract rfl rfl rfl (WL.extract rfl rfl rfl (WL.assign (v := .bool (false)) rfl rfl (WL.assign (v := .bool (false)) rfl rfl (WL.nil (WC.seq (WC.region (WL.move (v := .bool (false)) rfl rfl (WL.nil ?_)))))))))
  refine WC.condF rfl (WC.skip (WC.seq (WC.seq (WC.region (WL.fieldAddr rfl fo48_0 rfl ?_)))))
  have B3 := (n4.blk).ext (ej)
  refine WL.load1 rfl ag5 (B3.cell (j := 0) rfl) rfl (WL.nil (WC.block (WC.seq (WC.neU (c := 1#8) rfl rfl rfl rfl rfl rfl (by decide) (WC.seq (WC.neU (c := 2#8) rfl rfl rfl rfl rfl rfl (by decide) (WC.seq (WC.neU (c := 3#8) rfl rfl rfl rfl rfl rfl (by decide) (WC.seq ?_)))))))))
  refine WC.neU (c := 4#8) rfl rfl rfl rfl rfl rfl (by decide) (WC.skip (WC.seq (WC.region (WL.fieldAddr rfl fo48_0 rfl (WL.load1 rfl ag5 (B3.cell (j := 0) rfl) rfl (WL.call ca88 rfl rfl (reckons_29 _) ?_))))))
  rintro _ wr ⟨⟨g, cs, rfl, hcal, hcl⟩, er⟩
  have E4 : Ext w wr := Mod.trans (E2) (er)
  refine WL.assign (v := .func (.func g) #[] cs) rfl rfl (WL.nil (WC.seq (WC.seq (WC.region (WL.move (v := .func (.func g) #[] cs) rfl rfl (WL.bin rfl rfl rfl (BinR.eqlFnil Tryz.underlying178) (WL.nil (WC.condF rfl (WC.skip ?_)))))))))
  refine WC.seq (WC.seq (WC.region (WL.fieldAddr rfl fo48_0 rfl ?_)))
  have B5 := (B3).ext (er)
  refine WL.load1 rfl ag5 (B5.cell (j := 0) rfl) rfl (WL.nil (WC.block (WC.seq (WC.seq (WC.neU (c := 22#8) rfl rfl rfl rfl rfl rfl (by decide) (WC.seq (WC.neU (c := 23#8) rfl rfl rfl rfl rfl rfl (by decide) (WC.seq (WC.neU (c := 24#8) rfl rfl rfl rfl rfl rfl (by decide) ?_)))))))))
  refine WC.seq (WC.neU (c := 25#8) rfl rfl rfl rfl rfl rfl (by decide) (WC.seq (WC.neU (c := 26#8) rfl rfl rfl rfl rfl rfl (by decide) (WC.seq (WC.neU (c := 27#8) rfl rfl rfl rfl rfl rfl (by decide) (WC.seq (WC.neU (c := 28#8) rfl rfl rfl rfl rfl rfl (by decide) (WC.seq (WC.region ?_)))))))))
  refine WL.bin (v := .bool (true)) rfl (vy := U8 (29#8)) rfl rfl (BinR.toB (BinR.eqlU8) (by decide)) (WL.assign (v := .bool (true)) rfl rfl (WL.nil (WC.condT rfl (WC.skip (WC.condT rfl (WC.region (WL.move (v := U64 (imm)) rfl rfl (WL.assign (v := U64 (imm)) rfl rfl (WL.nil ?_)))))))))
  refine WC.seq (WC.region (WL.move (v := .func (.func g) #[] cs) rfl rfl (WL.move (v := U64 (x)) rfl rfl (WL.move (v := U64 (imm)) rfl rfl (WL.callV (fs := #[]) (cs := cs) rfl hcal rfl rfl (hcl _ (Mod.refl _ _) x imm) ?_)))))
  rintro _ wc ⟨rfl, ec⟩
  have E7 : Ext w wc := Mod.trans (E4) (ec)
  refine WL.move (v := U64 ((pc + 4#64))) rfl rfl (WL.assign (v := U64 (srlW x imm)) rfl rfl (WL.assign (v := U64 ((pc + 4#64))) rfl rfl (WL.nil (WC.ret ?_))))
  exact ⟨_, Res.two (v := U64 (srlW x imm)) (v' := U64 ((pc + 4#64))) rfl rfl rfl, rfl, E7⟩
theorem do_30 (rd rs1 rs2 : BitVec 8) (imm pc x y : BitVec 64) (w : World) : CallsR Tryz.prog 53 #[.agg #[U8 (30#8), U8 (rd), U8 (rs1), U8 (rs2), I64 (imm)], U64 (pc), U64 (x), U64 (y)] w (fun v w' => v = .tuple #[U64 (sraW x imm), U64 (pc + 4#64)] ∧ Ext w w') := by
  refine callsR_of Tryz.func53 rfl rfl rfl ?_
  refine WC.seq (WC.region (WL.box (v := .agg #[U8 (30#8), U8 (rd), U8 (rs1), U8 (rs2), I64 (imm)]) rfl rfl ?_))
  intro b4 w4 n4
  have E1 : Ext w w4 := Mod.trans (Mod.refl _ _) (n4.ext)
  refine WL.assign (v := U64 (0#64)) rfl rfl (WL.assign (v := U64 (0#64)) rfl rfl (WL.nil (WC.seq (WC.region (WL.fieldAddr rfl fo48_4 rfl (WL.load1 rfl ag2 (n4.blk.cell (j := 4) rfl) rfl (WL.conv rfl rfl (ConvR.i64u64 Tryz.underlying2 Tryz.underlying39) (WL.move (v := U64 (pc)) rfl rfl (WL.bin rfl (vy := U64 (4#64)) rfl rfl (BinR.addU64) ?_)))))))))
  refine WL.assign (v := U64 (imm)) rfl rfl (WL.assign (v := U64 ((pc + 4#64))) rfl rfl (WL.nil (WC.seq (WC.seq (WC.region (WL.fieldAddr rfl fo48_0 rfl (WL.load1 rfl ag5 (n4.blk.cell (j := 0) rfl) rfl (WL.move (v := U64 (x)) rfl rfl (WL.move (v := U64 (y)) rfl rfl ?_)))))))))
  refine WL.call ca87 (rfl) rfl (jumps_z 30#8 (by decide) x y _) ?_
  rintro _ wj ⟨rfl, ej⟩
  have E2 : Ext w wj := Mod.trans (E1) (ej)
  refine WL.move (v := .tuple #[.bool (false), .bool false]) rfl rfl (WL.extract rfl rfl rfl (WL.extract rfl rfl rfl (WL.assign (v := .bool (false)) rfl rfl (WL.assign (v := .bool (false)) rfl rfl (WL.nil (WC.seq (WC.region (WL.move (v := .bool (false)) rfl rfl (WL.nil ?_)))))))))
  refine WC.condF rfl (WC.skip (WC.seq (WC.seq (WC.region (WL.fieldAddr rfl fo48_0 rfl ?_)))))
  have B3 := (n4.blk).ext (ej)
  refine WL.load1 rfl ag5 (B3.cell (j := 0) rfl) rfl (WL.nil (WC.block (WC.seq (WC.neU (c := 1#8) rfl rfl rfl rfl rfl rfl (by decide) (WC.seq (WC.neU (c := 2#8) rfl rfl rfl rfl rfl rfl (by decide) (WC.seq (WC.neU (c := 3#8) rfl rfl rfl rfl rfl rfl (by decide) (WC.seq ?_)))))))))
  refine WC.neU (c := 4#8) rfl rfl rfl rfl rfl rfl (by decide) (WC.skip (WC.seq (WC.region (WL.fieldAddr rfl fo48_0 rfl (WL.load1 rfl ag5 (B3.cell (j := 0) rfl) rfl (WL.call ca88 rfl rfl (reckons_30 _) ?_))))))
  rintro _ wr ⟨⟨g, cs, rfl, hcal, hcl⟩, er⟩
  have E4 : Ext w wr := Mod.trans (E2) (er)
  refine WL.assign (v := .func (.func g) #[] cs) rfl rfl (WL.nil (WC.seq (WC.seq (WC.region (WL.move (v := .func (.func g) #[] cs) rfl rfl (WL.bin rfl rfl rfl (BinR.eqlFnil Tryz.underlying178) (WL.nil (WC.condF rfl (WC.skip ?_)))))))))
  refine WC.seq (WC.seq (WC.region (WL.fieldAddr rfl fo48_0 rfl ?_)))
  have B5 := (B3).ext (er)
  refine WL.load1 rfl ag5 (B5.cell (j := 0) rfl) rfl (WL.nil (WC.block (WC.seq (WC.seq (WC.neU (c := 22#8) rfl rfl rfl rfl rfl rfl (by decide) (WC.seq (WC.neU (c := 23#8) rfl rfl rfl rfl rfl rfl (by decide) (WC.seq (WC.neU (c := 24#8) rfl rfl rfl rfl rfl rfl (by decide) ?_)))))))))
  refine WC.seq (WC.neU (c := 25#8) rfl rfl rfl rfl rfl rfl (by decide) (WC.seq (WC.neU (c := 26#8) rfl rfl rfl rfl rfl rfl (by decide) (WC.seq (WC.neU (c := 27#8) rfl rfl rfl rfl rfl rfl (by decide) (WC.seq (WC.neU (c := 28#8) rfl rfl rfl rfl rfl rfl (by decide) (WC.seq (WC.neU (c := 29#8) rfl rfl rfl rfl rfl rfl (by decide) ?_)))))))))
  refine WC.seq (WC.region (WL.bin (v := .bool (true)) rfl (vy := U8 (30#8)) rfl rfl (BinR.toB (BinR.eqlU8) (by decide)) (WL.assign (v := .bool (true)) rfl rfl (WL.nil (WC.condT rfl (WC.skip (WC.condT rfl (WC.region (WL.move (v := U64 (imm)) rfl rfl ?_)))))))))
  refine WL.assign (v := U64 (imm)) rfl rfl (WL.nil (WC.seq (WC.region (WL.move (v := .func (.func g) #[] cs) rfl rfl (WL.move (v := U64 (x)) rfl rfl (WL.move (v := U64 (imm)) rfl rfl (WL.callV (fs := #[]) (cs := cs) rfl hcal rfl rfl (hcl _ (Mod.refl _ _) x imm) ?_)))))))
  rintro _ wc ⟨rfl, ec⟩
  have E7 : Ext w wc := Mod.trans (E4) (ec)
  refine WL.move (v := U64 ((pc + 4#64))) rfl rfl (WL.assign (v := U64 (sraW x imm)) rfl rfl (WL.assign (v := U64 ((pc + 4#64))) rfl rfl (WL.nil (WC.ret ?_))))
  exact ⟨_, Res.two (v := U64 (sraW x imm)) (v' := U64 ((pc + 4#64))) rfl rfl rfl, rfl, E7⟩
theorem do_41 (rd rs1 rs2 : BitVec 8) (imm pc x y : BitVec 64) (w : World) : CallsR Tryz.prog 53 #[.agg #[U8 (41#8), U8 (rd), U8 (rs1), U8 (rs2), I64 (imm)], U64 (pc), U64 (x), U64 (y)] w (fun v w' => v = .tuple #[U64 ((signedF (fun x y => x + y)) x imm), U64 (pc + 4#64)] ∧ Ext w w') := by
  refine callsR_of Tryz.func53 rfl rfl rfl ?_
  refine WC.seq (WC.region (WL.box (v := .agg #[U8 (41#8), U8 (rd), U8 (rs1), U8 (rs2), I64 (imm)]) rfl rfl ?_))
  intro b4 w4 n4
  have E1 : Ext w w4 := Mod.trans (Mod.refl _ _) (n4.ext)
  refine WL.assign (v := U64 (0#64)) rfl rfl (WL.assign (v := U64 (0#64)) rfl rfl (WL.nil (WC.seq (WC.region (WL.fieldAddr rfl fo48_4 rfl (WL.load1 rfl ag2 (n4.blk.cell (j := 4) rfl) rfl (WL.conv rfl rfl (ConvR.i64u64 Tryz.underlying2 Tryz.underlying39) (WL.move (v := U64 (pc)) rfl rfl (WL.bin rfl (vy := U64 (4#64)) rfl rfl (BinR.addU64) ?_)))))))))
  refine WL.assign (v := U64 (imm)) rfl rfl (WL.assign (v := U64 ((pc + 4#64))) rfl rfl (WL.nil (WC.seq (WC.seq (WC.region (WL.fieldAddr rfl fo48_0 rfl (WL.load1 rfl ag5 (n4.blk.cell (j := 0) rfl) rfl (WL.move (v := U64 (x)) rfl rfl (WL.move (v := U64 (y)) rfl rfl ?_)))))))))
  refine WL.call ca87 (rfl) rfl (jumps_z 41#8 (by decide) x y _) ?_
  rintro _ wj ⟨rfl, ej⟩
  have E2 : Ext w wj := Mod.trans (E1) (ej)
  refine WL.move (v := .tuple #[.bool (false), .bool false]) rfl rfl (WL.extract rfl rfl rfl (WL.extract rfl rfl rfl (WL.assign (v := .bool (false)) rfl rfl (WL.assign (v := .bool (false)) rfl rfl (WL.nil (WC.seq (WC.region (WL.move (v := .bool (false)) rfl rfl (WL.nil ?_)))))))))
  refine WC.condF rfl (WC.skip (WC.seq (WC.seq (WC.region (WL.fieldAddr rfl fo48_0 rfl ?_)))))
  have B3 := (n4.blk).ext (ej)
  refine WL.load1 rfl ag5 (B3.cell (j := 0) rfl) rfl (WL.nil (WC.block (WC.seq (WC.neU (c := 1#8) rfl rfl rfl rfl rfl rfl (by decide) (WC.seq (WC.neU (c := 2#8) rfl rfl rfl rfl rfl rfl (by decide) (WC.seq (WC.neU (c := 3#8) rfl rfl rfl rfl rfl rfl (by decide) (WC.seq ?_)))))))))
  refine WC.neU (c := 4#8) rfl rfl rfl rfl rfl rfl (by decide) (WC.skip (WC.seq (WC.region (WL.fieldAddr rfl fo48_0 rfl (WL.load1 rfl ag5 (B3.cell (j := 0) rfl) rfl (WL.call ca88 rfl rfl (reckons_41 _) ?_))))))
  rintro _ wr ⟨⟨g, cs, rfl, hcal, hcl⟩, er⟩
  have E4 : Ext w wr := Mod.trans (E2) (er)
  refine WL.assign (v := .func (.func g) #[] cs) rfl rfl (WL.nil (WC.seq (WC.seq (WC.region (WL.move (v := .func (.func g) #[] cs) rfl rfl (WL.bin rfl rfl rfl (BinR.eqlFnil Tryz.underlying178) (WL.nil (WC.condF rfl (WC.skip ?_)))))))))
  refine WC.seq (WC.seq (WC.region (WL.fieldAddr rfl fo48_0 rfl ?_)))
  have B5 := (B3).ext (er)
  refine WL.load1 rfl ag5 (B5.cell (j := 0) rfl) rfl (WL.nil (WC.block (WC.seq (WC.seq (WC.neU (c := 22#8) rfl rfl rfl rfl rfl rfl (by decide) (WC.seq (WC.neU (c := 23#8) rfl rfl rfl rfl rfl rfl (by decide) (WC.seq (WC.neU (c := 24#8) rfl rfl rfl rfl rfl rfl (by decide) ?_)))))))))
  refine WC.seq (WC.neU (c := 25#8) rfl rfl rfl rfl rfl rfl (by decide) (WC.seq (WC.neU (c := 26#8) rfl rfl rfl rfl rfl rfl (by decide) (WC.seq (WC.neU (c := 27#8) rfl rfl rfl rfl rfl rfl (by decide) (WC.seq (WC.neU (c := 28#8) rfl rfl rfl rfl rfl rfl (by decide) (WC.seq (WC.neU (c := 29#8) rfl rfl rfl rfl rfl rfl (by decide) ?_)))))))))
  refine WC.seq (WC.neU (c := 30#8) rfl rfl rfl rfl rfl rfl (by decide) (WC.seq (WC.region (WL.bin (v := .bool (true)) rfl (vy := U8 (41#8)) rfl rfl (BinR.toB (BinR.eqlU8) (by decide)) (WL.assign (v := .bool (true)) rfl rfl (WL.nil (WC.condT rfl (WC.skip (WC.condT rfl ?_)))))))))
  refine WC.region (WL.move (v := U64 (imm)) rfl rfl (WL.assign (v := U64 (imm)) rfl rfl (WL.nil (WC.seq (WC.region (WL.move (v := .func (.func g) #[] cs) rfl rfl (WL.move (v := U64 (x)) rfl rfl (WL.move (v := U64 (imm)) rfl rfl (WL.callV (fs := #[]) (cs := cs) rfl hcal rfl rfl (hcl _ (Mod.refl _ _) x imm) ?_)))))))))
  rintro _ wc ⟨rfl, ec⟩
  have E7 : Ext w wc := Mod.trans (E4) (ec)
  refine WL.move (v := U64 ((pc + 4#64))) rfl rfl (WL.assign (v := U64 ((signedF (fun x y => x + y)) x imm)) rfl rfl (WL.assign (v := U64 ((pc + 4#64))) rfl rfl (WL.nil (WC.ret ?_))))
  exact ⟨_, Res.two (v := U64 ((signedF (fun x y => x + y)) x imm)) (v' := U64 ((pc + 4#64))) rfl rfl rfl, rfl, E7⟩
theorem do_42 (rd rs1 rs2 : BitVec 8) (imm pc x y : BitVec 64) (w : World) : CallsR Tryz.prog 53 #[.agg #[U8 (42#8), U8 (rd), U8 (rs1), U8 (rs2), I64 (imm)], U64 (pc), U64 (x), U64 (y)] w (fun v w' => v = .tuple #[U64 ((movedF (signedF sllW)) x imm), U64 (pc + 4#64)] ∧ Ext w w') := by
  refine callsR_of Tryz.func53 rfl rfl rfl ?_
  refine WC.seq (WC.region (WL.box (v := .agg #[U8 (42#8), U8 (rd), U8 (rs1), U8 (rs2), I64 (imm)]) rfl rfl ?_))
  intro b4 w4 n4
  have E1 : Ext w w4 := Mod.trans (Mod.refl _ _) (n4.ext)
  refine WL.assign (v := U64 (0#64)) rfl rfl (WL.assign (v := U64 (0#64)) rfl rfl (WL.nil (WC.seq (WC.region (WL.fieldAddr rfl fo48_4 rfl (WL.load1 rfl ag2 (n4.blk.cell (j := 4) rfl) rfl (WL.conv rfl rfl (ConvR.i64u64 Tryz.underlying2 Tryz.underlying39) (WL.move (v := U64 (pc)) rfl rfl (WL.bin rfl (vy := U64 (4#64)) rfl rfl (BinR.addU64) ?_)))))))))
  refine WL.assign (v := U64 (imm)) rfl rfl (WL.assign (v := U64 ((pc + 4#64))) rfl rfl (WL.nil (WC.seq (WC.seq (WC.region (WL.fieldAddr rfl fo48_0 rfl (WL.load1 rfl ag5 (n4.blk.cell (j := 0) rfl) rfl (WL.move (v := U64 (x)) rfl rfl (WL.move (v := U64 (y)) rfl rfl ?_)))))))))
  refine WL.call ca87 (rfl) rfl (jumps_z 42#8 (by decide) x y _) ?_
  rintro _ wj ⟨rfl, ej⟩
  have E2 : Ext w wj := Mod.trans (E1) (ej)
  refine WL.move (v := .tuple #[.bool (false), .bool false]) rfl rfl (WL.extract rfl rfl rfl (WL.extract rfl rfl rfl (WL.assign (v := .bool (false)) rfl rfl (WL.assign (v := .bool (false)) rfl rfl (WL.nil (WC.seq (WC.region (WL.move (v := .bool (false)) rfl rfl (WL.nil ?_)))))))))
  refine WC.condF rfl (WC.skip (WC.seq (WC.seq (WC.region (WL.fieldAddr rfl fo48_0 rfl ?_)))))
  have B3 := (n4.blk).ext (ej)
  refine WL.load1 rfl ag5 (B3.cell (j := 0) rfl) rfl (WL.nil (WC.block (WC.seq (WC.neU (c := 1#8) rfl rfl rfl rfl rfl rfl (by decide) (WC.seq (WC.neU (c := 2#8) rfl rfl rfl rfl rfl rfl (by decide) (WC.seq (WC.neU (c := 3#8) rfl rfl rfl rfl rfl rfl (by decide) (WC.seq ?_)))))))))
  refine WC.neU (c := 4#8) rfl rfl rfl rfl rfl rfl (by decide) (WC.skip (WC.seq (WC.region (WL.fieldAddr rfl fo48_0 rfl (WL.load1 rfl ag5 (B3.cell (j := 0) rfl) rfl (WL.call ca88 rfl rfl (reckons_42 _) ?_))))))
  rintro _ wr ⟨⟨g, cs, rfl, hcal, hcl⟩, er⟩
  have E4 : Ext w wr := Mod.trans (E2) (er)
  refine WL.assign (v := .func (.func g) #[] cs) rfl rfl (WL.nil (WC.seq (WC.seq (WC.region (WL.move (v := .func (.func g) #[] cs) rfl rfl (WL.bin rfl rfl rfl (BinR.eqlFnil Tryz.underlying178) (WL.nil (WC.condF rfl (WC.skip ?_)))))))))
  refine WC.seq (WC.seq (WC.region (WL.fieldAddr rfl fo48_0 rfl ?_)))
  have B5 := (B3).ext (er)
  refine WL.load1 rfl ag5 (B5.cell (j := 0) rfl) rfl (WL.nil (WC.block (WC.seq (WC.seq (WC.neU (c := 22#8) rfl rfl rfl rfl rfl rfl (by decide) (WC.seq (WC.neU (c := 23#8) rfl rfl rfl rfl rfl rfl (by decide) (WC.seq (WC.neU (c := 24#8) rfl rfl rfl rfl rfl rfl (by decide) ?_)))))))))
  refine WC.seq (WC.neU (c := 25#8) rfl rfl rfl rfl rfl rfl (by decide) (WC.seq (WC.neU (c := 26#8) rfl rfl rfl rfl rfl rfl (by decide) (WC.seq (WC.neU (c := 27#8) rfl rfl rfl rfl rfl rfl (by decide) (WC.seq (WC.neU (c := 28#8) rfl rfl rfl rfl rfl rfl (by decide) (WC.seq (WC.neU (c := 29#8) rfl rfl rfl rfl rfl rfl (by decide) ?_)))))))))
  refine WC.seq (WC.neU (c := 30#8) rfl rfl rfl rfl rfl rfl (by decide) (WC.seq (WC.neU (c := 41#8) rfl rfl rfl rfl rfl rfl (by decide) (WC.seq (WC.region (WL.bin (v := .bool (true)) rfl (vy := U8 (42#8)) rfl rfl (BinR.toB (BinR.eqlU8) (by decide)) (WL.assign (v := .bool (true)) rfl rfl (WL.nil (WC.condT rfl ?_)))))))))
  refine WC.skip (WC.condT rfl (WC.region (WL.move (v := U64 (imm)) rfl rfl (WL.assign (v := U64 (imm)) rfl rfl (WL.nil (WC.seq (WC.region (WL.move (v := .func (.func g) #[] cs) rfl rfl (WL.move (v := U64 (x)) rfl rfl ?_)))))))))
  refine WL.move (v := U64 (imm)) rfl rfl (WL.callV (fs := #[]) (cs := cs) rfl hcal rfl rfl (hcl _ (Mod.refl _ _) x imm) ?_)
  rintro _ wc ⟨rfl, ec⟩
  have E7 : Ext w wc := Mod.trans (E4) (ec)
  refine WL.move (v := U64 ((pc + 4#64))) rfl rfl (WL.assign (v := U64 ((movedF (signedF sllW)) x imm)) rfl rfl (WL.assign (v := U64 ((pc + 4#64))) rfl rfl (WL.nil (WC.ret ?_))))
  exact ⟨_, Res.two (v := U64 ((movedF (signedF sllW)) x imm)) (v' := U64 ((pc + 4#64))) rfl rfl rfl, rfl, E7⟩
theorem do_43 (rd rs1 rs2 : BitVec 8) (imm pc x y : BitVec 64) (w : World) : CallsR Tryz.prog 53 #[.agg #[U8 (43#8), U8 (rd), U8 (rs1), U8 (rs2), I64 (imm)], U64 (pc), U64 (x), U64 (y)] w (fun v w' => v = .tuple #[U64 ((movedF (unsignedF srlW)) x imm), U64 (pc + 4#64)] ∧ Ext w w') := by
  refine callsR_of Tryz.func53 rfl rfl rfl ?_
  refine WC.seq (WC.region (WL.box (v := .agg #[U8 (43#8), U8 (rd), U8 (rs1), U8 (rs2), I64 (imm)]) rfl rfl ?_))
  intro b4 w4 n4
  have E1 : Ext w w4 := Mod.trans (Mod.refl _ _) (n4.ext)
  refine WL.assign (v := U64 (0#64)) rfl rfl (WL.assign (v := U64 (0#64)) rfl rfl (WL.nil (WC.seq (WC.region (WL.fieldAddr rfl fo48_4 rfl (WL.load1 rfl ag2 (n4.blk.cell (j := 4) rfl) rfl (WL.conv rfl rfl (ConvR.i64u64 Tryz.underlying2 Tryz.underlying39) (WL.move (v := U64 (pc)) rfl rfl (WL.bin rfl (vy := U64 (4#64)) rfl rfl (BinR.addU64) ?_)))))))))
  refine WL.assign (v := U64 (imm)) rfl rfl (WL.assign (v := U64 ((pc + 4#64))) rfl rfl (WL.nil (WC.seq (WC.seq (WC.region (WL.fieldAddr rfl fo48_0 rfl (WL.load1 rfl ag5 (n4.blk.cell (j := 0) rfl) rfl (WL.move (v := U64 (x)) rfl rfl (WL.move (v := U64 (y)) rfl rfl ?_)))))))))
  refine WL.call ca87 (rfl) rfl (jumps_z 43#8 (by decide) x y _) ?_
  rintro _ wj ⟨rfl, ej⟩
  have E2 : Ext w wj := Mod.trans (E1) (ej)
  refine WL.move (v := .tuple #[.bool (false), .bool false]) rfl rfl (WL.extract rfl rfl rfl (WL.extract rfl rfl rfl (WL.assign (v := .bool (false)) rfl rfl (WL.assign (v := .bool (false)) rfl rfl (WL.nil (WC.seq (WC.region (WL.move (v := .bool (false)) rfl rfl (WL.nil ?_)))))))))
  refine WC.condF rfl (WC.skip (WC.seq (WC.seq (WC.region (WL.fieldAddr rfl fo48_0 rfl ?_)))))
  have B3 := (n4.blk).ext (ej)
  refine WL.load1 rfl ag5 (B3.cell (j := 0) rfl) rfl (WL.nil (WC.block (WC.seq (WC.neU (c := 1#8) rfl rfl rfl rfl rfl rfl (by decide) (WC.seq (WC.neU (c := 2#8) rfl rfl rfl rfl rfl rfl (by decide) (WC.seq (WC.neU (c := 3#8) rfl rfl rfl rfl rfl rfl (by decide) (WC.seq ?_)))))))))
  refine WC.neU (c := 4#8) rfl rfl rfl rfl rfl rfl (by decide) (WC.skip (WC.seq (WC.region (WL.fieldAddr rfl fo48_0 rfl (WL.load1 rfl ag5 (B3.cell (j := 0) rfl) rfl (WL.call ca88 rfl rfl (reckons_43 _) ?_))))))
  rintro _ wr ⟨⟨g, cs, rfl, hcal, hcl⟩, er⟩
  have E4 : Ext w wr := Mod.trans (E2) (er)
  refine WL.assign (v := .func (.func g) #[] cs) rfl rfl (WL.nil (WC.seq (WC.seq (WC.region (WL.move (v := .func (.func g) #[] cs) rfl rfl (WL.bin rfl rfl rfl (BinR.eqlFnil Tryz.underlying178) (WL.nil (WC.condF rfl (WC.skip ?_)))))))))
  refine WC.seq (WC.seq (WC.region (WL.fieldAddr rfl fo48_0 rfl ?_)))
  have B5 := (B3).ext (er)
  refine WL.load1 rfl ag5 (B5.cell (j := 0) rfl) rfl (WL.nil (WC.block (WC.seq (WC.seq (WC.neU (c := 22#8) rfl rfl rfl rfl rfl rfl (by decide) (WC.seq (WC.neU (c := 23#8) rfl rfl rfl rfl rfl rfl (by decide) (WC.seq (WC.neU (c := 24#8) rfl rfl rfl rfl rfl rfl (by decide) ?_)))))))))
  refine WC.seq (WC.neU (c := 25#8) rfl rfl rfl rfl rfl rfl (by decide) (WC.seq (WC.neU (c := 26#8) rfl rfl rfl rfl rfl rfl (by decide) (WC.seq (WC.neU (c := 27#8) rfl rfl rfl rfl rfl rfl (by decide) (WC.seq (WC.neU (c := 28#8) rfl rfl rfl rfl rfl rfl (by decide) (WC.seq (WC.neU (c := 29#8) rfl rfl rfl rfl rfl rfl (by decide) ?_)))))))))
  refine WC.seq (WC.neU (c := 30#8) rfl rfl rfl rfl rfl rfl (by decide) (WC.seq (WC.neU (c := 41#8) rfl rfl rfl rfl rfl rfl (by decide) (WC.seq (WC.neU (c := 42#8) rfl rfl rfl rfl rfl rfl (by decide) (WC.seq (WC.region (WL.bin (v := .bool (true)) rfl (vy := U8 (43#8)) rfl rfl (BinR.toB (BinR.eqlU8) (by decide)) (WL.assign (v := .bool (true)) rfl rfl ?_)))))))))
  refine WL.nil (WC.condT rfl (WC.skip (WC.condT rfl (WC.region (WL.move (v := U64 (imm)) rfl rfl (WL.assign (v := U64 (imm)) rfl rfl (WL.nil (WC.seq (WC.region ?_)))))))))
  refine WL.move (v := .func (.func g) #[] cs) rfl rfl (WL.move (v := U64 (x)) rfl rfl (WL.move (v := U64 (imm)) rfl rfl (WL.callV (fs := #[]) (cs := cs) rfl hcal rfl rfl (hcl _ (Mod.refl _ _) x imm) ?_)))
  rintro _ wc ⟨rfl, ec⟩
  have E7 : Ext w wc := Mod.trans (E4) (ec)
  refine WL.move (v := U64 ((pc + 4#64))) rfl rfl (WL.assign (v := U64 ((movedF (unsignedF srlW)) x imm)) rfl rfl (WL.assign (v := U64 ((pc + 4#64))) rfl rfl (WL.nil (WC.ret ?_))))
  exact ⟨_, Res.two (v := U64 ((movedF (unsignedF srlW)) x imm)) (v' := U64 ((pc + 4#64))) rfl rfl rfl, rfl, E7⟩
theorem do_44 (rd rs1 rs2 : BitVec 8) (imm pc x y : BitVec 64) (w : World) : CallsR Tryz.prog 53 #[.agg #[U8 (44#8), U8 (rd), U8 (rs1), U8 (rs2), I64 (imm)], U64 (pc), U64 (x), U64 (y)] w (fun v w' => v = .tuple #[U64 ((movedF (signedF sraW)) x imm), U64 (pc + 4#64)] ∧ Ext w w') := by
  refine callsR_of Tryz.func53 rfl rfl rfl ?_
  refine WC.seq (WC.region (WL.box (v := .agg #[U8 (44#8), U8 (rd), U8 (rs1), U8 (rs2), I64 (imm)]) rfl rfl ?_))
  intro b4 w4 n4
  have E1 : Ext w w4 := Mod.trans (Mod.refl _ _) (n4.ext)
  refine WL.assign (v := U64 (0#64)) rfl rfl (WL.assign (v := U64 (0#64)) rfl rfl (WL.nil (WC.seq (WC.region (WL.fieldAddr rfl fo48_4 rfl (WL.load1 rfl ag2 (n4.blk.cell (j := 4) rfl) rfl (WL.conv rfl rfl (ConvR.i64u64 Tryz.underlying2 Tryz.underlying39) (WL.move (v := U64 (pc)) rfl rfl (WL.bin rfl (vy := U64 (4#64)) rfl rfl (BinR.addU64) ?_)))))))))
  refine WL.assign (v := U64 (imm)) rfl rfl (WL.assign (v := U64 ((pc + 4#64))) rfl rfl (WL.nil (WC.seq (WC.seq (WC.region (WL.fieldAddr rfl fo48_0 rfl (WL.load1 rfl ag5 (n4.blk.cell (j := 0) rfl) rfl (WL.move (v := U64 (x)) rfl rfl (WL.move (v := U64 (y)) rfl rfl ?_)))))))))
  refine WL.call ca87 (rfl) rfl (jumps_z 44#8 (by decide) x y _) ?_
  rintro _ wj ⟨rfl, ej⟩
  have E2 : Ext w wj := Mod.trans (E1) (ej)
  refine WL.move (v := .tuple #[.bool (false), .bool false]) rfl rfl (WL.extract rfl rfl rfl (WL.extract rfl rfl rfl (WL.assign (v := .bool (false)) rfl rfl (WL.assign (v := .bool (false)) rfl rfl (WL.nil (WC.seq (WC.region (WL.move (v := .bool (false)) rfl rfl (WL.nil ?_)))))))))
  refine WC.condF rfl (WC.skip (WC.seq (WC.seq (WC.region (WL.fieldAddr rfl fo48_0 rfl ?_)))))
  have B3 := (n4.blk).ext (ej)
  refine WL.load1 rfl ag5 (B3.cell (j := 0) rfl) rfl (WL.nil (WC.block (WC.seq (WC.neU (c := 1#8) rfl rfl rfl rfl rfl rfl (by decide) (WC.seq (WC.neU (c := 2#8) rfl rfl rfl rfl rfl rfl (by decide) (WC.seq (WC.neU (c := 3#8) rfl rfl rfl rfl rfl rfl (by decide) (WC.seq ?_)))))))))
  refine WC.neU (c := 4#8) rfl rfl rfl rfl rfl rfl (by decide) (WC.skip (WC.seq (WC.region (WL.fieldAddr rfl fo48_0 rfl (WL.load1 rfl ag5 (B3.cell (j := 0) rfl) rfl (WL.call ca88 rfl rfl (reckons_44 _) ?_))))))
  rintro _ wr ⟨⟨g, cs, rfl, hcal, hcl⟩, er⟩
  have E4 : Ext w wr := Mod.trans (E2) (er)
  refine WL.assign (v := .func (.func g) #[] cs) rfl rfl (WL.nil (WC.seq (WC.seq (WC.region (WL.move (v := .func (.func g) #[] cs) rfl rfl (WL.bin rfl rfl rfl (BinR.eqlFnil Tryz.underlying178) (WL.nil (WC.condF rfl (WC.skip ?_)))))))))
  refine WC.seq (WC.seq (WC.region (WL.fieldAddr rfl fo48_0 rfl ?_)))
  have B5 := (B3).ext (er)
  refine WL.load1 rfl ag5 (B5.cell (j := 0) rfl) rfl (WL.nil (WC.block (WC.seq (WC.seq (WC.neU (c := 22#8) rfl rfl rfl rfl rfl rfl (by decide) (WC.seq (WC.neU (c := 23#8) rfl rfl rfl rfl rfl rfl (by decide) (WC.seq (WC.neU (c := 24#8) rfl rfl rfl rfl rfl rfl (by decide) ?_)))))))))
  refine WC.seq (WC.neU (c := 25#8) rfl rfl rfl rfl rfl rfl (by decide) (WC.seq (WC.neU (c := 26#8) rfl rfl rfl rfl rfl rfl (by decide) (WC.seq (WC.neU (c := 27#8) rfl rfl rfl rfl rfl rfl (by decide) (WC.seq (WC.neU (c := 28#8) rfl rfl rfl rfl rfl rfl (by decide) (WC.seq (WC.neU (c := 29#8) rfl rfl rfl rfl rfl rfl (by decide) ?_)))))))))
  refine WC.seq (WC.neU (c := 30#8) rfl rfl rfl rfl rfl rfl (by decide) (WC.seq (WC.neU (c := 41#8) rfl rfl rfl rfl rfl rfl (by decide) (WC.seq (WC.neU (c := 42#8) rfl rfl rfl rfl rfl rfl (by decide) (WC.seq (WC.neU (c := 43#8) rfl rfl rfl rfl rfl rfl (by decide) (WC.region (WL.bin (v := .bool (true)) rfl (vy := U8 (44#8)) rfl rfl (BinR.toB (BinR.eqlU8) (by decide)) ?_)))))))))
  refine WL.assign (v := .bool (true)) rfl rfl (WL.nil (WC.condT rfl (WC.region (WL.move (v := U64 (imm)) rfl rfl (WL.assign (v := U64 (imm)) rfl rfl (WL.nil (WC.seq (WC.region (WL.move (v := .func (.func g) #[] cs) rfl rfl ?_)))))))))
  refine WL.move (v := U64 (x)) rfl rfl (WL.move (v := U64 (imm)) rfl rfl (WL.callV (fs := #[]) (cs := cs) rfl hcal rfl rfl (hcl _ (Mod.refl _ _) x imm) ?_))
  rintro _ wc ⟨rfl, ec⟩
  have E7 : Ext w wc := Mod.trans (E4) (ec)
  refine WL.move (v := U64 ((pc + 4#64))) rfl rfl (WL.assign (v := U64 ((movedF (signedF sraW)) x imm)) rfl rfl (WL.assign (v := U64 ((pc + 4#64))) rfl rfl (WL.nil (WC.ret ?_))))
  exact ⟨_, Res.two (v := U64 ((movedF (signedF sraW)) x imm)) (v' := U64 ((pc + 4#64))) rfl rfl rfl, rfl, E7⟩
end Go.Proofs.N
end
section
set_option linter.unusedSimpArgs false
set_option linter.unusedVariables false
namespace Go.Proofs.N
open Go Go.Ux Go.Ux.Mach Go.Proofs
theorem loads_z (z : BitVec 8) (hz : ∀ c ∈ [11#8, 12#8, 13#8, 14#8, 15#8, 16#8, 17#8], (z == c) = false) (w : World) : CallsR Tryz.prog 68 #[U8 (z)] w (fun v w' => v = .tuple #[IN 0, .bool false] ∧ Ext w w') := by
  refine callsR_of Tryz.func68 rfl rfl rfl ?_
  refine WC.seq (WC.region (WL.assign (v := IN (0)) rfl rfl (WL.assign (v := .bool (false)) rfl rfl (WL.nil (WC.seq (WC.seq (WC.region (WL.move (v := U8 (z)) rfl rfl (WL.nil ?_)))))))))
  refine WC.block (WC.seq (WC.seq (WC.neU (c := 11#8) rfl rfl rfl rfl rfl rfl (hz _ (by decide)) (WC.seq (WC.neU (c := 12#8) rfl rfl rfl rfl rfl rfl (hz _ (by decide)) (WC.seq (WC.neU (c := 13#8) rfl rfl rfl rfl rfl rfl (hz _ (by decide)) (WC.neU (c := 14#8) rfl rfl rfl rfl rfl rfl (hz _ (by decide)) (WC.seq ?_)))))))))
  refine WC.seq (WC.neU (c := 15#8) rfl rfl rfl rfl rfl rfl (hz _ (by decide)) (WC.seq (WC.neU (c := 16#8) rfl rfl rfl rfl rfl rfl (hz _ (by decide)) (WC.neU (c := 17#8) rfl rfl rfl rfl rfl rfl (hz _ (by decide)) (WC.skip (WC.seq (WC.region (WL.assign (v := IN (0)) rfl rfl (WL.assign (v := .bool (false)) rfl rfl ?_)))))))))
  refine WL.nil (WC.ret ?_)
  exact ⟨_, Res.two (v := IN (0)) (v' := .bool (false)) rfl rfl rfl, rfl, Mod.refl _ _⟩
theorem loads_11 (w : World) : CallsR Tryz.prog 68 #[U8 (11#8)] w (fun v w' => v = .tuple #[IN 1, .bool true] ∧ Ext w w') := by
  refine callsR_of Tryz.func68 rfl rfl rfl ?_
  refine WC.seq (WC.region (WL.assign (v := IN (0)) rfl rfl (WL.assign (v := .bool (false)) rfl rfl (WL.nil (WC.seq (WC.seq (WC.region (WL.move (v := U8 (11#8)) rfl rfl (WL.nil ?_)))))))))
  refine WC.block (WC.seq (WC.seq (WC.region (WL.bin (v := .bool (true)) rfl (vy := U8 (11#8)) rfl rfl (BinR.toB (BinR.eqlU8) (by decide)) (WL.assign (v := .bool (true)) rfl rfl (WL.nil (WC.condT rfl (WC.skip (WC.condT rfl ?_)))))))))
  refine WC.seq (WC.region (WL.move (v := U8 (11#8)) rfl rfl (WL.bin rfl (vy := U8 (11#8)) rfl rfl (BinR.subU8) (WL.bin (vx := I64 1#64) (vy := .int .u8 ((0 : Nat) : Int)) (v := I64 (1#64 <<< 0)) rfl rfl rfl BinR.shl64 (WL.assign (v := IN (1)) rfl rfl (WL.assign (v := .bool (true)) rfl rfl (WL.nil (WC.ret ?_))))))))
  exact ⟨_, Res.two (v := IN (1)) (v' := .bool (true)) rfl rfl rfl, rfl, Mod.refl _ _⟩
theorem loads_12 (w : World) : CallsR Tryz.prog 68 #[U8 (12#8)] w (fun v w' => v = .tuple #[IN 2, .bool true] ∧ Ext w w') := by
  refine callsR_of Tryz.func68 rfl rfl rfl ?_
  refine WC.seq (WC.region (WL.assign (v := IN (0)) rfl rfl (WL.assign (v := .bool (false)) rfl rfl (WL.nil (WC.seq (WC.seq (WC.region (WL.move (v := U8 (12#8)) rfl rfl (WL.nil ?_)))))))))
  refine WC.block (WC.seq (WC.seq (WC.neU (c := 11#8) rfl rfl rfl rfl rfl rfl (by decide) (WC.seq (WC.region (WL.bin (v := .bool (true)) rfl (vy := U8 (12#8)) rfl rfl (BinR.toB (BinR.eqlU8) (by decide)) (WL.assign (v := .bool (true)) rfl rfl (WL.nil (WC.condT rfl ?_)))))))))
  refine WC.skip (WC.condT rfl (WC.seq (WC.region (WL.move (v := U8 (12#8)) rfl rfl (WL.bin rfl (vy := U8 (11#8)) rfl rfl (BinR.subU8) (WL.bin (vx := I64 1#64) (vy := .int .u8 ((1 : Nat) : Int)) (v := I64 (1#64 <<< 1)) rfl rfl rfl BinR.shl64 (WL.assign (v := IN (2)) rfl rfl (WL.assign (v := .bool (true)) rfl rfl (WL.nil ?_)))))))))
  refine WC.ret ?_
  exact ⟨_, Res.two (v := IN (2)) (v' := .bool (true)) rfl rfl rfl, rfl, Mod.refl _ _⟩
theorem loads_13 (w : World) : CallsR Tryz.prog 68 #[U8 (13#8)] w (fun v w' => v = .tuple #[IN 4, .bool true] ∧ Ext w w') := by
  refine callsR_of Tryz.func68 rfl rfl rfl ?_
  refine WC.seq (WC.region (WL.assign (v := IN (0)) rfl rfl (WL.assign (v := .bool (false)) rfl rfl (WL.nil (WC.seq (WC.seq (WC.region (WL.move (v := U8 (13#8)) rfl rfl (WL.nil ?_)))))))))
  refine WC.block (WC.seq (WC.seq (WC.neU (c := 11#8) rfl rfl rfl rfl rfl rfl (by decide) (WC.seq (WC.neU (c := 12#8) rfl rfl rfl rfl rfl rfl (by decide) (WC.seq (WC.region (WL.bin (v := .bool (true)) rfl (vy := U8 (13#8)) rfl rfl (BinR.toB (BinR.eqlU8) (by decide)) (WL.assign (v := .bool (true)) rfl rfl ?_)))))))))
  refine WL.nil (WC.condT rfl (WC.skip (WC.condT rfl (WC.seq (WC.region (WL.move (v := U8 (13#8)) rfl rfl (WL.bin rfl (vy := U8 (11#8)) rfl rfl (BinR.subU8) (WL.bin (vx := I64 1#64) (vy := .int .u8 ((2 : Nat) : Int)) (v := I64 (1#64 <<< 2)) rfl rfl rfl BinR.shl64 (WL.assign (v := IN (4)) rfl rfl ?_)))))))))
  refine WL.assign (v := .bool (true)) rfl rfl (WL.nil (WC.ret ?_))
  exact ⟨_, Res.two (v := IN (4)) (v' := .bool (true)) rfl rfl rfl, rfl, Mod.refl _ _⟩
theorem loads_14 (w : World) : CallsR Tryz.prog 68 #[U8 (14#8)] w (fun v w' => v = .tuple #[IN 8, .bool true] ∧ Ext w w') := by
  refine callsR_of Tryz.func68 rfl rfl rfl ?_
  refine WC.seq (WC.region (WL.assign (v := IN (0)) rfl rfl (WL.assign (v := .bool (false)) rfl rfl (WL.nil (WC.seq (WC.seq (WC.region (WL.move (v := U8 (14#8)) rfl rfl (WL.nil ?_)))))))))
  refine WC.block (WC.seq (WC.seq (WC.neU (c := 11#8) rfl rfl rfl rfl rfl rfl (by decide) (WC.seq (WC.neU (c := 12#8) rfl rfl rfl rfl rfl rfl (by decide) (WC.seq (WC.neU (c := 13#8) rfl rfl rfl rfl rfl rfl (by decide) (WC.region (WL.bin (v := .bool (true)) rfl (vy := U8 (14#8)) rfl rfl (BinR.toB (BinR.eqlU8) (by decide)) ?_)))))))))
  refine WL.assign (v := .bool (true)) rfl rfl (WL.nil (WC.condT rfl (WC.seq (WC.region (WL.move (v := U8 (14#8)) rfl rfl (WL.bin rfl (vy := U8 (11#8)) rfl rfl (BinR.subU8) (WL.bin (vx := I64 1#64) (vy := .int .u8 ((3 : Nat) : Int)) (v := I64 (1#64 <<< 3)) rfl rfl rfl BinR.shl64 (WL.assign (v := IN (8)) rfl rfl (WL.assign (v := .bool (true)) rfl rfl ?_)))))))))
  refine WL.nil (WC.ret ?_)
  exact ⟨_, Res.two (v := IN (8)) (v' := .bool (true)) rfl rfl rfl, rfl, Mod.refl _ _⟩
theorem loads_15 (w : World) : CallsR Tryz.prog 68 #[U8 (15#8)] w (fun v w' => v = .tuple #[IN 1, .bool false] ∧ Ext w w') := by
  refine callsR_of Tryz.func68 rfl rfl rfl ?_
  refine WC.seq (WC.region (WL.assign (v := IN (0)) rfl rfl (WL.assign (v := .bool (false)) rfl rfl (WL.nil (WC.seq (WC.seq (WC.region (WL.move (v := U8 (15#8)) rfl rfl (WL.nil ?_)))))))))
  refine WC.block (WC.seq (WC.seq (WC.neU (c := 11#8) rfl rfl rfl rfl rfl rfl (by decide) (WC.seq (WC.neU (c := 12#8) rfl rfl rfl rfl rfl rfl (by decide) (WC.seq (WC.neU (c := 13#8) rfl rfl rfl rfl rfl rfl (by decide) (WC.neU (c := 14#8) rfl rfl rfl rfl rfl rfl (by decide) (WC.seq ?_)))))))))
  refine WC.seq (WC.region (WL.bin (v := .bool (true)) rfl (vy := U8 (15#8)) rfl rfl (BinR.toB (BinR.eqlU8) (by decide)) (WL.assign (v := .bool (true)) rfl rfl (WL.nil (WC.condT rfl (WC.skip (WC.condT rfl (WC.seq (WC.region ?_)))))))))
  refine WL.move (v := U8 (15#8)) rfl rfl (WL.bin rfl (vy := U8 (15#8)) rfl rfl (BinR.subU8) (WL.bin (vx := I64 1#64) (vy := .int .u8 ((0 : Nat) : Int)) (v := I64 (1#64 <<< 0)) rfl rfl rfl BinR.shl64 (WL.assign (v := IN (1)) rfl rfl (WL.assign (v := .bool (false)) rfl rfl (WL.nil (WC.ret ?_))))))
  exact ⟨_, Res.two (v := IN (1)) (v' := .bool (false)) rfl rfl rfl, rfl, Mod.refl _ _⟩
theorem loads_16 (w : World) : CallsR Tryz.prog 68 #[U8 (16#8)] w (fun v w' => v = .tuple #[IN 2, .bool false] ∧ Ext w w') := by
  refine callsR_of Tryz.func68 rfl rfl rfl ?_
  refine WC.seq (WC.region (WL.assign (v := IN (0)) rfl rfl (WL.assign (v := .bool (false)) rfl rfl (WL.nil (WC.seq (WC.seq (WC.region (WL.move (v := U8 (16#8)) rfl rfl (WL.nil ?_)))))))))
  refine WC.block (WC.seq (WC.seq (WC.neU (c := 11#8) rfl rfl rfl rfl rfl rfl (by decide) (WC.seq (WC.neU (c := 12#8) rfl rfl rfl rfl rfl rfl (by decide) (WC.seq (WC.neU (c := 13#8) rfl rfl rfl rfl rfl rfl (by decide) (WC.neU (c := 14#8) rfl rfl rfl rfl rfl rfl (by decide) (WC.seq ?_)))))))))
  refine WC.seq (WC.neU (c := 15#8) rfl rfl rfl rfl rfl rfl (by decide) (WC.seq (WC.region (WL.bin (v := .bool (true)) rfl (vy := U8 (16#8)) rfl rfl (BinR.toB (BinR.eqlU8) (by decide)) (WL.assign (v := .bool (true)) rfl rfl (WL.nil (WC.condT rfl (WC.skip (WC.condT rfl ?_)))))))))
  refine WC.seq (WC.region (WL.move (v := U8 (16#8)) rfl rfl (WL.bin rfl (vy := U8 (15#8)) rfl rfl (BinR.subU8) (WL.bin (vx := I64 1#64) (vy := .int .u8 ((1 : Nat) : Int)) (v := I64 (1#64 <<< 1)) rfl rfl rfl BinR.shl64 (WL.assign (v := IN (2)) rfl rfl (WL.assign (v := .bool (false)) rfl rfl (WL.nil (WC.ret ?_))))))))
  exact ⟨_, Res.two (v := IN (2)) (v' := .bool (false)) rfl rfl rfl, rfl, Mod.refl _ _⟩
theorem loads_17 (w : World) : CallsR Tryz.prog 68 #[U8 (17#8)] w (fun v w' => v = .tuple #[IN 4, .bool false] ∧ Ext w w') := by
  refine callsR_of Tryz.func68 rfl rfl rfl ?_
  refine WC.seq (WC.region (WL.assign (v := IN (0)) rfl rfl (WL.assign (v := .bool (false)) rfl rfl (WL.nil (WC.seq (WC.seq (WC.region (WL.move (v := U8 (17#8)) rfl rfl (WL.nil ?_)))))))))
  refine WC.block (WC.seq (WC.seq (WC.neU (c := 11#8) rfl rfl rfl rfl rfl rfl (by decide) (WC.seq (WC.neU (c := 12#8) rfl rfl rfl rfl rfl rfl (by decide) (WC.seq (WC.neU (c := 13#8) rfl rfl rfl rfl rfl rfl (by decide) (WC.neU (c := 14#8) rfl rfl rfl rfl rfl rfl (by decide) (WC.seq ?_)))))))))
  refine WC.seq (WC.neU (c := 15#8) rfl rfl rfl rfl rfl rfl (by decide) (WC.seq (WC.neU (c := 16#8) rfl rfl rfl rfl rfl rfl (by decide) (WC.region (WL.bin (v := .bool (true)) rfl (vy := U8 (17#8)) rfl rfl (BinR.toB (BinR.eqlU8) (by decide)) (WL.assign (v := .bool (true)) rfl rfl (WL.nil (WC.condT rfl (WC.seq ?_)))))))))
  refine WC.region (WL.move (v := U8 (17#8)) rfl rfl (WL.bin rfl (vy := U8 (15#8)) rfl rfl (BinR.subU8) (WL.bin (vx := I64 1#64) (vy := .int .u8 ((2 : Nat) : Int)) (v := I64 (1#64 <<< 2)) rfl rfl rfl BinR.shl64 (WL.assign (v := IN (4)) rfl rfl (WL.assign (v := .bool (false)) rfl rfl (WL.nil (WC.ret ?_)))))))
  exact ⟨_, Res.two (v := IN (4)) (v' := .bool (false)) rfl rfl rfl, rfl, Mod.refl _ _⟩
end Go.Proofs.N
end
section
set_option linter.unusedSimpArgs false
set_option linter.unusedVariables false
namespace Go.Proofs.N
open Go Go.Ux Go.Ux.Mach Go.Proofs
def doM : Nat → BitVec 64 → BitVec 64 → BitVec 64 → BitVec 64 → BitVec 64 × BitVec 64
  | 1, imm, pc, x, y => (imm, pc + 4#64)
  | 2, imm, pc, x, y => (pc + imm, pc + 4#64)
  | 3, imm, pc, x, y => (pc + 4#64, pc + imm)
  | 4, imm, pc, x, y => (pc + 4#64, (x + imm) &&& ~~~1#64)
  | 5, imm, pc, x, y => (0#64, (if (x == y) then pc + imm else pc + 4#64))
  | 6, imm, pc, x, y => (0#64, (if (x != y) then pc + imm else pc + 4#64))
  | 7, imm, pc, x, y => (0#64, (if BitVec.slt (x) (y) then pc + imm else pc + 4#64))
  | 8, imm, pc, x, y => (0#64, (if BitVec.sle (y) (x) then pc + imm else pc + 4#64))
  | 9, imm, pc, x, y => (0#64, (if BitVec.ult (x) (y) then pc + imm else pc + 4#64))
  | 10, imm, pc, x, y => (0#64, (if BitVec.ule (y) (x) then pc + imm else pc + 4#64))
  | 11, imm, pc, x, y => (0#64, pc + 4#64)
  | 12, imm, pc, x, y => (0#64, pc + 4#64)
  | 13, imm, pc, x, y => (0#64, pc + 4#64)
  | 14, imm, pc, x, y => (0#64, pc + 4#64)
  | 15, imm, pc, x, y => (0#64, pc + 4#64)
  | 16, imm, pc, x, y => (0#64, pc + 4#64)
  | 17, imm, pc, x, y => (0#64, pc + 4#64)
  | 18, imm, pc, x, y => (0#64, pc + 4#64)
  | 19, imm, pc, x, y => (0#64, pc + 4#64)
  | 20, imm, pc, x, y => (0#64, pc + 4#64)
  | 21, imm, pc, x, y => (0#64, pc + 4#64)
  | 22, imm, pc, x, y => ((fun x y => x + y) x imm, pc + 4#64)
  | 23, imm, pc, x, y => ((fun x y => bitW (BitVec.slt x y)) x imm, pc + 4#64)
  | 24, imm, pc, x, y => ((fun x y => bitW (BitVec.ult x y)) x imm, pc + 4#64)
  | 25, imm, pc, x, y => ((fun x y => x ^^^ y) x imm, pc + 4#64)
  | 26, imm, pc, x, y => ((fun x y => x ||| y) x imm, pc + 4#64)
  | 27, imm, pc, x, y => ((fun x y => x &&& y) x imm, pc + 4#64)
  | 28, imm, pc, x, y => (sllW x imm, pc + 4#64)
  | 29, imm, pc, x, y => (srlW x imm, pc + 4#64)
  | 30, imm, pc, x, y => (sraW x imm, pc + 4#64)
  | 31, imm, pc, x, y => ((fun x y => x + y) x y, pc + 4#64)
  | 32, imm, pc, x, y => ((fun x y => x - y) x y, pc + 4#64)
  | 33, imm, pc, x, y => (sllW x y, pc + 4#64)
  | 34, imm, pc, x, y => ((fun x y => bitW (BitVec.slt x y)) x y, pc + 4#64)
  | 35, imm, pc, x, y => ((fun x y => bitW (BitVec.ult x y)) x y, pc + 4#64)
  | 36, imm, pc, x, y => ((fun x y => x ^^^ y) x y, pc + 4#64)
  | 37, imm, pc, x, y => (srlW x y, pc + 4#64)
  | 38, imm, pc, x, y => (sraW x y, pc + 4#64)
  | 39, imm, pc, x, y => ((fun x y => x ||| y) x y, pc + 4#64)
  | 40, imm, pc, x, y => ((fun x y => x &&& y) x y, pc + 4#64)
  | 41, imm, pc, x, y => ((signedF (fun x y => x + y)) x imm, pc + 4#64)
  | 42, imm, pc, x, y => ((movedF (signedF sllW)) x imm, pc + 4#64)
  | 43, imm, pc, x, y => ((movedF (unsignedF srlW)) x imm, pc + 4#64)
  | 44, imm, pc, x, y => ((movedF (signedF sraW)) x imm, pc + 4#64)
  | 45, imm, pc, x, y => ((signedF (fun x y => x + y)) x y, pc + 4#64)
  | 46, imm, pc, x, y => ((signedF (fun x y => x - y)) x y, pc + 4#64)
  | 47, imm, pc, x, y => ((movedF (signedF sllW)) x y, pc + 4#64)
  | 48, imm, pc, x, y => ((movedF (unsignedF srlW)) x y, pc + 4#64)
  | 49, imm, pc, x, y => ((movedF (signedF sraW)) x y, pc + 4#64)
  | 50, imm, pc, x, y => ((fun x y => x * y) x y, pc + 4#64)
  | 51, imm, pc, x, y => (mulhW x y, pc + 4#64)
  | 52, imm, pc, x, y => (mulhsuW x y, pc + 4#64)
  | 53, imm, pc, x, y => (hiW x y, pc + 4#64)
  | 54, imm, pc, x, y => (divW x y, pc + 4#64)
  | 55, imm, pc, x, y => (divuW x y, pc + 4#64)
  | 56, imm, pc, x, y => (remW x y, pc + 4#64)
  | 57, imm, pc, x, y => (remuW x y, pc + 4#64)
  | 58, imm, pc, x, y => ((signedF (fun x y => x * y)) x y, pc + 4#64)
  | 59, imm, pc, x, y => ((signedF divW) x y, pc + 4#64)
  | 60, imm, pc, x, y => ((unsignedF divuW) x y, pc + 4#64)
  | 61, imm, pc, x, y => ((signedF remW) x y, pc + 4#64)
  | 62, imm, pc, x, y => ((unsignedF remuW) x y, pc + 4#64)
  | 63, imm, pc, x, y => (0#64, pc + 4#64)
  | 64, imm, pc, x, y => (0#64, pc + 4#64)
  | 65, imm, pc, x, y => (0#64, pc + 4#64)
  | _, _, pc, _, _ => (0#64, pc + 4#64)
def loadsM : Nat → Nat × Bool
  | 11 => (1, true)
  | 12 => (2, true)
  | 13 => (4, true)
  | 14 => (8, true)
  | 15 => (1, false)
  | 16 => (2, false)
  | 17 => (4, false)
  | _ => (0, false)
theorem op_num (op : BitVec 8) (h1 : 1 ≤ op.toNat) (h2 : op.toNat < 66) : ∃ n, op = BitVec.ofNat 8 n ∧ 1 ≤ n ∧ n < 66 := ⟨op.toNat, by simp, h1, h2⟩
theorem num_op (n : Nat) (h : n < 66) : (BitVec.ofNat 8 n).toNat = n := by rw [BitVec.toNat_ofNat]; omega
theorem do_spec (op rd rs1 rs2 : BitVec 8) (imm pc x y : BitVec 64) (w : World) (h1 : 1 ≤ op.toNat) (h2 : op.toNat < 66) : CallsR Tryz.prog 53 #[.agg #[U8 op, U8 rd, U8 rs1, U8 rs2, I64 imm], U64 pc, U64 x, U64 y] w (fun v w' => v = .tuple #[U64 (doM op.toNat imm pc x y).1, U64 (doM op.toNat imm pc x y).2] ∧ Ext w w') := by
  obtain ⟨n, rfl, k1, k2⟩ := op_num op h1 h2
  rw [num_op n k2]
  match n, k1, k2 with
  | 1, _, _ => exact do_1 rd rs1 rs2 imm pc x y w
  | 2, _, _ => exact do_2 rd rs1 rs2 imm pc x y w
  | 3, _, _ => exact do_3 rd rs1 rs2 imm pc x y w
  | 4, _, _ => exact do_4 rd rs1 rs2 imm pc x y w
  | 5, _, _ => exact do_5 rd rs1 rs2 imm pc x y w
  | 6, _, _ => exact do_6 rd rs1 rs2 imm pc x y w
  | 7, _, _ => exact do_7 rd rs1 rs2 imm pc x y w
  | 8, _, _ => exact do_8 rd rs1 rs2 imm pc x y w
  | 9, _, _ => exact do_9 rd rs1 rs2 imm pc x y w
  | 10, _, _ => exact do_10 rd rs1 rs2 imm pc x y w
  | 11, _, _ => exact do_none 11#8 (by decide) (by decide) reckons_11 rd rs1 rs2 imm pc x y w
  | 12, _, _ => exact do_none 12#8 (by decide) (by decide) reckons_12 rd rs1 rs2 imm pc x y w
  | 13, _, _ => exact do_none 13#8 (by decide) (by decide) reckons_13 rd rs1 rs2 imm pc x y w
  | 14, _, _ => exact do_none 14#8 (by decide) (by decide) reckons_14 rd rs1 rs2 imm pc x y w
  | 15, _, _ => exact do_none 15#8 (by decide) (by decide) reckons_15 rd rs1 rs2 imm pc x y w
  | 16, _, _ => exact do_none 16#8 (by decide) (by decide) reckons_16 rd rs1 rs2 imm pc x y w
  | 17, _, _ => exact do_none 17#8 (by decide) (by decide) reckons_17 rd rs1 rs2 imm pc x y w
  | 18, _, _ => exact do_none 18#8 (by decide) (by decide) reckons_18 rd rs1 rs2 imm pc x y w
  | 19, _, _ => exact do_none 19#8 (by decide) (by decide) reckons_19 rd rs1 rs2 imm pc x y w
  | 20, _, _ => exact do_none 20#8 (by decide) (by decide) reckons_20 rd rs1 rs2 imm pc x y w
  | 21, _, _ => exact do_none 21#8 (by decide) (by decide) reckons_21 rd rs1 rs2 imm pc x y w
  | 22, _, _ => exact do_22 rd rs1 rs2 imm pc x y w
  | 23, _, _ => exact do_23 rd rs1 rs2 imm pc x y w
  | 24, _, _ => exact do_24 rd rs1 rs2 imm pc x y w
  | 25, _, _ => exact do_25 rd rs1 rs2 imm pc x y w
  | 26, _, _ => exact do_26 rd rs1 rs2 imm pc x y w
  | 27, _, _ => exact do_27 rd rs1 rs2 imm pc x y w
  | 28, _, _ => exact do_28 rd rs1 rs2 imm pc x y w
  | 29, _, _ => exact do_29 rd rs1 rs2 imm pc x y w
  | 30, _, _ => exact do_30 rd rs1 rs2 imm pc x y w
  | 31, _, _ => exact do_y 31#8 (fun x y => x + y) (by decide) (by decide) reckons_31 rd rs1 rs2 imm pc x y w
  | 32, _, _ => exact do_y 32#8 (fun x y => x - y) (by decide) (by decide) reckons_32 rd rs1 rs2 imm pc x y w
  | 33, _, _ => exact do_y 33#8 sllW (by decide) (by decide) reckons_33 rd rs1 rs2 imm pc x y w
  | 34, _, _ => exact do_y 34#8 (fun x y => bitW (BitVec.slt x y)) (by decide) (by decide) reckons_34 rd rs1 rs2 imm pc x y w
  | 35, _, _ => exact do_y 35#8 (fun x y => bitW (BitVec.ult x y)) (by decide) (by decide) reckons_35 rd rs1 rs2 imm pc x y w
  | 36, _, _ => exact do_y 36#8 (fun x y => x ^^^ y) (by decide) (by decide) reckons_36 rd rs1 rs2 imm pc x y w
  | 37, _, _ => exact do_y 37#8 srlW (by decide) (by decide) reckons_37 rd rs1 rs2 imm pc x y w
  | 38, _, _ => exact do_y 38#8 sraW (by decide) (by decide) reckons_38 rd rs1 rs2 imm pc x y w
  | 39, _, _ => exact do_y 39#8 (fun x y => x ||| y) (by decide) (by decide) reckons_39 rd rs1 rs2 imm pc x y w
  | 40, _, _ => exact do_y 40#8 (fun x y => x &&& y) (by decide) (by decide) reckons_40 rd rs1 rs2 imm pc x y w
  | 41, _, _ => exact do_41 rd rs1 rs2 imm pc x y w
  | 42, _, _ => exact do_42 rd rs1 rs2 imm pc x y w
  | 43, _, _ => exact do_43 rd rs1 rs2 imm pc x y w
  | 44, _, _ => exact do_44 rd rs1 rs2 imm pc x y w
  | 45, _, _ => exact do_y 45#8 (signedF (fun x y => x + y)) (by decide) (by decide) reckons_45 rd rs1 rs2 imm pc x y w
  | 46, _, _ => exact do_y 46#8 (signedF (fun x y => x - y)) (by decide) (by decide) reckons_46 rd rs1 rs2 imm pc x y w
  | 47, _, _ => exact do_y 47#8 (movedF (signedF sllW)) (by decide) (by decide) reckons_47 rd rs1 rs2 imm pc x y w
  | 48, _, _ => exact do_y 48#8 (movedF (unsignedF srlW)) (by decide) (by decide) reckons_48 rd rs1 rs2 imm pc x y w
  | 49, _, _ => exact do_y 49#8 (movedF (signedF sraW)) (by decide) (by decide) reckons_49 rd rs1 rs2 imm pc x y w
  | 50, _, _ => exact do_y 50#8 (fun x y => x * y) (by decide) (by decide) reckons_50 rd rs1 rs2 imm pc x y w
  | 51, _, _ => exact do_y 51#8 mulhW (by decide) (by decide) reckons_51 rd rs1 rs2 imm pc x y w
  | 52, _, _ => exact do_y 52#8 mulhsuW (by decide) (by decide) reckons_52 rd rs1 rs2 imm pc x y w
  | 53, _, _ => exact do_y 53#8 hiW (by decide) (by decide) reckons_53 rd rs1 rs2 imm pc x y w
  | 54, _, _ => exact do_y 54#8 divW (by decide) (by decide) reckons_54 rd rs1 rs2 imm pc x y w
  | 55, _, _ => exact do_y 55#8 divuW (by decide) (by decide) reckons_55 rd rs1 rs2 imm pc x y w
  | 56, _, _ => exact do_y 56#8 remW (by decide) (by decide) reckons_56 rd rs1 rs2 imm pc x y w
  | 57, _, _ => exact do_y 57#8 remuW (by decide) (by decide) reckons_57 rd rs1 rs2 imm pc x y w
  | 58, _, _ => exact do_y 58#8 (signedF (fun x y => x * y)) (by decide) (by decide) reckons_58 rd rs1 rs2 imm pc x y w
  | 59, _, _ => exact do_y 59#8 (signedF divW) (by decide) (by decide) reckons_59 rd rs1 rs2 imm pc x y w
  | 60, _, _ => exact do_y 60#8 (unsignedF divuW) (by decide) (by decide) reckons_60 rd rs1 rs2 imm pc x y w
  | 61, _, _ => exact do_y 61#8 (signedF remW) (by decide) (by decide) reckons_61 rd rs1 rs2 imm pc x y w
  | 62, _, _ => exact do_y 62#8 (unsignedF remuW) (by decide) (by decide) reckons_62 rd rs1 rs2 imm pc x y w
  | 63, _, _ => exact do_none 63#8 (by decide) (by decide) reckons_63 rd rs1 rs2 imm pc x y w
  | 64, _, _ => exact do_none 64#8 (by decide) (by decide) reckons_64 rd rs1 rs2 imm pc x y w
  | 65, _, _ => exact do_none 65#8 (by decide) (by decide) reckons_65 rd rs1 rs2 imm pc x y w
  | n + 66, _, h => exact absurd h (by omega)
theorem loads_spec (op : BitVec 8) (w : World) (h1 : 1 ≤ op.toNat) (h2 : op.toNat < 66) : CallsR Tryz.prog 68 #[U8 op] w (fun v w' => v = .tuple #[IN (loadsM op.toNat).1, .bool (loadsM op.toNat).2] ∧ Ext w w') := by
  obtain ⟨n, rfl, k1, k2⟩ := op_num op h1 h2
  rw [num_op n k2]
  match n, k1, k2 with
  | 1, _, _ => exact loads_z 1#8 (by decide) w
  | 2, _, _ => exact loads_z 2#8 (by decide) w
  | 3, _, _ => exact loads_z 3#8 (by decide) w
  | 4, _, _ => exact loads_z 4#8 (by decide) w
  | 5, _, _ => exact loads_z 5#8 (by decide) w
  | 6, _, _ => exact loads_z 6#8 (by decide) w
  | 7, _, _ => exact loads_z 7#8 (by decide) w
  | 8, _, _ => exact loads_z 8#8 (by decide) w
  | 9, _, _ => exact loads_z 9#8 (by decide) w
  | 10, _, _ => exact loads_z 10#8 (by decide) w
  | 11, _, _ => exact loads_11 w
  | 12, _, _ => exact loads_12 w
  | 13, _, _ => exact loads_13 w
  | 14, _, _ => exact loads_14 w
  | 15, _, _ => exact loads_15 w
  | 16, _, _ => exact loads_16 w
  | 17, _, _ => exact loads_17 w
  | 18, _, _ => exact loads_z 18#8 (by decide) w
  | 19, _, _ => exact loads_z 19#8 (by decide) w
  | 20, _, _ => exact loads_z 20#8 (by decide) w
  | 21, _, _ => exact loads_z 21#8 (by decide) w
  | 22, _, _ => exact loads_z 22#8 (by decide) w
  | 23, _, _ => exact loads_z 23#8 (by decide) w
  | 24, _, _ => exact loads_z 24#8 (by decide) w
  | 25, _, _ => exact loads_z 25#8 (by decide) w
  | 26, _, _ => exact loads_z 26#8 (by decide) w
  | 27, _, _ => exact loads_z 27#8 (by decide) w
  | 28, _, _ => exact loads_z 28#8 (by decide) w
  | 29, _, _ => exact loads_z 29#8 (by decide) w
  | 30, _, _ => exact loads_z 30#8 (by decide) w
  | 31, _, _ => exact loads_z 31#8 (by decide) w
  | 32, _, _ => exact loads_z 32#8 (by decide) w
  | 33, _, _ => exact loads_z 33#8 (by decide) w
  | 34, _, _ => exact loads_z 34#8 (by decide) w
  | 35, _, _ => exact loads_z 35#8 (by decide) w
  | 36, _, _ => exact loads_z 36#8 (by decide) w
  | 37, _, _ => exact loads_z 37#8 (by decide) w
  | 38, _, _ => exact loads_z 38#8 (by decide) w
  | 39, _, _ => exact loads_z 39#8 (by decide) w
  | 40, _, _ => exact loads_z 40#8 (by decide) w
  | 41, _, _ => exact loads_z 41#8 (by decide) w
  | 42, _, _ => exact loads_z 42#8 (by decide) w
  | 43, _, _ => exact loads_z 43#8 (by decide) w
  | 44, _, _ => exact loads_z 44#8 (by decide) w
  | 45, _, _ => exact loads_z 45#8 (by decide) w
  | 46, _, _ => exact loads_z 46#8 (by decide) w
  | 47, _, _ => exact loads_z 47#8 (by decide) w
  | 48, _, _ => exact loads_z 48#8 (by decide) w
  | 49, _, _ => exact loads_z 49#8 (by decide) w
  | 50, _, _ => exact loads_z 50#8 (by decide) w
  | 51, _, _ => exact loads_z 51#8 (by decide) w
  | 52, _, _ => exact loads_z 52#8 (by decide) w
  | 53, _, _ => exact loads_z 53#8 (by decide) w
  | 54, _, _ => exact loads_z 54#8 (by decide) w
  | 55, _, _ => exact loads_z 55#8 (by decide) w
  | 56, _, _ => exact loads_z 56#8 (by decide) w
  | 57, _, _ => exact loads_z 57#8 (by decide) w
  | 58, _, _ => exact loads_z 58#8 (by decide) w
  | 59, _, _ => exact loads_z 59#8 (by decide) w
  | 60, _, _ => exact loads_z 60#8 (by decide) w
  | 61, _, _ => exact loads_z 61#8 (by decide) w
  | 62, _, _ => exact loads_z 62#8 (by decide) w
  | 63, _, _ => exact loads_z 63#8 (by decide) w
  | 64, _, _ => exact loads_z 64#8 (by decide) w
  | 65, _, _ => exact loads_z 65#8 (by decide) w
  | n + 66, _, h => exact absurd h (by omega)
end Go.Proofs.N
end
