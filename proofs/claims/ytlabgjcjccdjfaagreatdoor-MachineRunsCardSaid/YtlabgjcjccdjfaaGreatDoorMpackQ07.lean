/- Steps of the proof, packed by program: McA5 McA6 McA7 McS9 McT1 McLoad. -/
import Derived.Test.YtlabgjcjccdjfaaGreatDoorRows
import Derived.Test.YtlabgjcjccdjfaaGreatDoorMpackQ02
import Derived.Test.YtlabgjcjccdjfaaGreatDoorMpackQ05
import Derived.Test.YtlabgjcjccdjfaaGreatDoorMpackQ06
set_option linter.unusedVariables false
set_option linter.unusedSimpArgs false
set_option linter.unnecessarySimpa false
set_option maxRecDepth 100000
section
set_option linter.unusedSimpArgs false
set_option linter.unusedVariables false
namespace Go.Proofs.N
open Go Go.Ux Go.Ux.Mach Go.Proofs
theorem fo48_4 : fieldOff Tryz.prog 48 4 = some 4 := by kernel_rfl
theorem ag2 : isAggT Tryz.prog 2 = some false := by kernel_rfl
theorem fo48_0 : fieldOff Tryz.prog 48 0 = some 0 := by kernel_rfl
theorem ag5 : isAggT Tryz.prog 5 = some false := by kernel_rfl
theorem ca87 : callable Tryz.prog 87 = true := by kernel_rfl
theorem BinR.andNotU64 {P : Program} {t : TypeId} {x y : BitVec 64} : BinR P .andNot t (U64 x) (U64 y) (U64 (x &&& ~~~y)) := .of_int fun w => by
 have e : Op.intBits .andNot .u64 (x.toNat : Int) (y.toNat : Int) = pure (.int .u64 (IntKind.u64.wrap ((x &&& ~~~y).toNat : Int))) := by unfold Op.intBits; simp only [IntKind.bits, ofInt_toNat_id]; rfl
 simp only [binOp, ne_eq, not_true_eq_false, if_false, e, wrap_u64_bv, ofInt_toNat_id, Sem.run_pure]
theorem jumps_z (z : BitVec 8) (hz : ∀ c ∈ [5#8, 6#8, 7#8, 8#8, 9#8, 10#8], (z == c) = false) (x y : BitVec 64) (w : World) : CallsR Tryz.prog 87 #[U8 z, U64 x, U64 y] w (fun v w' => v = .tuple #[.bool false, .bool false] ∧ Ext w w') := by
 refine callsR_of Tryz.func87 G G G ?_
 refine Sr (An (.bool false) G (An (.bool false) G (Ni (Sq (Sr (Mv (U8 z) G (Ni ?_)))))))
 refine Bk (Sq (WC.neU (c := 5#8) G G G G G G (hz _ (by decide)) (Sq (WC.neU (c := 6#8) G G G G G G (hz _ (by decide)) (Sq (WC.neU (c := 7#8) G G G G G G (hz _ (by decide)) (Sq (WC.neU (c := 8#8) G G G G G G (hz _ (by decide)) (Sq ?_)))))))))
 refine WC.neU (c := 9#8) G G G G G G (hz _ (by decide)) (Sq (WC.neU (c := 10#8) G G G G G G (hz _ (by decide)) (WC.skip (Sr (An (.bool false) G (An (.bool false) G (Ni (WC.ret ?_))))))))
 exact ⟨_, Res.two (v := .bool false) (v' := .bool false) G G G, G, Mod.refl _ _⟩
theorem jumps_5 (x y : BitVec 64) (w : World) : CallsR Tryz.prog 87 #[U8 (5#8), U64 x, U64 y] w (fun v w' => v = .tuple #[.bool ((x == y)), .bool true] ∧ Ext w w') := by
 refine callsR_of Tryz.func87 G G G ?_
 refine Sr (An (.bool false) G (An (.bool false) G (Ni (Sq (Sr (Mv (U8 (5#8)) G (Ni ?_)))))))
 refine Bk (Sr (Bn (v := .bool true) (vy := U8 (5#8)) G G (BinR.toB BinR.eqlU8 (by decide)) (An (.bool true) G (Ni (Ct G (Sr (Mv (U64 x) G ?_)))))))
 refine Mv (U64 y) G (Bn G G BinR.eqlU64 (An (.bool ((x == y))) G (An (.bool true) G (Ni (WC.ret ?_)))))
 exact ⟨_, Res.two (v := .bool ((x == y))) (v' := .bool true) G G G, G, Mod.refl _ _⟩
theorem jumps_6 (x y : BitVec 64) (w : World) : CallsR Tryz.prog 87 #[U8 (6#8), U64 x, U64 y] w (fun v w' => v = .tuple #[.bool ((x != y)), .bool true] ∧ Ext w w') := by
 refine callsR_of Tryz.func87 G G G ?_
 refine Sr (An (.bool false) G (An (.bool false) G (Ni (Sq (Sr (Mv (U8 (6#8)) G (Ni ?_)))))))
 refine Bk (Sq (Nu 5 (Sr (Bn (v := .bool true) (vy := U8 (6#8)) G G (BinR.toB BinR.eqlU8 (by decide)) (An (.bool true) G (Ni (Ct G (Sq ?_))))))))
 refine Rg (Mv (U64 x) G (Mv (U64 y) G (Bn G G BinR.neqU64 (An (.bool ((x != y))) G (An (.bool true) G (Ni (WC.ret ?_)))))))
 exact ⟨_, Res.two (v := .bool ((x != y))) (v' := .bool true) G G G, G, Mod.refl _ _⟩
theorem jumps_7 (x y : BitVec 64) (w : World) : CallsR Tryz.prog 87 #[U8 (7#8), U64 x, U64 y] w (fun v w' => v = .tuple #[.bool (BitVec.slt x y), .bool true] ∧ Ext w w') := by
 refine callsR_of Tryz.func87 G G G ?_
 refine Sr (An (.bool false) G (An (.bool false) G (Ni (Sq (Sr (Mv (U8 (7#8)) G (Ni ?_)))))))
 refine Bk (Sq (Nu 5 (Sq (Nu 6 (Sr (Bn (v := .bool true) (vy := U8 (7#8)) G G (BinR.toB BinR.eqlU8 (by decide)) (An (.bool true) G (Ni ?_))))))))
 refine Ct G (Sr (Mv (U64 x) G (Cv G (ConvR.u64i64 Tryz.underlying39 Tryz.underlying2) (Mv (U64 y) G (Cv G (ConvR.u64i64 Tryz.underlying39 Tryz.underlying2) (Bn G G BinR.lss64 (An (.bool (BitVec.slt x y)) G (An (.bool true) G ?_))))))))
 refine Ni (WC.ret ?_)
 exact ⟨_, Res.two (v := .bool (BitVec.slt x y)) (v' := .bool true) G G G, G, Mod.refl _ _⟩
theorem jumps_8 (x y : BitVec 64) (w : World) : CallsR Tryz.prog 87 #[U8 (8#8), U64 x, U64 y] w (fun v w' => v = .tuple #[.bool (BitVec.sle y x), .bool true] ∧ Ext w w') := by
 refine callsR_of Tryz.func87 G G G ?_
 refine Sr (An (.bool false) G (An (.bool false) G (Ni (Sq (Sr (Mv (U8 (8#8)) G (Ni ?_)))))))
 refine Bk (Sq (Nu 5 (Sq (Nu 6 (Sq (Nu 7 (Sr (Bn (v := .bool true) (vy := U8 (8#8)) G G (BinR.toB BinR.eqlU8 (by decide)) ?_))))))))
 refine An (.bool true) G (Ni (Ct G (Sr (Mv (U64 x) G (Cv G (ConvR.u64i64 Tryz.underlying39 Tryz.underlying2) (Mv (U64 y) G (Cv G (ConvR.u64i64 Tryz.underlying39 Tryz.underlying2) (Bn G G BinR.geq64 ?_))))))))
 refine An (.bool (BitVec.sle y x)) G (An (.bool true) G (Ni (WC.ret ?_)))
 exact ⟨_, Res.two (v := .bool (BitVec.sle y x)) (v' := .bool true) G G G, G, Mod.refl _ _⟩
theorem jumps_9 (x y : BitVec 64) (w : World) : CallsR Tryz.prog 87 #[U8 (9#8), U64 x, U64 y] w (fun v w' => v = .tuple #[.bool (BitVec.ult x y), .bool true] ∧ Ext w w') := by
 refine callsR_of Tryz.func87 G G G ?_
 refine Sr (An (.bool false) G (An (.bool false) G (Ni (Sq (Sr (Mv (U8 (9#8)) G (Ni ?_)))))))
 refine Bk (Sq (Nu 5 (Sq (Nu 6 (Sq (Nu 7 (Sq (Nu 8 (Sq ?_)))))))))
 refine Rg (Bn (v := .bool true) (vy := U8 (9#8)) G G (BinR.toB BinR.eqlU8 (by decide)) (An (.bool true) G (Ni (Ct G (Sr (Mv (U64 x) G (Mv (U64 y) G (Bn G G BinR.lssU64 ?_))))))))
 refine An (.bool (BitVec.ult x y)) G (An (.bool true) G (Ni (WC.ret ?_)))
 exact ⟨_, Res.two (v := .bool (BitVec.ult x y)) (v' := .bool true) G G G, G, Mod.refl _ _⟩
theorem jumps_10 (x y : BitVec 64) (w : World) : CallsR Tryz.prog 87 #[U8 (10#8), U64 x, U64 y] w (fun v w' => v = .tuple #[.bool (BitVec.ule y x), .bool true] ∧ Ext w w') := by
 refine callsR_of Tryz.func87 G G G ?_
 refine Sr (An (.bool false) G (An (.bool false) G (Ni (Sq (Sr (Mv (U8 (10#8)) G (Ni ?_)))))))
 refine Bk (Sq (Nu 5 (Sq (Nu 6 (Sq (Nu 7 (Sq (Nu 8 (Sq ?_)))))))))
 refine Nu 9 (Sr (Bn (v := .bool true) (vy := U8 (10#8)) G G (BinR.toB BinR.eqlU8 (by decide)) (An (.bool true) G (Ni (Ct G (Sr (Mv (U64 x) G ?_)))))))
 refine Mv (U64 y) G (Bn G G BinR.geqU64 (An (.bool (BitVec.ule y x)) G (An (.bool true) G (Ni (WC.ret ?_)))))
 exact ⟨_, Res.two (v := .bool (BitVec.ule y x)) (v' := .bool true) G G G, G, Mod.refl _ _⟩
theorem do_none (z : BitVec 8) (hj : ∀ c ∈ [5#8, 6#8, 7#8, 8#8, 9#8, 10#8], (z == c) = false) (hz : ∀ c ∈ [1#8, 2#8, 3#8, 4#8], (z == c) = false) (hr : ∀ w, CallsR Tryz.prog 88 #[U8 z] w (fun v w' => v = .nilFunc ∧ Ext w w')) (rd rs1 rs2 : BitVec 8) (imm pc x y : BitVec 64) (w : World) : CallsR Tryz.prog 53 #[.agg #[U8 z, U8 rd, U8 rs1, U8 rs2, I64 imm], U64 pc, U64 x, U64 y] w (fun v w' => v = .tuple #[U64 (0#64), U64 (pc + 4#64)] ∧ Ext w w') := by
 refine callsR_of Tryz.func53 G G G ?_
 refine Sr (WL.box (v := .agg #[U8 z, U8 rd, U8 rs1, U8 rs2, I64 imm]) G G ?_)
 intro b4 w4 n4
 have E1 : Ext w w4 := n4.ext
 refine An (U64 (0#64)) G (An (U64 (0#64)) G (Ni (Sr (Fa G fo48_4 (Lo G ag2 (n4.blk.cell (j := 4) G) (Cv G (ConvR.i64u64 Tryz.underlying2 Tryz.underlying39) (Mv (U64 pc) G (Bn (vy := U64 (4#64)) G G BinR.addU64 ?_))))))))
 refine An (U64 imm) G (An (U64 ((pc + 4#64))) G (Ni (Sq (Sr (Fa G fo48_0 (Lo G ag5 (n4.blk.cell (j := 0) G) (Mv (U64 x) G (Mv (U64 y) G ?_))))))))
 refine WL.call ca87 G G (jumps_z z hj x y _) ?_
 rintro _ wj ⟨rfl, ej⟩
 have E2 := Mt E1 ej
 refine Mv (.tuple #[.bool false, .bool false]) G (Et G G (Et G G (An (.bool false) G (An (.bool false) G (Ni (Sr (Mv (.bool false) G (Ni ?_))))))))
 refine Cf G (WC.skip (Sq (Sr (Fa G fo48_0 ?_))))
 have B3 := n4.blk.ext ej
 refine Lo G ag5 (B3.cell (j := 0) G) (Ni (Bk (Sq (WC.neU (c := 1#8) G G G G G G (hz _ (by decide)) (Sq (WC.neU (c := 2#8) G G G G G G (hz _ (by decide)) (Sq (WC.neU (c := 3#8) G G G G G G (hz _ (by decide)) (Sq ?_)))))))))
 refine WC.neU (c := 4#8) G G G G G G (hz _ (by decide)) (WC.skip (Sr (Fa G fo48_0 (Lo G ag5 (B3.cell (j := 0) G) (WL.call ca88 G G (hr _) ?_)))))
 rintro _ wr ⟨rfl, er⟩
 have E4 := Mt E2 er
 refine An .nilFunc G (Ni (Sq (Sr (Mv .nilFunc G (Bn G G (BinR.eqlNil Tryz.underlying178) (Ni (Ct G (Sq ?_))))))))
 refine Rg (Mv (U64 ((pc + 4#64))) G (An (U64 (0#64)) G (An (U64 ((pc + 4#64))) G (Ni (WC.ret ?_)))))
 exact ⟨_, Res.two (v := U64 (0#64)) (v' := U64 ((pc + 4#64))) G G G, G, E4⟩
theorem do_y (z : BitVec 8) (F : BitVec 64 → BitVec 64 → BitVec 64) (hj : ∀ c ∈ [5#8, 6#8, 7#8, 8#8, 9#8, 10#8], (z == c) = false) (hz : ∀ c ∈ [1#8, 2#8, 3#8, 4#8, 22#8, 23#8, 24#8, 25#8, 26#8, 27#8, 28#8, 29#8, 30#8, 41#8, 42#8, 43#8, 44#8], (z == c) = false) (hr : ∀ w, CallsR Tryz.prog 88 #[U8 z] w (fun v w' => FunOk w' v F ∧ Ext w w')) (rd rs1 rs2 : BitVec 8) (imm pc x y : BitVec 64) (w : World) : CallsR Tryz.prog 53 #[.agg #[U8 z, U8 rd, U8 rs1, U8 rs2, I64 imm], U64 pc, U64 x, U64 y] w (fun v w' => v = .tuple #[U64 (F x y), U64 (pc + 4#64)] ∧ Ext w w') := by
 refine callsR_of Tryz.func53 G G G ?_
 refine Sr (WL.box (v := .agg #[U8 z, U8 rd, U8 rs1, U8 rs2, I64 imm]) G G ?_)
 intro b4 w4 n4
 have E1 : Ext w w4 := n4.ext
 refine An (U64 (0#64)) G (An (U64 (0#64)) G (Ni (Sr (Fa G fo48_4 (Lo G ag2 (n4.blk.cell (j := 4) G) (Cv G (ConvR.i64u64 Tryz.underlying2 Tryz.underlying39) (Mv (U64 pc) G (Bn (vy := U64 (4#64)) G G BinR.addU64 ?_))))))))
 refine An (U64 imm) G (An (U64 ((pc + 4#64))) G (Ni (Sq (Sr (Fa G fo48_0 (Lo G ag5 (n4.blk.cell (j := 0) G) (Mv (U64 x) G (Mv (U64 y) G ?_))))))))
 refine WL.call ca87 G G (jumps_z z hj x y _) ?_
 rintro _ wj ⟨rfl, ej⟩
 have E2 := Mt E1 ej
 refine Mv (.tuple #[.bool false, .bool false]) G (Et G G (Et G G (An (.bool false) G (An (.bool false) G (Ni (Sr (Mv (.bool false) G (Ni ?_))))))))
 refine Cf G (WC.skip (Sq (Sr (Fa G fo48_0 ?_))))
 have B3 := n4.blk.ext ej
 refine Lo G ag5 (B3.cell (j := 0) G) (Ni (Bk (Sq (WC.neU (c := 1#8) G G G G G G (hz _ (by decide)) (Sq (WC.neU (c := 2#8) G G G G G G (hz _ (by decide)) (Sq (WC.neU (c := 3#8) G G G G G G (hz _ (by decide)) (Sq ?_)))))))))
 refine WC.neU (c := 4#8) G G G G G G (hz _ (by decide)) (WC.skip (Sr (Fa G fo48_0 (Lo G ag5 (B3.cell (j := 0) G) (WL.call ca88 G G (hr _) ?_)))))
 rintro _ wr ⟨⟨g, cs, rfl, hcal, hcl⟩, er⟩
 have E4 := Mt E2 er
 refine An (.func (.func g) #[] cs) G (Ni (Sq (Sr (Mv (.func (.func g) #[] cs) G (Bn G G (BinR.eqlFnil Tryz.underlying178) (Ni (Cf G (WC.skip ?_))))))))
 refine Sq (Sr (Fa G fo48_0 ?_))
 have B5 := B3.ext er
 refine Lo G ag5 (B5.cell (j := 0) G) (Ni (Bk (Sq (Sq (WC.neU (c := 22#8) G G G G G G (hz _ (by decide)) (Sq (WC.neU (c := 23#8) G G G G G G (hz _ (by decide)) (Sq (WC.neU (c := 24#8) G G G G G G (hz _ (by decide)) ?_)))))))))
 refine Sq (WC.neU (c := 25#8) G G G G G G (hz _ (by decide)) (Sq (WC.neU (c := 26#8) G G G G G G (hz _ (by decide)) (Sq (WC.neU (c := 27#8) G G G G G G (hz _ (by decide)) (Sq (WC.neU (c := 28#8) G G G G G G (hz _ (by decide)) (Sq (WC.neU (c := 29#8) G G G G G G (hz _ (by decide)) ?_)))))))))
 refine Sq (WC.neU (c := 30#8) G G G G G G (hz _ (by decide)) (Sq (WC.neU (c := 41#8) G G G G G G (hz _ (by decide)) (Sq (WC.neU (c := 42#8) G G G G G G (hz _ (by decide)) (Sq (WC.neU (c := 43#8) G G G G G G (hz _ (by decide)) (WC.neU (c := 44#8) G G G G G G (hz _ (by decide)) (WC.skip ?_)))))))))
 refine Sr (Mv (.func (.func g) #[] cs) G (Mv (U64 x) G (Mv (U64 y) G (WL.callV (fs := #[]) (cs := cs) G hcal G G (hcl _ (Mod.refl _ _) x y) ?_))))
 rintro _ wc ⟨rfl, ec⟩
 have E7 := Mt E4 ec
 refine Mv (U64 ((pc + 4#64))) G (An (U64 (F x y)) G (An (U64 ((pc + 4#64))) G (Ni (WC.ret ?_))))
 exact ⟨_, Res.two (v := U64 (F x y)) (v' := U64 ((pc + 4#64))) G G G, G, E7⟩
theorem do_1 (rd rs1 rs2 : BitVec 8) (imm pc x y : BitVec 64) (w : World) : CallsR Tryz.prog 53 #[.agg #[U8 (1#8), U8 rd, U8 rs1, U8 rs2, I64 imm], U64 pc, U64 x, U64 y] w (fun v w' => v = .tuple #[U64 imm, U64 (pc + 4#64)] ∧ Ext w w') := by
 refine callsR_of Tryz.func53 G G G ?_
 refine Sr (WL.box (v := .agg #[U8 (1#8), U8 rd, U8 rs1, U8 rs2, I64 imm]) G G ?_)
 intro b4 w4 n4
 have E1 : Ext w w4 := n4.ext
 refine An (U64 (0#64)) G (An (U64 (0#64)) G (Ni (Sr (Fa G fo48_4 (Lo G ag2 (n4.blk.cell (j := 4) G) (Cv G (ConvR.i64u64 Tryz.underlying2 Tryz.underlying39) (Mv (U64 pc) G (Bn (vy := U64 (4#64)) G G BinR.addU64 ?_))))))))
 refine An (U64 imm) G (An (U64 ((pc + 4#64))) G (Ni (Sq (Sr (Fa G fo48_0 (Lo G ag5 (n4.blk.cell (j := 0) G) (Mv (U64 x) G (Mv (U64 y) G ?_))))))))
 refine WL.call ca87 G G (jumps_z 1#8 (by decide) x y _) ?_
 rintro _ wj ⟨rfl, ej⟩
 have E2 := Mt E1 ej
 refine Mv (.tuple #[.bool false, .bool false]) G (Et G G (Et G G (An (.bool false) G (An (.bool false) G (Ni (Sr (Mv (.bool false) G (Ni ?_))))))))
 refine Cf G (WC.skip (Sq (Sr (Fa G fo48_0 ?_))))
 have B3 := n4.blk.ext ej
 refine Lo G ag5 (B3.cell (j := 0) G) (Ni (Bk (Sr (Bn (v := .bool true) (vy := U8 (1#8)) G G (BinR.toB BinR.eqlU8 (by decide)) (An (.bool true) G (Ni (Ct G (Sq ?_))))))))
 refine Rg (Mv (U64 imm) G (Mv (U64 ((pc + 4#64))) G (An (U64 imm) G (An (U64 ((pc + 4#64))) G (Ni (WC.ret ?_))))))
 exact ⟨_, Res.two (v := U64 imm) (v' := U64 ((pc + 4#64))) G G G, G, E2⟩
theorem do_2 (rd rs1 rs2 : BitVec 8) (imm pc x y : BitVec 64) (w : World) : CallsR Tryz.prog 53 #[.agg #[U8 (2#8), U8 rd, U8 rs1, U8 rs2, I64 imm], U64 pc, U64 x, U64 y] w (fun v w' => v = .tuple #[U64 (pc + imm), U64 (pc + 4#64)] ∧ Ext w w') := by
 refine callsR_of Tryz.func53 G G G ?_
 refine Sr (WL.box (v := .agg #[U8 (2#8), U8 rd, U8 rs1, U8 rs2, I64 imm]) G G ?_)
 intro b4 w4 n4
 have E1 : Ext w w4 := n4.ext
 refine An (U64 (0#64)) G (An (U64 (0#64)) G (Ni (Sr (Fa G fo48_4 (Lo G ag2 (n4.blk.cell (j := 4) G) (Cv G (ConvR.i64u64 Tryz.underlying2 Tryz.underlying39) (Mv (U64 pc) G (Bn (vy := U64 (4#64)) G G BinR.addU64 ?_))))))))
 refine An (U64 imm) G (An (U64 ((pc + 4#64))) G (Ni (Sq (Sr (Fa G fo48_0 (Lo G ag5 (n4.blk.cell (j := 0) G) (Mv (U64 x) G (Mv (U64 y) G ?_))))))))
 refine WL.call ca87 G G (jumps_z 2#8 (by decide) x y _) ?_
 rintro _ wj ⟨rfl, ej⟩
 have E2 := Mt E1 ej
 refine Mv (.tuple #[.bool false, .bool false]) G (Et G G (Et G G (An (.bool false) G (An (.bool false) G (Ni (Sr (Mv (.bool false) G (Ni ?_))))))))
 refine Cf G (WC.skip (Sq (Sr (Fa G fo48_0 ?_))))
 have B3 := n4.blk.ext ej
 refine Lo G ag5 (B3.cell (j := 0) G) (Ni (Bk (Sq (Nu 1 (Sr (Bn (v := .bool true) (vy := U8 (2#8)) G G (BinR.toB BinR.eqlU8 (by decide)) (An (.bool true) G (Ni ?_))))))))
 refine Ct G (Sr (Mv (U64 pc) G (Mv (U64 imm) G (Bn G G BinR.addU64 (Mv (U64 ((pc + 4#64))) G (An (U64 ((pc + imm))) G (An (U64 ((pc + 4#64))) G (Ni ?_))))))))
 refine WC.ret ?_
 exact ⟨_, Res.two (v := U64 ((pc + imm))) (v' := U64 ((pc + 4#64))) G G G, G, E2⟩
theorem do_3 (rd rs1 rs2 : BitVec 8) (imm pc x y : BitVec 64) (w : World) : CallsR Tryz.prog 53 #[.agg #[U8 (3#8), U8 rd, U8 rs1, U8 rs2, I64 imm], U64 pc, U64 x, U64 y] w (fun v w' => v = .tuple #[U64 (pc + 4#64), U64 (pc + imm)] ∧ Ext w w') := by
 refine callsR_of Tryz.func53 G G G ?_
 refine Sr (WL.box (v := .agg #[U8 (3#8), U8 rd, U8 rs1, U8 rs2, I64 imm]) G G ?_)
 intro b4 w4 n4
 have E1 : Ext w w4 := n4.ext
 refine An (U64 (0#64)) G (An (U64 (0#64)) G (Ni (Sr (Fa G fo48_4 (Lo G ag2 (n4.blk.cell (j := 4) G) (Cv G (ConvR.i64u64 Tryz.underlying2 Tryz.underlying39) (Mv (U64 pc) G (Bn (vy := U64 (4#64)) G G BinR.addU64 ?_))))))))
 refine An (U64 imm) G (An (U64 ((pc + 4#64))) G (Ni (Sq (Sr (Fa G fo48_0 (Lo G ag5 (n4.blk.cell (j := 0) G) (Mv (U64 x) G (Mv (U64 y) G ?_))))))))
 refine WL.call ca87 G G (jumps_z 3#8 (by decide) x y _) ?_
 rintro _ wj ⟨rfl, ej⟩
 have E2 := Mt E1 ej
 refine Mv (.tuple #[.bool false, .bool false]) G (Et G G (Et G G (An (.bool false) G (An (.bool false) G (Ni (Sr (Mv (.bool false) G (Ni ?_))))))))
 refine Cf G (WC.skip (Sq (Sr (Fa G fo48_0 ?_))))
 have B3 := n4.blk.ext ej
 refine Lo G ag5 (B3.cell (j := 0) G) (Ni (Bk (Sq (Nu 1 (Sq (Nu 2 (Sr (Bn (v := .bool true) (vy := U8 (3#8)) G G (BinR.toB BinR.eqlU8 (by decide)) ?_))))))))
 refine An (.bool true) G (Ni (Ct G (Sr (Mv (U64 ((pc + 4#64))) G (Mv (U64 pc) G (Mv (U64 imm) G (Bn G G BinR.addU64 (An (U64 ((pc + 4#64))) G ?_))))))))
 refine An (U64 ((pc + imm))) G (Ni (WC.ret ?_))
 exact ⟨_, Res.two (v := U64 ((pc + 4#64))) (v' := U64 ((pc + imm))) G G G, G, E2⟩
theorem do_4 (rd rs1 rs2 : BitVec 8) (imm pc x y : BitVec 64) (w : World) : CallsR Tryz.prog 53 #[.agg #[U8 (4#8), U8 rd, U8 rs1, U8 rs2, I64 imm], U64 pc, U64 x, U64 y] w (fun v w' => v = .tuple #[U64 (pc + 4#64), U64 ((x + imm) &&& ~~~1#64)] ∧ Ext w w') := by
 refine callsR_of Tryz.func53 G G G ?_
 refine Sr (WL.box (v := .agg #[U8 (4#8), U8 rd, U8 rs1, U8 rs2, I64 imm]) G G ?_)
 intro b4 w4 n4
 have E1 : Ext w w4 := n4.ext
 refine An (U64 (0#64)) G (An (U64 (0#64)) G (Ni (Sr (Fa G fo48_4 (Lo G ag2 (n4.blk.cell (j := 4) G) (Cv G (ConvR.i64u64 Tryz.underlying2 Tryz.underlying39) (Mv (U64 pc) G (Bn (vy := U64 (4#64)) G G BinR.addU64 ?_))))))))
 refine An (U64 imm) G (An (U64 ((pc + 4#64))) G (Ni (Sq (Sr (Fa G fo48_0 (Lo G ag5 (n4.blk.cell (j := 0) G) (Mv (U64 x) G (Mv (U64 y) G ?_))))))))
 refine WL.call ca87 G G (jumps_z 4#8 (by decide) x y _) ?_
 rintro _ wj ⟨rfl, ej⟩
 have E2 := Mt E1 ej
 refine Mv (.tuple #[.bool false, .bool false]) G (Et G G (Et G G (An (.bool false) G (An (.bool false) G (Ni (Sr (Mv (.bool false) G (Ni ?_))))))))
 refine Cf G (WC.skip (Sq (Sr (Fa G fo48_0 ?_))))
 have B3 := n4.blk.ext ej
 refine Lo G ag5 (B3.cell (j := 0) G) (Ni (Bk (Sq (Nu 1 (Sq (Nu 2 (Sq (Nu 3 (Sq ?_)))))))))
 refine Rg (Bn (v := .bool true) (vy := U8 (4#8)) G G (BinR.toB BinR.eqlU8 (by decide)) (An (.bool true) G (Ni (Ct G (Sr (Mv (U64 ((pc + 4#64))) G (Mv (U64 x) G (Mv (U64 imm) G ?_))))))))
 refine Bn G G BinR.addU64 (Bn (vy := U64 1#64) G G BinR.andNotU64 (An (U64 ((pc + 4#64))) G (An (U64 ((x + imm) &&& ~~~1#64)) G (Ni (WC.ret ?_)))))
 exact ⟨_, Res.two (v := U64 ((pc + 4#64))) (v' := U64 ((x + imm) &&& ~~~1#64)) G G G, G, E2⟩
theorem do_5 (rd rs1 rs2 : BitVec 8) (imm pc x y : BitVec 64) (w : World) : CallsR Tryz.prog 53 #[.agg #[U8 (5#8), U8 rd, U8 rs1, U8 rs2, I64 imm], U64 pc, U64 x, U64 y] w (fun v w' => v = .tuple #[U64 (0#64), U64 (if (x == y) then pc + imm else pc + 4#64)] ∧ Ext w w') := by
 refine callsR_of Tryz.func53 G G G ?_
 refine Sr (WL.box (v := .agg #[U8 (5#8), U8 rd, U8 rs1, U8 rs2, I64 imm]) G G ?_)
 intro b4 w4 n4
 have E1 : Ext w w4 := n4.ext
 refine An (U64 (0#64)) G (An (U64 (0#64)) G (Ni (Sr (Fa G fo48_4 (Lo G ag2 (n4.blk.cell (j := 4) G) (Cv G (ConvR.i64u64 Tryz.underlying2 Tryz.underlying39) (Mv (U64 pc) G (Bn (vy := U64 (4#64)) G G BinR.addU64 ?_))))))))
 refine An (U64 imm) G (An (U64 ((pc + 4#64))) G (Ni (Sq (Sr (Fa G fo48_0 (Lo G ag5 (n4.blk.cell (j := 0) G) (Mv (U64 x) G (Mv (U64 y) G ?_))))))))
 refine WL.call ca87 G G (jumps_5 x y _) ?_
 rintro _ wj ⟨rfl, ej⟩
 have E2 := Mt E1 ej
 refine Mv (.tuple #[.bool ((x == y)), .bool true]) G (Et G G (Et G G (An (.bool ((x == y))) G (An (.bool true) G (Ni (Sr (Mv (.bool true) G (Ni ?_))))))))
 refine Ct G (Sq (Sr (Mv (.bool ((x == y))) G (Ni ?_))))
 refine WC.cond G (fun hc29 => ?_) (fun hc29 => ?_)
 ·refine Rg (Mv (U64 pc) G (Mv (U64 imm) G (Bn G G BinR.addU64 (An (U64 ((pc + imm))) G (Ni (Sr (Mv (U64 ((pc + imm))) G (An (U64 (0#64)) G ?_))))))))
  refine An (U64 ((pc + imm))) G (Ni (WC.ret ?_))
  exact ⟨_, Res.two (v := U64 (0#64)) (v' := U64 ((pc + imm))) G G G, (by rw [hc29]; rfl), E2⟩
 ·refine WC.skip (Sr (Mv (U64 ((pc + 4#64))) G (An (U64 (0#64)) G (An (U64 ((pc + 4#64))) G (Ni (WC.ret ?_))))))
  exact ⟨_, Res.two (v := U64 (0#64)) (v' := U64 ((pc + 4#64))) G G G, (by rw [hc29]; rfl), E2⟩
theorem do_6 (rd rs1 rs2 : BitVec 8) (imm pc x y : BitVec 64) (w : World) : CallsR Tryz.prog 53 #[.agg #[U8 (6#8), U8 rd, U8 rs1, U8 rs2, I64 imm], U64 pc, U64 x, U64 y] w (fun v w' => v = .tuple #[U64 (0#64), U64 (if (x != y) then pc + imm else pc + 4#64)] ∧ Ext w w') := by
 refine callsR_of Tryz.func53 G G G ?_
 refine Sr (WL.box (v := .agg #[U8 (6#8), U8 rd, U8 rs1, U8 rs2, I64 imm]) G G ?_)
 intro b4 w4 n4
 have E1 : Ext w w4 := n4.ext
 refine An (U64 (0#64)) G (An (U64 (0#64)) G (Ni (Sr (Fa G fo48_4 (Lo G ag2 (n4.blk.cell (j := 4) G) (Cv G (ConvR.i64u64 Tryz.underlying2 Tryz.underlying39) (Mv (U64 pc) G (Bn (vy := U64 (4#64)) G G BinR.addU64 ?_))))))))
 refine An (U64 imm) G (An (U64 ((pc + 4#64))) G (Ni (Sq (Sr (Fa G fo48_0 (Lo G ag5 (n4.blk.cell (j := 0) G) (Mv (U64 x) G (Mv (U64 y) G ?_))))))))
 refine WL.call ca87 G G (jumps_6 x y _) ?_
 rintro _ wj ⟨rfl, ej⟩
 have E2 := Mt E1 ej
 refine Mv (.tuple #[.bool ((x != y)), .bool true]) G (Et G G (Et G G (An (.bool ((x != y))) G (An (.bool true) G (Ni (Sr (Mv (.bool true) G (Ni ?_))))))))
 refine Ct G (Sq (Sr (Mv (.bool ((x != y))) G (Ni ?_))))
 refine WC.cond G (fun hc29 => ?_) (fun hc29 => ?_)
 ·refine Rg (Mv (U64 pc) G (Mv (U64 imm) G (Bn G G BinR.addU64 (An (U64 ((pc + imm))) G (Ni (Sr (Mv (U64 ((pc + imm))) G (An (U64 (0#64)) G ?_))))))))
  refine An (U64 ((pc + imm))) G (Ni (WC.ret ?_))
  exact ⟨_, Res.two (v := U64 (0#64)) (v' := U64 ((pc + imm))) G G G, (by rw [hc29]; rfl), E2⟩
 ·refine WC.skip (Sr (Mv (U64 ((pc + 4#64))) G (An (U64 (0#64)) G (An (U64 ((pc + 4#64))) G (Ni (WC.ret ?_))))))
  exact ⟨_, Res.two (v := U64 (0#64)) (v' := U64 ((pc + 4#64))) G G G, (by rw [hc29]; rfl), E2⟩
theorem do_7 (rd rs1 rs2 : BitVec 8) (imm pc x y : BitVec 64) (w : World) : CallsR Tryz.prog 53 #[.agg #[U8 (7#8), U8 rd, U8 rs1, U8 rs2, I64 imm], U64 pc, U64 x, U64 y] w (fun v w' => v = .tuple #[U64 (0#64), U64 (if BitVec.slt x y then pc + imm else pc + 4#64)] ∧ Ext w w') := by
 refine callsR_of Tryz.func53 G G G ?_
 refine Sr (WL.box (v := .agg #[U8 (7#8), U8 rd, U8 rs1, U8 rs2, I64 imm]) G G ?_)
 intro b4 w4 n4
 have E1 : Ext w w4 := n4.ext
 refine An (U64 (0#64)) G (An (U64 (0#64)) G (Ni (Sr (Fa G fo48_4 (Lo G ag2 (n4.blk.cell (j := 4) G) (Cv G (ConvR.i64u64 Tryz.underlying2 Tryz.underlying39) (Mv (U64 pc) G (Bn (vy := U64 (4#64)) G G BinR.addU64 ?_))))))))
 refine An (U64 imm) G (An (U64 ((pc + 4#64))) G (Ni (Sq (Sr (Fa G fo48_0 (Lo G ag5 (n4.blk.cell (j := 0) G) (Mv (U64 x) G (Mv (U64 y) G ?_))))))))
 refine WL.call ca87 G G (jumps_7 x y _) ?_
 rintro _ wj ⟨rfl, ej⟩
 have E2 := Mt E1 ej
 refine Mv (.tuple #[.bool (BitVec.slt x y), .bool true]) G (Et G G (Et G G (An (.bool (BitVec.slt x y)) G (An (.bool true) G (Ni (Sr (Mv (.bool true) G (Ni ?_))))))))
 refine Ct G (Sq (Sr (Mv (.bool (BitVec.slt x y)) G (Ni ?_))))
 refine WC.cond G (fun hc29 => ?_) (fun hc29 => ?_)
 ·refine Rg (Mv (U64 pc) G (Mv (U64 imm) G (Bn G G BinR.addU64 (An (U64 ((pc + imm))) G (Ni (Sr (Mv (U64 ((pc + imm))) G (An (U64 (0#64)) G ?_))))))))
  refine An (U64 ((pc + imm))) G (Ni (WC.ret ?_))
  exact ⟨_, Res.two (v := U64 (0#64)) (v' := U64 ((pc + imm))) G G G, (by rw [hc29]; rfl), E2⟩
 ·refine WC.skip (Sr (Mv (U64 ((pc + 4#64))) G (An (U64 (0#64)) G (An (U64 ((pc + 4#64))) G (Ni (WC.ret ?_))))))
  exact ⟨_, Res.two (v := U64 (0#64)) (v' := U64 ((pc + 4#64))) G G G, (by rw [hc29]; rfl), E2⟩
theorem do_8 (rd rs1 rs2 : BitVec 8) (imm pc x y : BitVec 64) (w : World) : CallsR Tryz.prog 53 #[.agg #[U8 (8#8), U8 rd, U8 rs1, U8 rs2, I64 imm], U64 pc, U64 x, U64 y] w (fun v w' => v = .tuple #[U64 (0#64), U64 (if BitVec.sle y x then pc + imm else pc + 4#64)] ∧ Ext w w') := by
 refine callsR_of Tryz.func53 G G G ?_
 refine Sr (WL.box (v := .agg #[U8 (8#8), U8 rd, U8 rs1, U8 rs2, I64 imm]) G G ?_)
 intro b4 w4 n4
 have E1 : Ext w w4 := n4.ext
 refine An (U64 (0#64)) G (An (U64 (0#64)) G (Ni (Sr (Fa G fo48_4 (Lo G ag2 (n4.blk.cell (j := 4) G) (Cv G (ConvR.i64u64 Tryz.underlying2 Tryz.underlying39) (Mv (U64 pc) G (Bn (vy := U64 (4#64)) G G BinR.addU64 ?_))))))))
 refine An (U64 imm) G (An (U64 ((pc + 4#64))) G (Ni (Sq (Sr (Fa G fo48_0 (Lo G ag5 (n4.blk.cell (j := 0) G) (Mv (U64 x) G (Mv (U64 y) G ?_))))))))
 refine WL.call ca87 G G (jumps_8 x y _) ?_
 rintro _ wj ⟨rfl, ej⟩
 have E2 := Mt E1 ej
 refine Mv (.tuple #[.bool (BitVec.sle y x), .bool true]) G (Et G G (Et G G (An (.bool (BitVec.sle y x)) G (An (.bool true) G (Ni (Sr (Mv (.bool true) G (Ni ?_))))))))
 refine Ct G (Sq (Sr (Mv (.bool (BitVec.sle y x)) G (Ni ?_))))
 refine WC.cond G (fun hc29 => ?_) (fun hc29 => ?_)
 ·refine Rg (Mv (U64 pc) G (Mv (U64 imm) G (Bn G G BinR.addU64 (An (U64 ((pc + imm))) G (Ni (Sr (Mv (U64 ((pc + imm))) G (An (U64 (0#64)) G ?_))))))))
  refine An (U64 ((pc + imm))) G (Ni (WC.ret ?_))
  exact ⟨_, Res.two (v := U64 (0#64)) (v' := U64 ((pc + imm))) G G G, (by rw [hc29]; rfl), E2⟩
 ·refine WC.skip (Sr (Mv (U64 ((pc + 4#64))) G (An (U64 (0#64)) G (An (U64 ((pc + 4#64))) G (Ni (WC.ret ?_))))))
  exact ⟨_, Res.two (v := U64 (0#64)) (v' := U64 ((pc + 4#64))) G G G, (by rw [hc29]; rfl), E2⟩
theorem do_9 (rd rs1 rs2 : BitVec 8) (imm pc x y : BitVec 64) (w : World) : CallsR Tryz.prog 53 #[.agg #[U8 (9#8), U8 rd, U8 rs1, U8 rs2, I64 imm], U64 pc, U64 x, U64 y] w (fun v w' => v = .tuple #[U64 (0#64), U64 (if BitVec.ult x y then pc + imm else pc + 4#64)] ∧ Ext w w') := by
 refine callsR_of Tryz.func53 G G G ?_
 refine Sr (WL.box (v := .agg #[U8 (9#8), U8 rd, U8 rs1, U8 rs2, I64 imm]) G G ?_)
 intro b4 w4 n4
 have E1 : Ext w w4 := n4.ext
 refine An (U64 (0#64)) G (An (U64 (0#64)) G (Ni (Sr (Fa G fo48_4 (Lo G ag2 (n4.blk.cell (j := 4) G) (Cv G (ConvR.i64u64 Tryz.underlying2 Tryz.underlying39) (Mv (U64 pc) G (Bn (vy := U64 (4#64)) G G BinR.addU64 ?_))))))))
 refine An (U64 imm) G (An (U64 ((pc + 4#64))) G (Ni (Sq (Sr (Fa G fo48_0 (Lo G ag5 (n4.blk.cell (j := 0) G) (Mv (U64 x) G (Mv (U64 y) G ?_))))))))
 refine WL.call ca87 G G (jumps_9 x y _) ?_
 rintro _ wj ⟨rfl, ej⟩
 have E2 := Mt E1 ej
 refine Mv (.tuple #[.bool (BitVec.ult x y), .bool true]) G (Et G G (Et G G (An (.bool (BitVec.ult x y)) G (An (.bool true) G (Ni (Sr (Mv (.bool true) G (Ni ?_))))))))
 refine Ct G (Sq (Sr (Mv (.bool (BitVec.ult x y)) G (Ni ?_))))
 refine WC.cond G (fun hc29 => ?_) (fun hc29 => ?_)
 ·refine Rg (Mv (U64 pc) G (Mv (U64 imm) G (Bn G G BinR.addU64 (An (U64 ((pc + imm))) G (Ni (Sr (Mv (U64 ((pc + imm))) G (An (U64 (0#64)) G ?_))))))))
  refine An (U64 ((pc + imm))) G (Ni (WC.ret ?_))
  exact ⟨_, Res.two (v := U64 (0#64)) (v' := U64 ((pc + imm))) G G G, (by rw [hc29]; rfl), E2⟩
 ·refine WC.skip (Sr (Mv (U64 ((pc + 4#64))) G (An (U64 (0#64)) G (An (U64 ((pc + 4#64))) G (Ni (WC.ret ?_))))))
  exact ⟨_, Res.two (v := U64 (0#64)) (v' := U64 ((pc + 4#64))) G G G, (by rw [hc29]; rfl), E2⟩
theorem do_10 (rd rs1 rs2 : BitVec 8) (imm pc x y : BitVec 64) (w : World) : CallsR Tryz.prog 53 #[.agg #[U8 (10#8), U8 rd, U8 rs1, U8 rs2, I64 imm], U64 pc, U64 x, U64 y] w (fun v w' => v = .tuple #[U64 (0#64), U64 (if BitVec.ule y x then pc + imm else pc + 4#64)] ∧ Ext w w') := by
 refine callsR_of Tryz.func53 G G G ?_
 refine Sr (WL.box (v := .agg #[U8 (10#8), U8 rd, U8 rs1, U8 rs2, I64 imm]) G G ?_)
 intro b4 w4 n4
 have E1 : Ext w w4 := n4.ext
 refine An (U64 (0#64)) G (An (U64 (0#64)) G (Ni (Sr (Fa G fo48_4 (Lo G ag2 (n4.blk.cell (j := 4) G) (Cv G (ConvR.i64u64 Tryz.underlying2 Tryz.underlying39) (Mv (U64 pc) G (Bn (vy := U64 (4#64)) G G BinR.addU64 ?_))))))))
 refine An (U64 imm) G (An (U64 ((pc + 4#64))) G (Ni (Sq (Sr (Fa G fo48_0 (Lo G ag5 (n4.blk.cell (j := 0) G) (Mv (U64 x) G (Mv (U64 y) G ?_))))))))
 refine WL.call ca87 G G (jumps_10 x y _) ?_
 rintro _ wj ⟨rfl, ej⟩
 have E2 := Mt E1 ej
 refine Mv (.tuple #[.bool (BitVec.ule y x), .bool true]) G (Et G G (Et G G (An (.bool (BitVec.ule y x)) G (An (.bool true) G (Ni (Sr (Mv (.bool true) G (Ni ?_))))))))
 refine Ct G (Sq (Sr (Mv (.bool (BitVec.ule y x)) G (Ni ?_))))
 refine WC.cond G (fun hc29 => ?_) (fun hc29 => ?_)
 ·refine Rg (Mv (U64 pc) G (Mv (U64 imm) G (Bn G G BinR.addU64 (An (U64 ((pc + imm))) G (Ni (Sr (Mv (U64 ((pc + imm))) G (An (U64 (0#64)) G ?_))))))))
  refine An (U64 ((pc + imm))) G (Ni (WC.ret ?_))
  exact ⟨_, Res.two (v := U64 (0#64)) (v' := U64 ((pc + imm))) G G G, (by rw [hc29]; rfl), E2⟩
 ·refine WC.skip (Sr (Mv (U64 ((pc + 4#64))) G (An (U64 (0#64)) G (An (U64 ((pc + 4#64))) G (Ni (WC.ret ?_))))))
  exact ⟨_, Res.two (v := U64 (0#64)) (v' := U64 ((pc + 4#64))) G G G, (by rw [hc29]; rfl), E2⟩
theorem do_22 (rd rs1 rs2 : BitVec 8) (imm pc x y : BitVec 64) (w : World) : CallsR Tryz.prog 53 #[.agg #[U8 (22#8), U8 rd, U8 rs1, U8 rs2, I64 imm], U64 pc, U64 x, U64 y] w (fun v w' => v = .tuple #[U64 ((fun x y => x + y) x imm), U64 (pc + 4#64)] ∧ Ext w w') := by
 refine callsR_of Tryz.func53 G G G ?_
 refine Sr (WL.box (v := .agg #[U8 (22#8), U8 rd, U8 rs1, U8 rs2, I64 imm]) G G ?_)
 intro b4 w4 n4
 have E1 : Ext w w4 := n4.ext
 refine An (U64 (0#64)) G (An (U64 (0#64)) G (Ni (Sr (Fa G fo48_4 (Lo G ag2 (n4.blk.cell (j := 4) G) (Cv G (ConvR.i64u64 Tryz.underlying2 Tryz.underlying39) (Mv (U64 pc) G (Bn (vy := U64 (4#64)) G G BinR.addU64 ?_))))))))
 refine An (U64 imm) G (An (U64 ((pc + 4#64))) G (Ni (Sq (Sr (Fa G fo48_0 (Lo G ag5 (n4.blk.cell (j := 0) G) (Mv (U64 x) G (Mv (U64 y) G ?_))))))))
 refine WL.call ca87 G G (jumps_z 22#8 (by decide) x y _) ?_
 rintro _ wj ⟨rfl, ej⟩
 have E2 := Mt E1 ej
 refine Mv (.tuple #[.bool false, .bool false]) G (Et G G (Et G G (An (.bool false) G (An (.bool false) G (Ni (Sr (Mv (.bool false) G (Ni ?_))))))))
 refine Cf G (WC.skip (Sq (Sr (Fa G fo48_0 ?_))))
 have B3 := n4.blk.ext ej
 refine Lo G ag5 (B3.cell (j := 0) G) (Ni (Bk (Sq (Nu 1 (Sq (Nu 2 (Sq (Nu 3 (Sq ?_)))))))))
 refine Nu 4 (WC.skip (Sr (Fa G fo48_0 (Lo G ag5 (B3.cell (j := 0) G) (WL.call ca88 G G (reckons_22 _) ?_)))))
 rintro _ wr ⟨⟨g, cs, rfl, hcal, hcl⟩, er⟩
 have E4 := Mt E2 er
 refine An (.func (.func g) #[] cs) G (Ni (Sq (Sr (Mv (.func (.func g) #[] cs) G (Bn G G (BinR.eqlFnil Tryz.underlying178) (Ni (Cf G (WC.skip ?_))))))))
 refine Sq (Sr (Fa G fo48_0 ?_))
 have B5 := B3.ext er
 refine Lo G ag5 (B5.cell (j := 0) G) (Ni (Bk (Sq (Sr (Bn (v := .bool true) (vy := U8 (22#8)) G G (BinR.toB BinR.eqlU8 (by decide)) (An (.bool true) G (Ni (Ct G ?_))))))))
 refine WC.skip (Ct G (Rg (Mv (U64 imm) G (An (U64 imm) G (Ni (Sr (Mv (.func (.func g) #[] cs) G (Mv (U64 x) G ?_))))))))
 refine Mv (U64 imm) G (WL.callV (fs := #[]) (cs := cs) G hcal G G (hcl _ (Mod.refl _ _) x imm) ?_)
 rintro _ wc ⟨rfl, ec⟩
 have E7 := Mt E4 ec
 refine Mv (U64 ((pc + 4#64))) G (An (U64 ((fun x y => x + y) x imm)) G (An (U64 ((pc + 4#64))) G (Ni (WC.ret ?_))))
 exact ⟨_, Res.two (v := U64 ((fun x y => x + y) x imm)) (v' := U64 ((pc + 4#64))) G G G, G, E7⟩
theorem do_23 (rd rs1 rs2 : BitVec 8) (imm pc x y : BitVec 64) (w : World) : CallsR Tryz.prog 53 #[.agg #[U8 (23#8), U8 rd, U8 rs1, U8 rs2, I64 imm], U64 pc, U64 x, U64 y] w (fun v w' => v = .tuple #[U64 ((fun x y => bitW (BitVec.slt x y)) x imm), U64 (pc + 4#64)] ∧ Ext w w') := by
 refine callsR_of Tryz.func53 G G G ?_
 refine Sr (WL.box (v := .agg #[U8 (23#8), U8 rd, U8 rs1, U8 rs2, I64 imm]) G G ?_)
 intro b4 w4 n4
 have E1 : Ext w w4 := n4.ext
 refine An (U64 (0#64)) G (An (U64 (0#64)) G (Ni (Sr (Fa G fo48_4 (Lo G ag2 (n4.blk.cell (j := 4) G) (Cv G (ConvR.i64u64 Tryz.underlying2 Tryz.underlying39) (Mv (U64 pc) G (Bn (vy := U64 (4#64)) G G BinR.addU64 ?_))))))))
 refine An (U64 imm) G (An (U64 ((pc + 4#64))) G (Ni (Sq (Sr (Fa G fo48_0 (Lo G ag5 (n4.blk.cell (j := 0) G) (Mv (U64 x) G (Mv (U64 y) G ?_))))))))
 refine WL.call ca87 G G (jumps_z 23#8 (by decide) x y _) ?_
 rintro _ wj ⟨rfl, ej⟩
 have E2 := Mt E1 ej
 refine Mv (.tuple #[.bool false, .bool false]) G (Et G G (Et G G (An (.bool false) G (An (.bool false) G (Ni (Sr (Mv (.bool false) G (Ni ?_))))))))
 refine Cf G (WC.skip (Sq (Sr (Fa G fo48_0 ?_))))
 have B3 := n4.blk.ext ej
 refine Lo G ag5 (B3.cell (j := 0) G) (Ni (Bk (Sq (Nu 1 (Sq (Nu 2 (Sq (Nu 3 (Sq ?_)))))))))
 refine Nu 4 (WC.skip (Sr (Fa G fo48_0 (Lo G ag5 (B3.cell (j := 0) G) (WL.call ca88 G G (reckons_23 _) ?_)))))
 rintro _ wr ⟨⟨g, cs, rfl, hcal, hcl⟩, er⟩
 have E4 := Mt E2 er
 refine An (.func (.func g) #[] cs) G (Ni (Sq (Sr (Mv (.func (.func g) #[] cs) G (Bn G G (BinR.eqlFnil Tryz.underlying178) (Ni (Cf G (WC.skip ?_))))))))
 refine Sq (Sr (Fa G fo48_0 ?_))
 have B5 := B3.ext er
 refine Lo G ag5 (B5.cell (j := 0) G) (Ni (Bk (Sq (Sq (Nu 22 (Sr (Bn (v := .bool true) (vy := U8 (23#8)) G G (BinR.toB BinR.eqlU8 (by decide)) (An (.bool true) G ?_))))))))
 refine Ni (Ct G (WC.skip (Ct G (Rg (Mv (U64 imm) G (An (U64 imm) G (Ni (Sr ?_))))))))
 refine Mv (.func (.func g) #[] cs) G (Mv (U64 x) G (Mv (U64 imm) G (WL.callV (fs := #[]) (cs := cs) G hcal G G (hcl _ (Mod.refl _ _) x imm) ?_)))
 rintro _ wc ⟨rfl, ec⟩
 have E7 := Mt E4 ec
 refine Mv (U64 ((pc + 4#64))) G (An (U64 ((fun x y => bitW (BitVec.slt x y)) x imm)) G (An (U64 ((pc + 4#64))) G (Ni (WC.ret ?_))))
 exact ⟨_, Res.two (v := U64 ((fun x y => bitW (BitVec.slt x y)) x imm)) (v' := U64 ((pc + 4#64))) G G G, G, E7⟩
theorem do_24 (rd rs1 rs2 : BitVec 8) (imm pc x y : BitVec 64) (w : World) : CallsR Tryz.prog 53 #[.agg #[U8 (24#8), U8 rd, U8 rs1, U8 rs2, I64 imm], U64 pc, U64 x, U64 y] w (fun v w' => v = .tuple #[U64 ((fun x y => bitW (BitVec.ult x y)) x imm), U64 (pc + 4#64)] ∧ Ext w w') := by
 refine callsR_of Tryz.func53 G G G ?_
 refine Sr (WL.box (v := .agg #[U8 (24#8), U8 rd, U8 rs1, U8 rs2, I64 imm]) G G ?_)
 intro b4 w4 n4
 have E1 : Ext w w4 := n4.ext
 refine An (U64 (0#64)) G (An (U64 (0#64)) G (Ni (Sr (Fa G fo48_4 (Lo G ag2 (n4.blk.cell (j := 4) G) (Cv G (ConvR.i64u64 Tryz.underlying2 Tryz.underlying39) (Mv (U64 pc) G (Bn (vy := U64 (4#64)) G G BinR.addU64 ?_))))))))
 refine An (U64 imm) G (An (U64 ((pc + 4#64))) G (Ni (Sq (Sr (Fa G fo48_0 (Lo G ag5 (n4.blk.cell (j := 0) G) (Mv (U64 x) G (Mv (U64 y) G ?_))))))))
 refine WL.call ca87 G G (jumps_z 24#8 (by decide) x y _) ?_
 rintro _ wj ⟨rfl, ej⟩
 have E2 := Mt E1 ej
 refine Mv (.tuple #[.bool false, .bool false]) G (Et G G (Et G G (An (.bool false) G (An (.bool false) G (Ni (Sr (Mv (.bool false) G (Ni ?_))))))))
 refine Cf G (WC.skip (Sq (Sr (Fa G fo48_0 ?_))))
 have B3 := n4.blk.ext ej
 refine Lo G ag5 (B3.cell (j := 0) G) (Ni (Bk (Sq (Nu 1 (Sq (Nu 2 (Sq (Nu 3 (Sq ?_)))))))))
 refine Nu 4 (WC.skip (Sr (Fa G fo48_0 (Lo G ag5 (B3.cell (j := 0) G) (WL.call ca88 G G (reckons_24 _) ?_)))))
 rintro _ wr ⟨⟨g, cs, rfl, hcal, hcl⟩, er⟩
 have E4 := Mt E2 er
 refine An (.func (.func g) #[] cs) G (Ni (Sq (Sr (Mv (.func (.func g) #[] cs) G (Bn G G (BinR.eqlFnil Tryz.underlying178) (Ni (Cf G (WC.skip ?_))))))))
 refine Sq (Sr (Fa G fo48_0 ?_))
 have B5 := B3.ext er
 refine Lo G ag5 (B5.cell (j := 0) G) (Ni (Bk (Sq (Sq (Nu 22 (Sq (Nu 23 (Sr ?_))))))))
 refine Bn (v := .bool true) (vy := U8 (24#8)) G G (BinR.toB BinR.eqlU8 (by decide)) (An (.bool true) G (Ni (Ct G (WC.skip (Ct G (Rg (Mv (U64 imm) G (An (U64 imm) G (Ni ?_)))))))))
 refine Sr (Mv (.func (.func g) #[] cs) G (Mv (U64 x) G (Mv (U64 imm) G (WL.callV (fs := #[]) (cs := cs) G hcal G G (hcl _ (Mod.refl _ _) x imm) ?_))))
 rintro _ wc ⟨rfl, ec⟩
 have E7 := Mt E4 ec
 refine Mv (U64 ((pc + 4#64))) G (An (U64 ((fun x y => bitW (BitVec.ult x y)) x imm)) G (An (U64 ((pc + 4#64))) G (Ni (WC.ret ?_))))
 exact ⟨_, Res.two (v := U64 ((fun x y => bitW (BitVec.ult x y)) x imm)) (v' := U64 ((pc + 4#64))) G G G, G, E7⟩
theorem do_25 (rd rs1 rs2 : BitVec 8) (imm pc x y : BitVec 64) (w : World) : CallsR Tryz.prog 53 #[.agg #[U8 (25#8), U8 rd, U8 rs1, U8 rs2, I64 imm], U64 pc, U64 x, U64 y] w (fun v w' => v = .tuple #[U64 ((fun x y => x ^^^ y) x imm), U64 (pc + 4#64)] ∧ Ext w w') := by
 refine callsR_of Tryz.func53 G G G ?_
 refine Sr (WL.box (v := .agg #[U8 (25#8), U8 rd, U8 rs1, U8 rs2, I64 imm]) G G ?_)
 intro b4 w4 n4
 have E1 : Ext w w4 := n4.ext
 refine An (U64 (0#64)) G (An (U64 (0#64)) G (Ni (Sr (Fa G fo48_4 (Lo G ag2 (n4.blk.cell (j := 4) G) (Cv G (ConvR.i64u64 Tryz.underlying2 Tryz.underlying39) (Mv (U64 pc) G (Bn (vy := U64 (4#64)) G G BinR.addU64 ?_))))))))
 refine An (U64 imm) G (An (U64 ((pc + 4#64))) G (Ni (Sq (Sr (Fa G fo48_0 (Lo G ag5 (n4.blk.cell (j := 0) G) (Mv (U64 x) G (Mv (U64 y) G ?_))))))))
 refine WL.call ca87 G G (jumps_z 25#8 (by decide) x y _) ?_
 rintro _ wj ⟨rfl, ej⟩
 have E2 := Mt E1 ej
 refine Mv (.tuple #[.bool false, .bool false]) G (Et G G (Et G G (An (.bool false) G (An (.bool false) G (Ni (Sr (Mv (.bool false) G (Ni ?_))))))))
 refine Cf G (WC.skip (Sq (Sr (Fa G fo48_0 ?_))))
 have B3 := n4.blk.ext ej
 refine Lo G ag5 (B3.cell (j := 0) G) (Ni (Bk (Sq (Nu 1 (Sq (Nu 2 (Sq (Nu 3 (Sq ?_)))))))))
 refine Nu 4 (WC.skip (Sr (Fa G fo48_0 (Lo G ag5 (B3.cell (j := 0) G) (WL.call ca88 G G (reckons_25 _) ?_)))))
 rintro _ wr ⟨⟨g, cs, rfl, hcal, hcl⟩, er⟩
 have E4 := Mt E2 er
 refine An (.func (.func g) #[] cs) G (Ni (Sq (Sr (Mv (.func (.func g) #[] cs) G (Bn G G (BinR.eqlFnil Tryz.underlying178) (Ni (Cf G (WC.skip ?_))))))))
 refine Sq (Sr (Fa G fo48_0 ?_))
 have B5 := B3.ext er
 refine Lo G ag5 (B5.cell (j := 0) G) (Ni (Bk (Sq (Sq (Nu 22 (Sq (Nu 23 (Sq (Nu 24 ?_)))))))))
 refine Sr (Bn (v := .bool true) (vy := U8 (25#8)) G G (BinR.toB BinR.eqlU8 (by decide)) (An (.bool true) G (Ni (Ct G (WC.skip (Ct G (Rg (Mv (U64 imm) G ?_))))))))
 refine An (U64 imm) G (Ni (Sr (Mv (.func (.func g) #[] cs) G (Mv (U64 x) G (Mv (U64 imm) G (WL.callV (fs := #[]) (cs := cs) G hcal G G (hcl _ (Mod.refl _ _) x imm) ?_))))))
 rintro _ wc ⟨rfl, ec⟩
 have E7 := Mt E4 ec
 refine Mv (U64 ((pc + 4#64))) G (An (U64 ((fun x y => x ^^^ y) x imm)) G (An (U64 ((pc + 4#64))) G (Ni (WC.ret ?_))))
 exact ⟨_, Res.two (v := U64 ((fun x y => x ^^^ y) x imm)) (v' := U64 ((pc + 4#64))) G G G, G, E7⟩
theorem do_26 (rd rs1 rs2 : BitVec 8) (imm pc x y : BitVec 64) (w : World) : CallsR Tryz.prog 53 #[.agg #[U8 (26#8), U8 rd, U8 rs1, U8 rs2, I64 imm], U64 pc, U64 x, U64 y] w (fun v w' => v = .tuple #[U64 ((fun x y => x ||| y) x imm), U64 (pc + 4#64)] ∧ Ext w w') := by
 refine callsR_of Tryz.func53 G G G ?_
 refine Sr (WL.box (v := .agg #[U8 (26#8), U8 rd, U8 rs1, U8 rs2, I64 imm]) G G ?_)
 intro b4 w4 n4
 have E1 : Ext w w4 := n4.ext
 refine An (U64 (0#64)) G (An (U64 (0#64)) G (Ni (Sr (Fa G fo48_4 (Lo G ag2 (n4.blk.cell (j := 4) G) (Cv G (ConvR.i64u64 Tryz.underlying2 Tryz.underlying39) (Mv (U64 pc) G (Bn (vy := U64 (4#64)) G G BinR.addU64 ?_))))))))
 refine An (U64 imm) G (An (U64 ((pc + 4#64))) G (Ni (Sq (Sr (Fa G fo48_0 (Lo G ag5 (n4.blk.cell (j := 0) G) (Mv (U64 x) G (Mv (U64 y) G ?_))))))))
 refine WL.call ca87 G G (jumps_z 26#8 (by decide) x y _) ?_
 rintro _ wj ⟨rfl, ej⟩
 have E2 := Mt E1 ej
 refine Mv (.tuple #[.bool false, .bool false]) G (Et G G (Et G G (An (.bool false) G (An (.bool false) G (Ni (Sr (Mv (.bool false) G (Ni ?_))))))))
 refine Cf G (WC.skip (Sq (Sr (Fa G fo48_0 ?_))))
 have B3 := n4.blk.ext ej
 refine Lo G ag5 (B3.cell (j := 0) G) (Ni (Bk (Sq (Nu 1 (Sq (Nu 2 (Sq (Nu 3 (Sq ?_)))))))))
 refine Nu 4 (WC.skip (Sr (Fa G fo48_0 (Lo G ag5 (B3.cell (j := 0) G) (WL.call ca88 G G (reckons_26 _) ?_)))))
 rintro _ wr ⟨⟨g, cs, rfl, hcal, hcl⟩, er⟩
 have E4 := Mt E2 er
 refine An (.func (.func g) #[] cs) G (Ni (Sq (Sr (Mv (.func (.func g) #[] cs) G (Bn G G (BinR.eqlFnil Tryz.underlying178) (Ni (Cf G (WC.skip ?_))))))))
 refine Sq (Sr (Fa G fo48_0 ?_))
 have B5 := B3.ext er
 refine Lo G ag5 (B5.cell (j := 0) G) (Ni (Bk (Sq (Sq (Nu 22 (Sq (Nu 23 (Sq (Nu 24 ?_)))))))))
 refine Sq (Nu 25 (Sr (Bn (v := .bool true) (vy := U8 (26#8)) G G (BinR.toB BinR.eqlU8 (by decide)) (An (.bool true) G (Ni (Ct G (WC.skip (Ct G ?_))))))))
 refine Rg (Mv (U64 imm) G (An (U64 imm) G (Ni (Sr (Mv (.func (.func g) #[] cs) G (Mv (U64 x) G (Mv (U64 imm) G (WL.callV (fs := #[]) (cs := cs) G hcal G G (hcl _ (Mod.refl _ _) x imm) ?_))))))))
 rintro _ wc ⟨rfl, ec⟩
 have E7 := Mt E4 ec
 refine Mv (U64 ((pc + 4#64))) G (An (U64 ((fun x y => x ||| y) x imm)) G (An (U64 ((pc + 4#64))) G (Ni (WC.ret ?_))))
 exact ⟨_, Res.two (v := U64 ((fun x y => x ||| y) x imm)) (v' := U64 ((pc + 4#64))) G G G, G, E7⟩
theorem do_27 (rd rs1 rs2 : BitVec 8) (imm pc x y : BitVec 64) (w : World) : CallsR Tryz.prog 53 #[.agg #[U8 (27#8), U8 rd, U8 rs1, U8 rs2, I64 imm], U64 pc, U64 x, U64 y] w (fun v w' => v = .tuple #[U64 ((fun x y => x &&& y) x imm), U64 (pc + 4#64)] ∧ Ext w w') := by
 refine callsR_of Tryz.func53 G G G ?_
 refine Sr (WL.box (v := .agg #[U8 (27#8), U8 rd, U8 rs1, U8 rs2, I64 imm]) G G ?_)
 intro b4 w4 n4
 have E1 : Ext w w4 := n4.ext
 refine An (U64 (0#64)) G (An (U64 (0#64)) G (Ni (Sr (Fa G fo48_4 (Lo G ag2 (n4.blk.cell (j := 4) G) (Cv G (ConvR.i64u64 Tryz.underlying2 Tryz.underlying39) (Mv (U64 pc) G (Bn (vy := U64 (4#64)) G G BinR.addU64 ?_))))))))
 refine An (U64 imm) G (An (U64 ((pc + 4#64))) G (Ni (Sq (Sr (Fa G fo48_0 (Lo G ag5 (n4.blk.cell (j := 0) G) (Mv (U64 x) G (Mv (U64 y) G ?_))))))))
 refine WL.call ca87 G G (jumps_z 27#8 (by decide) x y _) ?_
 rintro _ wj ⟨rfl, ej⟩
 have E2 := Mt E1 ej
 refine Mv (.tuple #[.bool false, .bool false]) G (Et G G (Et G G (An (.bool false) G (An (.bool false) G (Ni (Sr (Mv (.bool false) G (Ni ?_))))))))
 refine Cf G (WC.skip (Sq (Sr (Fa G fo48_0 ?_))))
 have B3 := n4.blk.ext ej
 refine Lo G ag5 (B3.cell (j := 0) G) (Ni (Bk (Sq (Nu 1 (Sq (Nu 2 (Sq (Nu 3 (Sq ?_)))))))))
 refine Nu 4 (WC.skip (Sr (Fa G fo48_0 (Lo G ag5 (B3.cell (j := 0) G) (WL.call ca88 G G (reckons_27 _) ?_)))))
 rintro _ wr ⟨⟨g, cs, rfl, hcal, hcl⟩, er⟩
 have E4 := Mt E2 er
 refine An (.func (.func g) #[] cs) G (Ni (Sq (Sr (Mv (.func (.func g) #[] cs) G (Bn G G (BinR.eqlFnil Tryz.underlying178) (Ni (Cf G (WC.skip ?_))))))))
 refine Sq (Sr (Fa G fo48_0 ?_))
 have B5 := B3.ext er
 refine Lo G ag5 (B5.cell (j := 0) G) (Ni (Bk (Sq (Sq (Nu 22 (Sq (Nu 23 (Sq (Nu 24 ?_)))))))))
 refine Sq (Nu 25 (Sq (Nu 26 (Sr (Bn (v := .bool true) (vy := U8 (27#8)) G G (BinR.toB BinR.eqlU8 (by decide)) (An (.bool true) G (Ni (Ct G ?_))))))))
 refine WC.skip (Ct G (Rg (Mv (U64 imm) G (An (U64 imm) G (Ni (Sr (Mv (.func (.func g) #[] cs) G (Mv (U64 x) G ?_))))))))
 refine Mv (U64 imm) G (WL.callV (fs := #[]) (cs := cs) G hcal G G (hcl _ (Mod.refl _ _) x imm) ?_)
 rintro _ wc ⟨rfl, ec⟩
 have E7 := Mt E4 ec
 refine Mv (U64 ((pc + 4#64))) G (An (U64 ((fun x y => x &&& y) x imm)) G (An (U64 ((pc + 4#64))) G (Ni (WC.ret ?_))))
 exact ⟨_, Res.two (v := U64 ((fun x y => x &&& y) x imm)) (v' := U64 ((pc + 4#64))) G G G, G, E7⟩
theorem do_28 (rd rs1 rs2 : BitVec 8) (imm pc x y : BitVec 64) (w : World) : CallsR Tryz.prog 53 #[.agg #[U8 (28#8), U8 rd, U8 rs1, U8 rs2, I64 imm], U64 pc, U64 x, U64 y] w (fun v w' => v = .tuple #[U64 (sllW x imm), U64 (pc + 4#64)] ∧ Ext w w') := by
 refine callsR_of Tryz.func53 G G G ?_
 refine Sr (WL.box (v := .agg #[U8 (28#8), U8 rd, U8 rs1, U8 rs2, I64 imm]) G G ?_)
 intro b4 w4 n4
 have E1 : Ext w w4 := n4.ext
 refine An (U64 (0#64)) G (An (U64 (0#64)) G (Ni (Sr (Fa G fo48_4 (Lo G ag2 (n4.blk.cell (j := 4) G) (Cv G (ConvR.i64u64 Tryz.underlying2 Tryz.underlying39) (Mv (U64 pc) G (Bn (vy := U64 (4#64)) G G BinR.addU64 ?_))))))))
 refine An (U64 imm) G (An (U64 ((pc + 4#64))) G (Ni (Sq (Sr (Fa G fo48_0 (Lo G ag5 (n4.blk.cell (j := 0) G) (Mv (U64 x) G (Mv (U64 y) G ?_))))))))
 refine WL.call ca87 G G (jumps_z 28#8 (by decide) x y _) ?_
 rintro _ wj ⟨rfl, ej⟩
 have E2 := Mt E1 ej
 refine Mv (.tuple #[.bool false, .bool false]) G (Et G G (Et G G (An (.bool false) G (An (.bool false) G (Ni (Sr (Mv (.bool false) G (Ni ?_))))))))
 refine Cf G (WC.skip (Sq (Sr (Fa G fo48_0 ?_))))
 have B3 := n4.blk.ext ej
 refine Lo G ag5 (B3.cell (j := 0) G) (Ni (Bk (Sq (Nu 1 (Sq (Nu 2 (Sq (Nu 3 (Sq ?_)))))))))
 refine Nu 4 (WC.skip (Sr (Fa G fo48_0 (Lo G ag5 (B3.cell (j := 0) G) (WL.call ca88 G G (reckons_28 _) ?_)))))
 rintro _ wr ⟨⟨g, cs, rfl, hcal, hcl⟩, er⟩
 have E4 := Mt E2 er
 refine An (.func (.func g) #[] cs) G (Ni (Sq (Sr (Mv (.func (.func g) #[] cs) G (Bn G G (BinR.eqlFnil Tryz.underlying178) (Ni (Cf G (WC.skip ?_))))))))
 refine Sq (Sr (Fa G fo48_0 ?_))
 have B5 := B3.ext er
 refine Lo G ag5 (B5.cell (j := 0) G) (Ni (Bk (Sq (Sq (Nu 22 (Sq (Nu 23 (Sq (Nu 24 ?_)))))))))
 refine Sq (Nu 25 (Sq (Nu 26 (Sq (Nu 27 (Sr (Bn (v := .bool true) (vy := U8 (28#8)) G G (BinR.toB BinR.eqlU8 (by decide)) (An (.bool true) G ?_))))))))
 refine Ni (Ct G (WC.skip (Ct G (Rg (Mv (U64 imm) G (An (U64 imm) G (Ni (Sr ?_))))))))
 refine Mv (.func (.func g) #[] cs) G (Mv (U64 x) G (Mv (U64 imm) G (WL.callV (fs := #[]) (cs := cs) G hcal G G (hcl _ (Mod.refl _ _) x imm) ?_)))
 rintro _ wc ⟨rfl, ec⟩
 have E7 := Mt E4 ec
 refine Mv (U64 ((pc + 4#64))) G (An (U64 (sllW x imm)) G (An (U64 ((pc + 4#64))) G (Ni (WC.ret ?_))))
 exact ⟨_, Res.two (v := U64 (sllW x imm)) (v' := U64 ((pc + 4#64))) G G G, G, E7⟩
theorem do_29 (rd rs1 rs2 : BitVec 8) (imm pc x y : BitVec 64) (w : World) : CallsR Tryz.prog 53 #[.agg #[U8 (29#8), U8 rd, U8 rs1, U8 rs2, I64 imm], U64 pc, U64 x, U64 y] w (fun v w' => v = .tuple #[U64 (srlW x imm), U64 (pc + 4#64)] ∧ Ext w w') := by
 refine callsR_of Tryz.func53 G G G ?_
 refine Sr (WL.box (v := .agg #[U8 (29#8), U8 rd, U8 rs1, U8 rs2, I64 imm]) G G ?_)
 intro b4 w4 n4
 have E1 : Ext w w4 := n4.ext
 refine An (U64 (0#64)) G (An (U64 (0#64)) G (Ni (Sr (Fa G fo48_4 (Lo G ag2 (n4.blk.cell (j := 4) G) (Cv G (ConvR.i64u64 Tryz.underlying2 Tryz.underlying39) (Mv (U64 pc) G (Bn (vy := U64 (4#64)) G G BinR.addU64 ?_))))))))
 refine An (U64 imm) G (An (U64 ((pc + 4#64))) G (Ni (Sq (Sr (Fa G fo48_0 (Lo G ag5 (n4.blk.cell (j := 0) G) (Mv (U64 x) G (Mv (U64 y) G ?_))))))))
 refine WL.call ca87 G G (jumps_z 29#8 (by decide) x y _) ?_
 rintro _ wj ⟨rfl, ej⟩
 have E2 := Mt E1 ej
 refine Mv (.tuple #[.bool false, .bool false]) G (Et G G (Et G G (An (.bool false) G (An (.bool false) G (Ni (Sr (Mv (.bool false) G (Ni ?_))))))))
 refine Cf G (WC.skip (Sq (Sr (Fa G fo48_0 ?_))))
 have B3 := n4.blk.ext ej
 refine Lo G ag5 (B3.cell (j := 0) G) (Ni (Bk (Sq (Nu 1 (Sq (Nu 2 (Sq (Nu 3 (Sq ?_)))))))))
 refine Nu 4 (WC.skip (Sr (Fa G fo48_0 (Lo G ag5 (B3.cell (j := 0) G) (WL.call ca88 G G (reckons_29 _) ?_)))))
 rintro _ wr ⟨⟨g, cs, rfl, hcal, hcl⟩, er⟩
 have E4 := Mt E2 er
 refine An (.func (.func g) #[] cs) G (Ni (Sq (Sr (Mv (.func (.func g) #[] cs) G (Bn G G (BinR.eqlFnil Tryz.underlying178) (Ni (Cf G (WC.skip ?_))))))))
 refine Sq (Sr (Fa G fo48_0 ?_))
 have B5 := B3.ext er
 refine Lo G ag5 (B5.cell (j := 0) G) (Ni (Bk (Sq (Sq (Nu 22 (Sq (Nu 23 (Sq (Nu 24 ?_)))))))))
 refine Sq (Nu 25 (Sq (Nu 26 (Sq (Nu 27 (Sq (Nu 28 (Sr ?_))))))))
 refine Bn (v := .bool true) (vy := U8 (29#8)) G G (BinR.toB BinR.eqlU8 (by decide)) (An (.bool true) G (Ni (Ct G (WC.skip (Ct G (Rg (Mv (U64 imm) G (An (U64 imm) G (Ni ?_)))))))))
 refine Sr (Mv (.func (.func g) #[] cs) G (Mv (U64 x) G (Mv (U64 imm) G (WL.callV (fs := #[]) (cs := cs) G hcal G G (hcl _ (Mod.refl _ _) x imm) ?_))))
 rintro _ wc ⟨rfl, ec⟩
 have E7 := Mt E4 ec
 refine Mv (U64 ((pc + 4#64))) G (An (U64 (srlW x imm)) G (An (U64 ((pc + 4#64))) G (Ni (WC.ret ?_))))
 exact ⟨_, Res.two (v := U64 (srlW x imm)) (v' := U64 ((pc + 4#64))) G G G, G, E7⟩
theorem do_30 (rd rs1 rs2 : BitVec 8) (imm pc x y : BitVec 64) (w : World) : CallsR Tryz.prog 53 #[.agg #[U8 (30#8), U8 rd, U8 rs1, U8 rs2, I64 imm], U64 pc, U64 x, U64 y] w (fun v w' => v = .tuple #[U64 (sraW x imm), U64 (pc + 4#64)] ∧ Ext w w') := by
 refine callsR_of Tryz.func53 G G G ?_
 refine Sr (WL.box (v := .agg #[U8 (30#8), U8 rd, U8 rs1, U8 rs2, I64 imm]) G G ?_)
 intro b4 w4 n4
 have E1 : Ext w w4 := n4.ext
 refine An (U64 (0#64)) G (An (U64 (0#64)) G (Ni (Sr (Fa G fo48_4 (Lo G ag2 (n4.blk.cell (j := 4) G) (Cv G (ConvR.i64u64 Tryz.underlying2 Tryz.underlying39) (Mv (U64 pc) G (Bn (vy := U64 (4#64)) G G BinR.addU64 ?_))))))))
 refine An (U64 imm) G (An (U64 ((pc + 4#64))) G (Ni (Sq (Sr (Fa G fo48_0 (Lo G ag5 (n4.blk.cell (j := 0) G) (Mv (U64 x) G (Mv (U64 y) G ?_))))))))
 refine WL.call ca87 G G (jumps_z 30#8 (by decide) x y _) ?_
 rintro _ wj ⟨rfl, ej⟩
 have E2 := Mt E1 ej
 refine Mv (.tuple #[.bool false, .bool false]) G (Et G G (Et G G (An (.bool false) G (An (.bool false) G (Ni (Sr (Mv (.bool false) G (Ni ?_))))))))
 refine Cf G (WC.skip (Sq (Sr (Fa G fo48_0 ?_))))
 have B3 := n4.blk.ext ej
 refine Lo G ag5 (B3.cell (j := 0) G) (Ni (Bk (Sq (Nu 1 (Sq (Nu 2 (Sq (Nu 3 (Sq ?_)))))))))
 refine Nu 4 (WC.skip (Sr (Fa G fo48_0 (Lo G ag5 (B3.cell (j := 0) G) (WL.call ca88 G G (reckons_30 _) ?_)))))
 rintro _ wr ⟨⟨g, cs, rfl, hcal, hcl⟩, er⟩
 have E4 := Mt E2 er
 refine An (.func (.func g) #[] cs) G (Ni (Sq (Sr (Mv (.func (.func g) #[] cs) G (Bn G G (BinR.eqlFnil Tryz.underlying178) (Ni (Cf G (WC.skip ?_))))))))
 refine Sq (Sr (Fa G fo48_0 ?_))
 have B5 := B3.ext er
 refine Lo G ag5 (B5.cell (j := 0) G) (Ni (Bk (Sq (Sq (Nu 22 (Sq (Nu 23 (Sq (Nu 24 ?_)))))))))
 refine Sq (Nu 25 (Sq (Nu 26 (Sq (Nu 27 (Sq (Nu 28 (Sq (Nu 29 ?_)))))))))
 refine Sr (Bn (v := .bool true) (vy := U8 (30#8)) G G (BinR.toB BinR.eqlU8 (by decide)) (An (.bool true) G (Ni (Ct G (WC.skip (Ct G (Rg (Mv (U64 imm) G ?_))))))))
 refine An (U64 imm) G (Ni (Sr (Mv (.func (.func g) #[] cs) G (Mv (U64 x) G (Mv (U64 imm) G (WL.callV (fs := #[]) (cs := cs) G hcal G G (hcl _ (Mod.refl _ _) x imm) ?_))))))
 rintro _ wc ⟨rfl, ec⟩
 have E7 := Mt E4 ec
 refine Mv (U64 ((pc + 4#64))) G (An (U64 (sraW x imm)) G (An (U64 ((pc + 4#64))) G (Ni (WC.ret ?_))))
 exact ⟨_, Res.two (v := U64 (sraW x imm)) (v' := U64 ((pc + 4#64))) G G G, G, E7⟩
theorem do_41 (rd rs1 rs2 : BitVec 8) (imm pc x y : BitVec 64) (w : World) : CallsR Tryz.prog 53 #[.agg #[U8 (41#8), U8 rd, U8 rs1, U8 rs2, I64 imm], U64 pc, U64 x, U64 y] w (fun v w' => v = .tuple #[U64 ((signedF (fun x y => x + y)) x imm), U64 (pc + 4#64)] ∧ Ext w w') := by
 refine callsR_of Tryz.func53 G G G ?_
 refine Sr (WL.box (v := .agg #[U8 (41#8), U8 rd, U8 rs1, U8 rs2, I64 imm]) G G ?_)
 intro b4 w4 n4
 have E1 : Ext w w4 := n4.ext
 refine An (U64 (0#64)) G (An (U64 (0#64)) G (Ni (Sr (Fa G fo48_4 (Lo G ag2 (n4.blk.cell (j := 4) G) (Cv G (ConvR.i64u64 Tryz.underlying2 Tryz.underlying39) (Mv (U64 pc) G (Bn (vy := U64 (4#64)) G G BinR.addU64 ?_))))))))
 refine An (U64 imm) G (An (U64 ((pc + 4#64))) G (Ni (Sq (Sr (Fa G fo48_0 (Lo G ag5 (n4.blk.cell (j := 0) G) (Mv (U64 x) G (Mv (U64 y) G ?_))))))))
 refine WL.call ca87 G G (jumps_z 41#8 (by decide) x y _) ?_
 rintro _ wj ⟨rfl, ej⟩
 have E2 := Mt E1 ej
 refine Mv (.tuple #[.bool false, .bool false]) G (Et G G (Et G G (An (.bool false) G (An (.bool false) G (Ni (Sr (Mv (.bool false) G (Ni ?_))))))))
 refine Cf G (WC.skip (Sq (Sr (Fa G fo48_0 ?_))))
 have B3 := n4.blk.ext ej
 refine Lo G ag5 (B3.cell (j := 0) G) (Ni (Bk (Sq (Nu 1 (Sq (Nu 2 (Sq (Nu 3 (Sq ?_)))))))))
 refine Nu 4 (WC.skip (Sr (Fa G fo48_0 (Lo G ag5 (B3.cell (j := 0) G) (WL.call ca88 G G (reckons_41 _) ?_)))))
 rintro _ wr ⟨⟨g, cs, rfl, hcal, hcl⟩, er⟩
 have E4 := Mt E2 er
 refine An (.func (.func g) #[] cs) G (Ni (Sq (Sr (Mv (.func (.func g) #[] cs) G (Bn G G (BinR.eqlFnil Tryz.underlying178) (Ni (Cf G (WC.skip ?_))))))))
 refine Sq (Sr (Fa G fo48_0 ?_))
 have B5 := B3.ext er
 refine Lo G ag5 (B5.cell (j := 0) G) (Ni (Bk (Sq (Sq (Nu 22 (Sq (Nu 23 (Sq (Nu 24 ?_)))))))))
 refine Sq (Nu 25 (Sq (Nu 26 (Sq (Nu 27 (Sq (Nu 28 (Sq (Nu 29 ?_)))))))))
 refine Sq (Nu 30 (Sr (Bn (v := .bool true) (vy := U8 (41#8)) G G (BinR.toB BinR.eqlU8 (by decide)) (An (.bool true) G (Ni (Ct G (WC.skip (Ct G ?_))))))))
 refine Rg (Mv (U64 imm) G (An (U64 imm) G (Ni (Sr (Mv (.func (.func g) #[] cs) G (Mv (U64 x) G (Mv (U64 imm) G (WL.callV (fs := #[]) (cs := cs) G hcal G G (hcl _ (Mod.refl _ _) x imm) ?_))))))))
 rintro _ wc ⟨rfl, ec⟩
 have E7 := Mt E4 ec
 refine Mv (U64 ((pc + 4#64))) G (An (U64 ((signedF (fun x y => x + y)) x imm)) G (An (U64 ((pc + 4#64))) G (Ni (WC.ret ?_))))
 exact ⟨_, Res.two (v := U64 ((signedF (fun x y => x + y)) x imm)) (v' := U64 ((pc + 4#64))) G G G, G, E7⟩
theorem do_42 (rd rs1 rs2 : BitVec 8) (imm pc x y : BitVec 64) (w : World) : CallsR Tryz.prog 53 #[.agg #[U8 (42#8), U8 rd, U8 rs1, U8 rs2, I64 imm], U64 pc, U64 x, U64 y] w (fun v w' => v = .tuple #[U64 ((movedF (signedF sllW)) x imm), U64 (pc + 4#64)] ∧ Ext w w') := by
 refine callsR_of Tryz.func53 G G G ?_
 refine Sr (WL.box (v := .agg #[U8 (42#8), U8 rd, U8 rs1, U8 rs2, I64 imm]) G G ?_)
 intro b4 w4 n4
 have E1 : Ext w w4 := n4.ext
 refine An (U64 (0#64)) G (An (U64 (0#64)) G (Ni (Sr (Fa G fo48_4 (Lo G ag2 (n4.blk.cell (j := 4) G) (Cv G (ConvR.i64u64 Tryz.underlying2 Tryz.underlying39) (Mv (U64 pc) G (Bn (vy := U64 (4#64)) G G BinR.addU64 ?_))))))))
 refine An (U64 imm) G (An (U64 ((pc + 4#64))) G (Ni (Sq (Sr (Fa G fo48_0 (Lo G ag5 (n4.blk.cell (j := 0) G) (Mv (U64 x) G (Mv (U64 y) G ?_))))))))
 refine WL.call ca87 G G (jumps_z 42#8 (by decide) x y _) ?_
 rintro _ wj ⟨rfl, ej⟩
 have E2 := Mt E1 ej
 refine Mv (.tuple #[.bool false, .bool false]) G (Et G G (Et G G (An (.bool false) G (An (.bool false) G (Ni (Sr (Mv (.bool false) G (Ni ?_))))))))
 refine Cf G (WC.skip (Sq (Sr (Fa G fo48_0 ?_))))
 have B3 := n4.blk.ext ej
 refine Lo G ag5 (B3.cell (j := 0) G) (Ni (Bk (Sq (Nu 1 (Sq (Nu 2 (Sq (Nu 3 (Sq ?_)))))))))
 refine Nu 4 (WC.skip (Sr (Fa G fo48_0 (Lo G ag5 (B3.cell (j := 0) G) (WL.call ca88 G G (reckons_42 _) ?_)))))
 rintro _ wr ⟨⟨g, cs, rfl, hcal, hcl⟩, er⟩
 have E4 := Mt E2 er
 refine An (.func (.func g) #[] cs) G (Ni (Sq (Sr (Mv (.func (.func g) #[] cs) G (Bn G G (BinR.eqlFnil Tryz.underlying178) (Ni (Cf G (WC.skip ?_))))))))
 refine Sq (Sr (Fa G fo48_0 ?_))
 have B5 := B3.ext er
 refine Lo G ag5 (B5.cell (j := 0) G) (Ni (Bk (Sq (Sq (Nu 22 (Sq (Nu 23 (Sq (Nu 24 ?_)))))))))
 refine Sq (Nu 25 (Sq (Nu 26 (Sq (Nu 27 (Sq (Nu 28 (Sq (Nu 29 ?_)))))))))
 refine Sq (Nu 30 (Sq (Nu 41 (Sr (Bn (v := .bool true) (vy := U8 (42#8)) G G (BinR.toB BinR.eqlU8 (by decide)) (An (.bool true) G (Ni (Ct G ?_))))))))
 refine WC.skip (Ct G (Rg (Mv (U64 imm) G (An (U64 imm) G (Ni (Sr (Mv (.func (.func g) #[] cs) G (Mv (U64 x) G ?_))))))))
 refine Mv (U64 imm) G (WL.callV (fs := #[]) (cs := cs) G hcal G G (hcl _ (Mod.refl _ _) x imm) ?_)
 rintro _ wc ⟨rfl, ec⟩
 have E7 := Mt E4 ec
 refine Mv (U64 ((pc + 4#64))) G (An (U64 ((movedF (signedF sllW)) x imm)) G (An (U64 ((pc + 4#64))) G (Ni (WC.ret ?_))))
 exact ⟨_, Res.two (v := U64 ((movedF (signedF sllW)) x imm)) (v' := U64 ((pc + 4#64))) G G G, G, E7⟩
theorem do_43 (rd rs1 rs2 : BitVec 8) (imm pc x y : BitVec 64) (w : World) : CallsR Tryz.prog 53 #[.agg #[U8 (43#8), U8 rd, U8 rs1, U8 rs2, I64 imm], U64 pc, U64 x, U64 y] w (fun v w' => v = .tuple #[U64 ((movedF (unsignedF srlW)) x imm), U64 (pc + 4#64)] ∧ Ext w w') := by
 refine callsR_of Tryz.func53 G G G ?_
 refine Sr (WL.box (v := .agg #[U8 (43#8), U8 rd, U8 rs1, U8 rs2, I64 imm]) G G ?_)
 intro b4 w4 n4
 have E1 : Ext w w4 := n4.ext
 refine An (U64 (0#64)) G (An (U64 (0#64)) G (Ni (Sr (Fa G fo48_4 (Lo G ag2 (n4.blk.cell (j := 4) G) (Cv G (ConvR.i64u64 Tryz.underlying2 Tryz.underlying39) (Mv (U64 pc) G (Bn (vy := U64 (4#64)) G G BinR.addU64 ?_))))))))
 refine An (U64 imm) G (An (U64 ((pc + 4#64))) G (Ni (Sq (Sr (Fa G fo48_0 (Lo G ag5 (n4.blk.cell (j := 0) G) (Mv (U64 x) G (Mv (U64 y) G ?_))))))))
 refine WL.call ca87 G G (jumps_z 43#8 (by decide) x y _) ?_
 rintro _ wj ⟨rfl, ej⟩
 have E2 := Mt E1 ej
 refine Mv (.tuple #[.bool false, .bool false]) G (Et G G (Et G G (An (.bool false) G (An (.bool false) G (Ni (Sr (Mv (.bool false) G (Ni ?_))))))))
 refine Cf G (WC.skip (Sq (Sr (Fa G fo48_0 ?_))))
 have B3 := n4.blk.ext ej
 refine Lo G ag5 (B3.cell (j := 0) G) (Ni (Bk (Sq (Nu 1 (Sq (Nu 2 (Sq (Nu 3 (Sq ?_)))))))))
 refine Nu 4 (WC.skip (Sr (Fa G fo48_0 (Lo G ag5 (B3.cell (j := 0) G) (WL.call ca88 G G (reckons_43 _) ?_)))))
 rintro _ wr ⟨⟨g, cs, rfl, hcal, hcl⟩, er⟩
 have E4 := Mt E2 er
 refine An (.func (.func g) #[] cs) G (Ni (Sq (Sr (Mv (.func (.func g) #[] cs) G (Bn G G (BinR.eqlFnil Tryz.underlying178) (Ni (Cf G (WC.skip ?_))))))))
 refine Sq (Sr (Fa G fo48_0 ?_))
 have B5 := B3.ext er
 refine Lo G ag5 (B5.cell (j := 0) G) (Ni (Bk (Sq (Sq (Nu 22 (Sq (Nu 23 (Sq (Nu 24 ?_)))))))))
 refine Sq (Nu 25 (Sq (Nu 26 (Sq (Nu 27 (Sq (Nu 28 (Sq (Nu 29 ?_)))))))))
 refine Sq (Nu 30 (Sq (Nu 41 (Sq (Nu 42 (Sr (Bn (v := .bool true) (vy := U8 (43#8)) G G (BinR.toB BinR.eqlU8 (by decide)) (An (.bool true) G ?_))))))))
 refine Ni (Ct G (WC.skip (Ct G (Rg (Mv (U64 imm) G (An (U64 imm) G (Ni (Sr ?_))))))))
 refine Mv (.func (.func g) #[] cs) G (Mv (U64 x) G (Mv (U64 imm) G (WL.callV (fs := #[]) (cs := cs) G hcal G G (hcl _ (Mod.refl _ _) x imm) ?_)))
 rintro _ wc ⟨rfl, ec⟩
 have E7 := Mt E4 ec
 refine Mv (U64 ((pc + 4#64))) G (An (U64 ((movedF (unsignedF srlW)) x imm)) G (An (U64 ((pc + 4#64))) G (Ni (WC.ret ?_))))
 exact ⟨_, Res.two (v := U64 ((movedF (unsignedF srlW)) x imm)) (v' := U64 ((pc + 4#64))) G G G, G, E7⟩
theorem do_44 (rd rs1 rs2 : BitVec 8) (imm pc x y : BitVec 64) (w : World) : CallsR Tryz.prog 53 #[.agg #[U8 (44#8), U8 rd, U8 rs1, U8 rs2, I64 imm], U64 pc, U64 x, U64 y] w (fun v w' => v = .tuple #[U64 ((movedF (signedF sraW)) x imm), U64 (pc + 4#64)] ∧ Ext w w') := by
 refine callsR_of Tryz.func53 G G G ?_
 refine Sr (WL.box (v := .agg #[U8 (44#8), U8 rd, U8 rs1, U8 rs2, I64 imm]) G G ?_)
 intro b4 w4 n4
 have E1 : Ext w w4 := n4.ext
 refine An (U64 (0#64)) G (An (U64 (0#64)) G (Ni (Sr (Fa G fo48_4 (Lo G ag2 (n4.blk.cell (j := 4) G) (Cv G (ConvR.i64u64 Tryz.underlying2 Tryz.underlying39) (Mv (U64 pc) G (Bn (vy := U64 (4#64)) G G BinR.addU64 ?_))))))))
 refine An (U64 imm) G (An (U64 ((pc + 4#64))) G (Ni (Sq (Sr (Fa G fo48_0 (Lo G ag5 (n4.blk.cell (j := 0) G) (Mv (U64 x) G (Mv (U64 y) G ?_))))))))
 refine WL.call ca87 G G (jumps_z 44#8 (by decide) x y _) ?_
 rintro _ wj ⟨rfl, ej⟩
 have E2 := Mt E1 ej
 refine Mv (.tuple #[.bool false, .bool false]) G (Et G G (Et G G (An (.bool false) G (An (.bool false) G (Ni (Sr (Mv (.bool false) G (Ni ?_))))))))
 refine Cf G (WC.skip (Sq (Sr (Fa G fo48_0 ?_))))
 have B3 := n4.blk.ext ej
 refine Lo G ag5 (B3.cell (j := 0) G) (Ni (Bk (Sq (Nu 1 (Sq (Nu 2 (Sq (Nu 3 (Sq ?_)))))))))
 refine Nu 4 (WC.skip (Sr (Fa G fo48_0 (Lo G ag5 (B3.cell (j := 0) G) (WL.call ca88 G G (reckons_44 _) ?_)))))
 rintro _ wr ⟨⟨g, cs, rfl, hcal, hcl⟩, er⟩
 have E4 := Mt E2 er
 refine An (.func (.func g) #[] cs) G (Ni (Sq (Sr (Mv (.func (.func g) #[] cs) G (Bn G G (BinR.eqlFnil Tryz.underlying178) (Ni (Cf G (WC.skip ?_))))))))
 refine Sq (Sr (Fa G fo48_0 ?_))
 have B5 := B3.ext er
 refine Lo G ag5 (B5.cell (j := 0) G) (Ni (Bk (Sq (Sq (Nu 22 (Sq (Nu 23 (Sq (Nu 24 ?_)))))))))
 refine Sq (Nu 25 (Sq (Nu 26 (Sq (Nu 27 (Sq (Nu 28 (Sq (Nu 29 ?_)))))))))
 refine Sq (Nu 30 (Sq (Nu 41 (Sq (Nu 42 (Sq (Nu 43 (Rg (Bn (v := .bool true) (vy := U8 (44#8)) G G (BinR.toB BinR.eqlU8 (by decide)) ?_)))))))))
 refine An (.bool true) G (Ni (Ct G (Rg (Mv (U64 imm) G (An (U64 imm) G (Ni (Sr (Mv (.func (.func g) #[] cs) G ?_))))))))
 refine Mv (U64 x) G (Mv (U64 imm) G (WL.callV (fs := #[]) (cs := cs) G hcal G G (hcl _ (Mod.refl _ _) x imm) ?_))
 rintro _ wc ⟨rfl, ec⟩
 have E7 := Mt E4 ec
 refine Mv (U64 ((pc + 4#64))) G (An (U64 ((movedF (signedF sraW)) x imm)) G (An (U64 ((pc + 4#64))) G (Ni (WC.ret ?_))))
 exact ⟨_, Res.two (v := U64 ((movedF (signedF sraW)) x imm)) (v' := U64 ((pc + 4#64))) G G G, G, E7⟩
end Go.Proofs.N
end
section
set_option linter.unusedSimpArgs false
set_option linter.unusedVariables false
namespace Go.Proofs.N
open Go Go.Ux Go.Ux.Mach Go.Proofs
theorem loads_z (z : BitVec 8) (hz : ∀ c ∈ [11#8, 12#8, 13#8, 14#8, 15#8, 16#8, 17#8], (z == c) = false) (w : World) : CallsR Tryz.prog 68 #[U8 z] w (fun v w' => v = .tuple #[IN 0, .bool false] ∧ Ext w w') := by
 refine callsR_of Tryz.func68 G G G ?_
 refine Sr (An (IN 0) G (An (.bool false) G (Ni (Sq (Sr (Mv (U8 z) G (Ni ?_)))))))
 refine Bk (Sq (Sq (WC.neU (c := 11#8) G G G G G G (hz _ (by decide)) (Sq (WC.neU (c := 12#8) G G G G G G (hz _ (by decide)) (Sq (WC.neU (c := 13#8) G G G G G G (hz _ (by decide)) (WC.neU (c := 14#8) G G G G G G (hz _ (by decide)) (Sq ?_)))))))))
 refine Sq (WC.neU (c := 15#8) G G G G G G (hz _ (by decide)) (Sq (WC.neU (c := 16#8) G G G G G G (hz _ (by decide)) (WC.neU (c := 17#8) G G G G G G (hz _ (by decide)) (WC.skip (Sr (An (IN 0) G (An (.bool false) G ?_))))))))
 refine Ni (WC.ret ?_)
 exact ⟨_, Res.two (v := IN 0) (v' := .bool false) G G G, G, Mod.refl _ _⟩
theorem loads_11 (w : World) : CallsR Tryz.prog 68 #[U8 (11#8)] w (fun v w' => v = .tuple #[IN 1, .bool true] ∧ Ext w w') := by
 refine callsR_of Tryz.func68 G G G ?_
 refine Sr (An (IN 0) G (An (.bool false) G (Ni (Sq (Sr (Mv (U8 (11#8)) G (Ni ?_)))))))
 refine Bk (Sq (Sr (Bn (v := .bool true) (vy := U8 (11#8)) G G (BinR.toB BinR.eqlU8 (by decide)) (An (.bool true) G (Ni (Ct G (WC.skip (Ct G ?_))))))))
 refine Sr (Mv (U8 (11#8)) G (Bn (vy := U8 (11#8)) G G BinR.subU8 (Bn (vx := I64 1#64) (vy := .int .u8 ((0 : Nat) : Int)) (v := I64 (1#64 <<< 0)) G G BinR.shl64 (An (IN 1) G (An (.bool true) G (Ni (WC.ret ?_)))))))
 exact ⟨_, Res.two (v := IN 1) (v' := .bool true) G G G, G, Mod.refl _ _⟩
theorem loads_12 (w : World) : CallsR Tryz.prog 68 #[U8 (12#8)] w (fun v w' => v = .tuple #[IN 2, .bool true] ∧ Ext w w') := by
 refine callsR_of Tryz.func68 G G G ?_
 refine Sr (An (IN 0) G (An (.bool false) G (Ni (Sq (Sr (Mv (U8 (12#8)) G (Ni ?_)))))))
 refine Bk (Sq (Sq (Nu 11 (Sr (Bn (v := .bool true) (vy := U8 (12#8)) G G (BinR.toB BinR.eqlU8 (by decide)) (An (.bool true) G (Ni (Ct G ?_))))))))
 refine WC.skip (Ct G (Sr (Mv (U8 (12#8)) G (Bn (vy := U8 (11#8)) G G BinR.subU8 (Bn (vx := I64 1#64) (vy := .int .u8 ((1 : Nat) : Int)) (v := I64 (1#64 <<< 1)) G G BinR.shl64 (An (IN 2) G (An (.bool true) G (Ni ?_))))))))
 refine WC.ret ?_
 exact ⟨_, Res.two (v := IN 2) (v' := .bool true) G G G, G, Mod.refl _ _⟩
theorem loads_13 (w : World) : CallsR Tryz.prog 68 #[U8 (13#8)] w (fun v w' => v = .tuple #[IN 4, .bool true] ∧ Ext w w') := by
 refine callsR_of Tryz.func68 G G G ?_
 refine Sr (An (IN 0) G (An (.bool false) G (Ni (Sq (Sr (Mv (U8 (13#8)) G (Ni ?_)))))))
 refine Bk (Sq (Sq (Nu 11 (Sq (Nu 12 (Sr (Bn (v := .bool true) (vy := U8 (13#8)) G G (BinR.toB BinR.eqlU8 (by decide)) (An (.bool true) G ?_))))))))
 refine Ni (Ct G (WC.skip (Ct G (Sr (Mv (U8 (13#8)) G (Bn (vy := U8 (11#8)) G G BinR.subU8 (Bn (vx := I64 1#64) (vy := .int .u8 ((2 : Nat) : Int)) (v := I64 (1#64 <<< 2)) G G BinR.shl64 (An (IN 4) G ?_))))))))
 refine An (.bool true) G (Ni (WC.ret ?_))
 exact ⟨_, Res.two (v := IN 4) (v' := .bool true) G G G, G, Mod.refl _ _⟩
theorem loads_14 (w : World) : CallsR Tryz.prog 68 #[U8 (14#8)] w (fun v w' => v = .tuple #[IN 8, .bool true] ∧ Ext w w') := by
 refine callsR_of Tryz.func68 G G G ?_
 refine Sr (An (IN 0) G (An (.bool false) G (Ni (Sq (Sr (Mv (U8 (14#8)) G (Ni ?_)))))))
 refine Bk (Sq (Sq (Nu 11 (Sq (Nu 12 (Sq (Nu 13 (Rg (Bn (v := .bool true) (vy := U8 (14#8)) G G (BinR.toB BinR.eqlU8 (by decide)) ?_)))))))))
 refine An (.bool true) G (Ni (Ct G (Sr (Mv (U8 (14#8)) G (Bn (vy := U8 (11#8)) G G BinR.subU8 (Bn (vx := I64 1#64) (vy := .int .u8 ((3 : Nat) : Int)) (v := I64 (1#64 <<< 3)) G G BinR.shl64 (An (IN 8) G (An (.bool true) G ?_))))))))
 refine Ni (WC.ret ?_)
 exact ⟨_, Res.two (v := IN 8) (v' := .bool true) G G G, G, Mod.refl _ _⟩
theorem loads_15 (w : World) : CallsR Tryz.prog 68 #[U8 (15#8)] w (fun v w' => v = .tuple #[IN 1, .bool false] ∧ Ext w w') := by
 refine callsR_of Tryz.func68 G G G ?_
 refine Sr (An (IN 0) G (An (.bool false) G (Ni (Sq (Sr (Mv (U8 (15#8)) G (Ni ?_)))))))
 refine Bk (Sq (Sq (Nu 11 (Sq (Nu 12 (Sq (Nu 13 (Nu 14 (Sq ?_)))))))))
 refine Sr (Bn (v := .bool true) (vy := U8 (15#8)) G G (BinR.toB BinR.eqlU8 (by decide)) (An (.bool true) G (Ni (Ct G (WC.skip (Ct G (Sr ?_)))))))
 refine Mv (U8 (15#8)) G (Bn (vy := U8 (15#8)) G G BinR.subU8 (Bn (vx := I64 1#64) (vy := .int .u8 ((0 : Nat) : Int)) (v := I64 (1#64 <<< 0)) G G BinR.shl64 (An (IN 1) G (An (.bool false) G (Ni (WC.ret ?_))))))
 exact ⟨_, Res.two (v := IN 1) (v' := .bool false) G G G, G, Mod.refl _ _⟩
theorem loads_16 (w : World) : CallsR Tryz.prog 68 #[U8 (16#8)] w (fun v w' => v = .tuple #[IN 2, .bool false] ∧ Ext w w') := by
 refine callsR_of Tryz.func68 G G G ?_
 refine Sr (An (IN 0) G (An (.bool false) G (Ni (Sq (Sr (Mv (U8 (16#8)) G (Ni ?_)))))))
 refine Bk (Sq (Sq (Nu 11 (Sq (Nu 12 (Sq (Nu 13 (Nu 14 (Sq ?_)))))))))
 refine Sq (Nu 15 (Sr (Bn (v := .bool true) (vy := U8 (16#8)) G G (BinR.toB BinR.eqlU8 (by decide)) (An (.bool true) G (Ni (Ct G (WC.skip (Ct G ?_))))))))
 refine Sr (Mv (U8 (16#8)) G (Bn (vy := U8 (15#8)) G G BinR.subU8 (Bn (vx := I64 1#64) (vy := .int .u8 ((1 : Nat) : Int)) (v := I64 (1#64 <<< 1)) G G BinR.shl64 (An (IN 2) G (An (.bool false) G (Ni (WC.ret ?_)))))))
 exact ⟨_, Res.two (v := IN 2) (v' := .bool false) G G G, G, Mod.refl _ _⟩
theorem loads_17 (w : World) : CallsR Tryz.prog 68 #[U8 (17#8)] w (fun v w' => v = .tuple #[IN 4, .bool false] ∧ Ext w w') := by
 refine callsR_of Tryz.func68 G G G ?_
 refine Sr (An (IN 0) G (An (.bool false) G (Ni (Sq (Sr (Mv (U8 (17#8)) G (Ni ?_)))))))
 refine Bk (Sq (Sq (Nu 11 (Sq (Nu 12 (Sq (Nu 13 (Nu 14 (Sq ?_)))))))))
 refine Sq (Nu 15 (Sq (Nu 16 (Rg (Bn (v := .bool true) (vy := U8 (17#8)) G G (BinR.toB BinR.eqlU8 (by decide)) (An (.bool true) G (Ni (Ct G (Sq ?_)))))))))
 refine Rg (Mv (U8 (17#8)) G (Bn (vy := U8 (15#8)) G G BinR.subU8 (Bn (vx := I64 1#64) (vy := .int .u8 ((2 : Nat) : Int)) (v := I64 (1#64 <<< 2)) G G BinR.shl64 (An (IN 4) G (An (.bool false) G (Ni (WC.ret ?_)))))))
 exact ⟨_, Res.two (v := IN 4) (v' := .bool false) G G G, G, Mod.refl _ _⟩
end Go.Proofs.N
end
section
set_option linter.unusedSimpArgs false
set_option linter.unusedVariables false
namespace Go.Proofs.N
open Go Go.Ux Go.Ux.Mach Go.Proofs
def doM : Nat → BitVec 64 → BitVec 64 → BitVec 64 → BitVec 64 → BitVec 64 × BitVec 64
 | 1, imm, pc, x, y => (imm, pc + 4#64)
 | 2, imm, pc, x, y => (pc + imm, pc + 4#64)
 | 3, imm, pc, x, y => (pc + 4#64, pc + imm)
 | 4, imm, pc, x, y => (pc + 4#64, (x + imm) &&& ~~~1#64)
 | 5, imm, pc, x, y => (0#64, (if (x == y) then pc + imm else pc + 4#64))
 | 6, imm, pc, x, y => (0#64, (if (x != y) then pc + imm else pc + 4#64))
 | 7, imm, pc, x, y => (0#64, (if BitVec.slt (x) (y) then pc + imm else pc + 4#64))
 | 8, imm, pc, x, y => (0#64, (if BitVec.sle (y) (x) then pc + imm else pc + 4#64))
 | 9, imm, pc, x, y => (0#64, (if BitVec.ult (x) (y) then pc + imm else pc + 4#64))
 | 10, imm, pc, x, y => (0#64, (if BitVec.ule (y) (x) then pc + imm else pc + 4#64))
 | 11, imm, pc, x, y => (0#64, pc + 4#64)
 | 12, imm, pc, x, y => (0#64, pc + 4#64)
 | 13, imm, pc, x, y => (0#64, pc + 4#64)
 | 14, imm, pc, x, y => (0#64, pc + 4#64)
 | 15, imm, pc, x, y => (0#64, pc + 4#64)
 | 16, imm, pc, x, y => (0#64, pc + 4#64)
 | 17, imm, pc, x, y => (0#64, pc + 4#64)
 | 18, imm, pc, x, y => (0#64, pc + 4#64)
 | 19, imm, pc, x, y => (0#64, pc + 4#64)
 | 20, imm, pc, x, y => (0#64, pc + 4#64)
 | 21, imm, pc, x, y => (0#64, pc + 4#64)
 | 22, imm, pc, x, y => ((fun x y => x + y) x imm, pc + 4#64)
 | 23, imm, pc, x, y => ((fun x y => bitW (BitVec.slt x y)) x imm, pc + 4#64)
 | 24, imm, pc, x, y => ((fun x y => bitW (BitVec.ult x y)) x imm, pc + 4#64)
 | 25, imm, pc, x, y => ((fun x y => x ^^^ y) x imm, pc + 4#64)
 | 26, imm, pc, x, y => ((fun x y => x ||| y) x imm, pc + 4#64)
 | 27, imm, pc, x, y => ((fun x y => x &&& y) x imm, pc + 4#64)
 | 28, imm, pc, x, y => (sllW x imm, pc + 4#64)
 | 29, imm, pc, x, y => (srlW x imm, pc + 4#64)
 | 30, imm, pc, x, y => (sraW x imm, pc + 4#64)
 | 31, imm, pc, x, y => ((fun x y => x + y) x y, pc + 4#64)
 | 32, imm, pc, x, y => ((fun x y => x - y) x y, pc + 4#64)
 | 33, imm, pc, x, y => (sllW x y, pc + 4#64)
 | 34, imm, pc, x, y => ((fun x y => bitW (BitVec.slt x y)) x y, pc + 4#64)
 | 35, imm, pc, x, y => ((fun x y => bitW (BitVec.ult x y)) x y, pc + 4#64)
 | 36, imm, pc, x, y => ((fun x y => x ^^^ y) x y, pc + 4#64)
 | 37, imm, pc, x, y => (srlW x y, pc + 4#64)
 | 38, imm, pc, x, y => (sraW x y, pc + 4#64)
 | 39, imm, pc, x, y => ((fun x y => x ||| y) x y, pc + 4#64)
 | 40, imm, pc, x, y => ((fun x y => x &&& y) x y, pc + 4#64)
 | 41, imm, pc, x, y => ((signedF (fun x y => x + y)) x imm, pc + 4#64)
 | 42, imm, pc, x, y => ((movedF (signedF sllW)) x imm, pc + 4#64)
 | 43, imm, pc, x, y => ((movedF (unsignedF srlW)) x imm, pc + 4#64)
 | 44, imm, pc, x, y => ((movedF (signedF sraW)) x imm, pc + 4#64)
 | 45, imm, pc, x, y => ((signedF (fun x y => x + y)) x y, pc + 4#64)
 | 46, imm, pc, x, y => ((signedF (fun x y => x - y)) x y, pc + 4#64)
 | 47, imm, pc, x, y => ((movedF (signedF sllW)) x y, pc + 4#64)
 | 48, imm, pc, x, y => ((movedF (unsignedF srlW)) x y, pc + 4#64)
 | 49, imm, pc, x, y => ((movedF (signedF sraW)) x y, pc + 4#64)
 | 50, imm, pc, x, y => ((fun x y => x * y) x y, pc + 4#64)
 | 51, imm, pc, x, y => (mulhW x y, pc + 4#64)
 | 52, imm, pc, x, y => (mulhsuW x y, pc + 4#64)
 | 53, imm, pc, x, y => (hiW x y, pc + 4#64)
 | 54, imm, pc, x, y => (divW x y, pc + 4#64)
 | 55, imm, pc, x, y => (divuW x y, pc + 4#64)
 | 56, imm, pc, x, y => (remW x y, pc + 4#64)
 | 57, imm, pc, x, y => (remuW x y, pc + 4#64)
 | 58, imm, pc, x, y => ((signedF (fun x y => x * y)) x y, pc + 4#64)
 | 59, imm, pc, x, y => ((signedF divW) x y, pc + 4#64)
 | 60, imm, pc, x, y => ((unsignedF divuW) x y, pc + 4#64)
 | 61, imm, pc, x, y => ((signedF remW) x y, pc + 4#64)
 | 62, imm, pc, x, y => ((unsignedF remuW) x y, pc + 4#64)
 | 63, imm, pc, x, y => (0#64, pc + 4#64)
 | 64, imm, pc, x, y => (0#64, pc + 4#64)
 | 65, imm, pc, x, y => (0#64, pc + 4#64)
 | _, _, pc, _, _ => (0#64, pc + 4#64)
def loadsM : Nat → Nat × Bool
 | 11 => (1, true)
 | 12 => (2, true)
 | 13 => (4, true)
 | 14 => (8, true)
 | 15 => (1, false)
 | 16 => (2, false)
 | 17 => (4, false)
 | _ => (0, false)
theorem op_num (op : BitVec 8) (h1 : 1 ≤ op.toNat) (h2 : op.toNat < 66) : ∃ n, op = BitVec.ofNat 8 n ∧ 1 ≤ n ∧ n < 66 := ⟨op.toNat, by simp, h1, h2⟩
theorem num_op (n : Nat) (h : n < 66) : (BitVec.ofNat 8 n).toNat = n := by rw [BitVec.toNat_ofNat]; omega
theorem do_spec (op rd rs1 rs2 : BitVec 8) (imm pc x y : BitVec 64) (w : World) (h1 : 1 ≤ op.toNat) (h2 : op.toNat < 66) : CallsR Tryz.prog 53 #[.agg #[U8 op, U8 rd, U8 rs1, U8 rs2, I64 imm], U64 pc, U64 x, U64 y] w (fun v w' => v = .tuple #[U64 (doM op.toNat imm pc x y).1, U64 (doM op.toNat imm pc x y).2] ∧ Ext w w') := by
 obtain ⟨n, rfl, k1, k2⟩ := op_num op h1 h2
 rw [num_op n k2]
 match n, k1, k2 with
 | 1, _, _ => exact do_1 rd rs1 rs2 imm pc x y w
 | 2, _, _ => exact do_2 rd rs1 rs2 imm pc x y w
 | 3, _, _ => exact do_3 rd rs1 rs2 imm pc x y w
 | 4, _, _ => exact do_4 rd rs1 rs2 imm pc x y w
 | 5, _, _ => exact do_5 rd rs1 rs2 imm pc x y w
 | 6, _, _ => exact do_6 rd rs1 rs2 imm pc x y w
 | 7, _, _ => exact do_7 rd rs1 rs2 imm pc x y w
 | 8, _, _ => exact do_8 rd rs1 rs2 imm pc x y w
 | 9, _, _ => exact do_9 rd rs1 rs2 imm pc x y w
 | 10, _, _ => exact do_10 rd rs1 rs2 imm pc x y w
 | 11, _, _ => exact do_none 11#8 (by decide) (by decide) reckons_11 rd rs1 rs2 imm pc x y w
 | 12, _, _ => exact do_none 12#8 (by decide) (by decide) reckons_12 rd rs1 rs2 imm pc x y w
 | 13, _, _ => exact do_none 13#8 (by decide) (by decide) reckons_13 rd rs1 rs2 imm pc x y w
 | 14, _, _ => exact do_none 14#8 (by decide) (by decide) reckons_14 rd rs1 rs2 imm pc x y w
 | 15, _, _ => exact do_none 15#8 (by decide) (by decide) reckons_15 rd rs1 rs2 imm pc x y w
 | 16, _, _ => exact do_none 16#8 (by decide) (by decide) reckons_16 rd rs1 rs2 imm pc x y w
 | 17, _, _ => exact do_none 17#8 (by decide) (by decide) reckons_17 rd rs1 rs2 imm pc x y w
 | 18, _, _ => exact do_none 18#8 (by decide) (by decide) reckons_18 rd rs1 rs2 imm pc x y w
 | 19, _, _ => exact do_none 19#8 (by decide) (by decide) reckons_19 rd rs1 rs2 imm pc x y w
 | 20, _, _ => exact do_none 20#8 (by decide) (by decide) reckons_20 rd rs1 rs2 imm pc x y w
 | 21, _, _ => exact do_none 21#8 (by decide) (by decide) reckons_21 rd rs1 rs2 imm pc x y w
 | 22, _, _ => exact do_22 rd rs1 rs2 imm pc x y w
 | 23, _, _ => exact do_23 rd rs1 rs2 imm pc x y w
 | 24, _, _ => exact do_24 rd rs1 rs2 imm pc x y w
 | 25, _, _ => exact do_25 rd rs1 rs2 imm pc x y w
 | 26, _, _ => exact do_26 rd rs1 rs2 imm pc x y w
 | 27, _, _ => exact do_27 rd rs1 rs2 imm pc x y w
 | 28, _, _ => exact do_28 rd rs1 rs2 imm pc x y w
 | 29, _, _ => exact do_29 rd rs1 rs2 imm pc x y w
 | 30, _, _ => exact do_30 rd rs1 rs2 imm pc x y w
 | 31, _, _ => exact do_y 31#8 (fun x y => x + y) (by decide) (by decide) reckons_31 rd rs1 rs2 imm pc x y w
 | 32, _, _ => exact do_y 32#8 (fun x y => x - y) (by decide) (by decide) reckons_32 rd rs1 rs2 imm pc x y w
 | 33, _, _ => exact do_y 33#8 sllW (by decide) (by decide) reckons_33 rd rs1 rs2 imm pc x y w
 | 34, _, _ => exact do_y 34#8 (fun x y => bitW (BitVec.slt x y)) (by decide) (by decide) reckons_34 rd rs1 rs2 imm pc x y w
 | 35, _, _ => exact do_y 35#8 (fun x y => bitW (BitVec.ult x y)) (by decide) (by decide) reckons_35 rd rs1 rs2 imm pc x y w
 | 36, _, _ => exact do_y 36#8 (fun x y => x ^^^ y) (by decide) (by decide) reckons_36 rd rs1 rs2 imm pc x y w
 | 37, _, _ => exact do_y 37#8 srlW (by decide) (by decide) reckons_37 rd rs1 rs2 imm pc x y w
 | 38, _, _ => exact do_y 38#8 sraW (by decide) (by decide) reckons_38 rd rs1 rs2 imm pc x y w
 | 39, _, _ => exact do_y 39#8 (fun x y => x ||| y) (by decide) (by decide) reckons_39 rd rs1 rs2 imm pc x y w
 | 40, _, _ => exact do_y 40#8 (fun x y => x &&& y) (by decide) (by decide) reckons_40 rd rs1 rs2 imm pc x y w
 | 41, _, _ => exact do_41 rd rs1 rs2 imm pc x y w
 | 42, _, _ => exact do_42 rd rs1 rs2 imm pc x y w
 | 43, _, _ => exact do_43 rd rs1 rs2 imm pc x y w
 | 44, _, _ => exact do_44 rd rs1 rs2 imm pc x y w
 | 45, _, _ => exact do_y 45#8 (signedF (fun x y => x + y)) (by decide) (by decide) reckons_45 rd rs1 rs2 imm pc x y w
 | 46, _, _ => exact do_y 46#8 (signedF (fun x y => x - y)) (by decide) (by decide) reckons_46 rd rs1 rs2 imm pc x y w
 | 47, _, _ => exact do_y 47#8 (movedF (signedF sllW)) (by decide) (by decide) reckons_47 rd rs1 rs2 imm pc x y w
 | 48, _, _ => exact do_y 48#8 (movedF (unsignedF srlW)) (by decide) (by decide) reckons_48 rd rs1 rs2 imm pc x y w
 | 49, _, _ => exact do_y 49#8 (movedF (signedF sraW)) (by decide) (by decide) reckons_49 rd rs1 rs2 imm pc x y w
 | 50, _, _ => exact do_y 50#8 (fun x y => x * y) (by decide) (by decide) reckons_50 rd rs1 rs2 imm pc x y w
 | 51, _, _ => exact do_y 51#8 mulhW (by decide) (by decide) reckons_51 rd rs1 rs2 imm pc x y w
 | 52, _, _ => exact do_y 52#8 mulhsuW (by decide) (by decide) reckons_52 rd rs1 rs2 imm pc x y w
 | 53, _, _ => exact do_y 53#8 hiW (by decide) (by decide) reckons_53 rd rs1 rs2 imm pc x y w
 | 54, _, _ => exact do_y 54#8 divW (by decide) (by decide) reckons_54 rd rs1 rs2 imm pc x y w
 | 55, _, _ => exact do_y 55#8 divuW (by decide) (by decide) reckons_55 rd rs1 rs2 imm pc x y w
 | 56, _, _ => exact do_y 56#8 remW (by decide) (by decide) reckons_56 rd rs1 rs2 imm pc x y w
 | 57, _, _ => exact do_y 57#8 remuW (by decide) (by decide) reckons_57 rd rs1 rs2 imm pc x y w
 | 58, _, _ => exact do_y 58#8 (signedF (fun x y => x * y)) (by decide) (by decide) reckons_58 rd rs1 rs2 imm pc x y w
 | 59, _, _ => exact do_y 59#8 (signedF divW) (by decide) (by decide) reckons_59 rd rs1 rs2 imm pc x y w
 | 60, _, _ => exact do_y 60#8 (unsignedF divuW) (by decide) (by decide) reckons_60 rd rs1 rs2 imm pc x y w
 | 61, _, _ => exact do_y 61#8 (signedF remW) (by decide) (by decide) reckons_61 rd rs1 rs2 imm pc x y w
 | 62, _, _ => exact do_y 62#8 (unsignedF remuW) (by decide) (by decide) reckons_62 rd rs1 rs2 imm pc x y w
 | 63, _, _ => exact do_none 63#8 (by decide) (by decide) reckons_63 rd rs1 rs2 imm pc x y w
 | 64, _, _ => exact do_none 64#8 (by decide) (by decide) reckons_64 rd rs1 rs2 imm pc x y w
 | 65, _, _ => exact do_none 65#8 (by decide) (by decide) reckons_65 rd rs1 rs2 imm pc x y w
 | n + 66, _, h => exact absurd h (by omega)
theorem loads_spec (op : BitVec 8) (w : World) (h1 : 1 ≤ op.toNat) (h2 : op.toNat < 66) : CallsR Tryz.prog 68 #[U8 op] w (fun v w' => v = .tuple #[IN (loadsM op.toNat).1, .bool (loadsM op.toNat).2] ∧ Ext w w') := by
 obtain ⟨n, rfl, k1, k2⟩ := op_num op h1 h2
 rw [num_op n k2]
 match n, k1, k2 with
 | 1, _, _ => exact loads_z 1#8 (by decide) w
 | 2, _, _ => exact loads_z 2#8 (by decide) w
 | 3, _, _ => exact loads_z 3#8 (by decide) w
 | 4, _, _ => exact loads_z 4#8 (by decide) w
 | 5, _, _ => exact loads_z 5#8 (by decide) w
 | 6, _, _ => exact loads_z 6#8 (by decide) w
 | 7, _, _ => exact loads_z 7#8 (by decide) w
 | 8, _, _ => exact loads_z 8#8 (by decide) w
 | 9, _, _ => exact loads_z 9#8 (by decide) w
 | 10, _, _ => exact loads_z 10#8 (by decide) w
 | 11, _, _ => exact loads_11 w
 | 12, _, _ => exact loads_12 w
 | 13, _, _ => exact loads_13 w
 | 14, _, _ => exact loads_14 w
 | 15, _, _ => exact loads_15 w
 | 16, _, _ => exact loads_16 w
 | 17, _, _ => exact loads_17 w
 | 18, _, _ => exact loads_z 18#8 (by decide) w
 | 19, _, _ => exact loads_z 19#8 (by decide) w
 | 20, _, _ => exact loads_z 20#8 (by decide) w
 | 21, _, _ => exact loads_z 21#8 (by decide) w
 | 22, _, _ => exact loads_z 22#8 (by decide) w
 | 23, _, _ => exact loads_z 23#8 (by decide) w
 | 24, _, _ => exact loads_z 24#8 (by decide) w
 | 25, _, _ => exact loads_z 25#8 (by decide) w
 | 26, _, _ => exact loads_z 26#8 (by decide) w
 | 27, _, _ => exact loads_z 27#8 (by decide) w
 | 28, _, _ => exact loads_z 28#8 (by decide) w
 | 29, _, _ => exact loads_z 29#8 (by decide) w
 | 30, _, _ => exact loads_z 30#8 (by decide) w
 | 31, _, _ => exact loads_z 31#8 (by decide) w
 | 32, _, _ => exact loads_z 32#8 (by decide) w
 | 33, _, _ => exact loads_z 33#8 (by decide) w
 | 34, _, _ => exact loads_z 34#8 (by decide) w
 | 35, _, _ => exact loads_z 35#8 (by decide) w
 | 36, _, _ => exact loads_z 36#8 (by decide) w
 | 37, _, _ => exact loads_z 37#8 (by decide) w
 | 38, _, _ => exact loads_z 38#8 (by decide) w
 | 39, _, _ => exact loads_z 39#8 (by decide) w
 | 40, _, _ => exact loads_z 40#8 (by decide) w
 | 41, _, _ => exact loads_z 41#8 (by decide) w
 | 42, _, _ => exact loads_z 42#8 (by decide) w
 | 43, _, _ => exact loads_z 43#8 (by decide) w
 | 44, _, _ => exact loads_z 44#8 (by decide) w
 | 45, _, _ => exact loads_z 45#8 (by decide) w
 | 46, _, _ => exact loads_z 46#8 (by decide) w
 | 47, _, _ => exact loads_z 47#8 (by decide) w
 | 48, _, _ => exact loads_z 48#8 (by decide) w
 | 49, _, _ => exact loads_z 49#8 (by decide) w
 | 50, _, _ => exact loads_z 50#8 (by decide) w
 | 51, _, _ => exact loads_z 51#8 (by decide) w
 | 52, _, _ => exact loads_z 52#8 (by decide) w
 | 53, _, _ => exact loads_z 53#8 (by decide) w
 | 54, _, _ => exact loads_z 54#8 (by decide) w
 | 55, _, _ => exact loads_z 55#8 (by decide) w
 | 56, _, _ => exact loads_z 56#8 (by decide) w
 | 57, _, _ => exact loads_z 57#8 (by decide) w
 | 58, _, _ => exact loads_z 58#8 (by decide) w
 | 59, _, _ => exact loads_z 59#8 (by decide) w
 | 60, _, _ => exact loads_z 60#8 (by decide) w
 | 61, _, _ => exact loads_z 61#8 (by decide) w
 | 62, _, _ => exact loads_z 62#8 (by decide) w
 | 63, _, _ => exact loads_z 63#8 (by decide) w
 | 64, _, _ => exact loads_z 64#8 (by decide) w
 | 65, _, _ => exact loads_z 65#8 (by decide) w
 | n + 66, _, h => exact absurd h (by omega)
end Go.Proofs.N
end
section
set_option linter.unusedSimpArgs false
set_option linter.unusedVariables false
namespace Go.Proofs.S
open Go Go.Ux Go.Ux.Mach Go.Proofs
theorem ca28 : callable Tryz.prog 28 = true := by kernel_rfl
open Go.Proofs.M (instV Glob of_ok)
def writesF (a : RvInst) : Bool := !((((encodeR a).2 : Nat) : Int) != (0 : Int)) && ((formOf (rvAt a.op.toNat).k).rd && !(a.rd == 0#8))
theorem writes_spec (a : RvInst) (w : World) (hG : Glob w) (ho1 : 1 ≤ a.op.toNat) (ho2 : a.op.toNat < 66)  : CallsR Tryz.prog 71 #[.agg #[U8 a.op, U8 a.rd, U8 a.rs1, U8 a.rs2, I64 a.imm]] w (fun v w' => v = (if writesF a then .tuple #[U8 a.rd, .bool true] else .tuple #[.int .u8 0, .bool false]) ∧ Ext w w') := by
 refine callsR_of Tryz.func71 G G G ?_
 refine Sr (WL.box (v := .agg #[U8 a.op, U8 a.rd, U8 a.rs1, U8 a.rs2, I64 a.imm]) G G ?_)
 intro b1 w1 n1
 have E1 : Ext w w1 := n1.ext
 refine An (U8 (0#8)) G (An (.bool false) G (Ni (Sr (Ls [U8 a.op, U8 a.rd, U8 a.rs1, U8 a.rs2, I64 a.imm] G ag48 sz48 n1.blk (WL.call ca28 G G (encode_spec a _ (hG.ext E1)) ?_)))))
 rintro _ wen ⟨rfl, een⟩
 have E2 := Mt E1 een
 refine Mv (.tuple #[U32 (encodeR a).1, IN (encodeR a).2]) G (Et G G (Et G G (An (U32 ((encodeR a).1)) G (An (IN ((encodeR a).2)) G (Ni (Sr (Fa G fo48_0 ?_)))))))
 have B3 := n1.blk.ext een
 refine Lo G ag5 (B3.cell (j := 0) G) (WL.call ca48 G G (of_ok a.op _ (hG.ext E2) ho1 ho2) ?_)
 rintro _ wof ⟨iv, rfl, hIV, eof⟩
 have E4 := Mt E2 eof
 refine Mv (.tuple #[rowVal iv (rvAt a.op.toNat), .bool true]) G (Et G G (Et G G (WL.allocStore (v := .agg #[.bool ((formOf (rvAt a.op.toNat).k).rd), .bool ((formOf (rvAt a.op.toNat).k).rs1), .bool ((formOf (rvAt a.op.toNat).k).rs2), iv, IN ((formOf (rvAt a.op.toNat).k).noughts), .bool ((formOf (rvAt a.op.toNat).k).signed), U32 ((formOf (rvAt a.op.toNat).k).mask), St (rvAt a.op.toNat).name, U32 ((rvAt a.op.toNat).mtch)]) zt118 G sz118 G G (ones_row hIV.one _ _ _ _ _ _ _ _) G ?_)))
 intro b6 w6 n6
 have E5 := Mt E4 n6.ext
 refine An (.bool true) G (Ni (Sq (Sr (Mv (IN ((encodeR a).2)) G (Bn G G BinR.neq (Mv (.bool (((((encodeR a).2 : Nat) : Int) != (0 : Int)))) G ?_))))))
 rcases Bool.eq_false_or_eq_true (((((encodeR a).2 : Nat) : Int) != (0 : Int))) with hg21 | hg21
 ·refine Gf true (Yb G G hg21) (Gf true (Yb G G hg21) (Gf true (Yb G G hg21) (Gf true (Yb G G hg21) (Pk (b := true) (congrArg Value.bool hg21) G (Mv (.bool true) G (Gf true G (Gf true G (Gf true G (Pk (b := true) G G ?_)))))))))
  refine Ni (Ct G (Sr (An (U8 (0#8)) G (An (.bool false) G (Ni (WC.ret ?_))))))
  have hfin : (.tuple #[U8 (0#8), .bool false] : Value) = (if writesF a then .tuple #[U8 a.rd, .bool true] else .tuple #[.int .u8 0, .bool false]) := by simp only [writesF, *, Bool.true_or, Bool.or_true, Bool.false_or, Bool.or_false, Bool.true_and, Bool.and_true, Bool.false_and, Bool.and_false, Bool.not_true, Bool.not_false, if_true, if_false, Bool.false_eq_true]; first | done | rfl
  exact ⟨_, Res.two (v := U8 (0#8)) (v' := .bool false) G G G, hfin, E5⟩
 ·refine Gt (Yb G G hg21) (Fa G fo118_0 (Gt (Yb G G hg21) (Fa G fo116_0 (Gt (Yb G G hg21) (Lo G ag4 (n6.blk.cell (j := 0) G) (Gt (Yb G G hg21) (WL.un G G UnR.not (Pk (b := false) (congrArg Value.bool hg21) G (Mv (.bool (!((formOf (rvAt a.op.toNat).k).rd))) G ?_)))))))))
  rcases Bool.eq_false_or_eq_true (!((formOf (rvAt a.op.toNat).k).rd)) with hg27 | hg27
  ·have q27 : (formOf (rvAt a.op.toNat).k).rd = false := by simpa using hg27
   refine Gf true (Yb G G hg27) (Gf true (Yb G G hg27) (Gf true (Yb G G hg27) (Pk (b := true) (congrArg Value.bool hg27) G (Ni (Ct G (Sr (An (U8 (0#8)) G (An (.bool false) G ?_))))))))
   refine Ni (WC.ret ?_)
   have hfin : (.tuple #[U8 (0#8), .bool false] : Value) = (if writesF a then .tuple #[U8 a.rd, .bool true] else .tuple #[.int .u8 0, .bool false]) := by simp only [writesF, *, Bool.true_or, Bool.or_true, Bool.false_or, Bool.or_false, Bool.true_and, Bool.and_true, Bool.false_and, Bool.and_false, Bool.not_true, Bool.not_false, if_true, if_false, Bool.false_eq_true]; first | done | rfl
   exact ⟨_, Res.two (v := U8 (0#8)) (v' := .bool false) G G G, hfin, E5⟩
  ·have q27 : (formOf (rvAt a.op.toNat).k).rd = true := by simpa using hg27
   refine Gt (Yb G G hg27) (Fa G fo48_1 (Gt (Yb G G hg27) ?_))
   have B6 := (B3.ext eof).ext n6.ext
   refine Lo G ag5 (B6.cell (j := 1) G) (Gt (Yb G G hg27) (Bn (vy := U8 (0#8)) G G BinR.eqlU8 (Pk (b := false) (congrArg Value.bool hg27) G (Ni ?_))))
   refine WC.cond G (fun hc31 => ?_) (fun hc31 => ?_)
   ·refine Sr (An (U8 (0#8)) G (An (.bool false) G (Ni (WC.ret ?_))))
    have hfin : (.tuple #[U8 (0#8), .bool false] : Value) = (if writesF a then .tuple #[U8 a.rd, .bool true] else .tuple #[.int .u8 0, .bool false]) := by simp only [writesF, *, Bool.true_or, Bool.or_true, Bool.false_or, Bool.or_false, Bool.true_and, Bool.and_true, Bool.false_and, Bool.and_false, Bool.not_true, Bool.not_false, if_true, if_false, Bool.false_eq_true]; first | done | rfl
    exact ⟨_, Res.two (v := U8 (0#8)) (v' := .bool false) G G G, hfin, E5⟩
   ·refine WC.skip (Sr (Fa G fo48_1 (Lo G ag5 (B6.cell (j := 1) G) (An (U8 a.rd) G (An (.bool true) G (Ni (WC.ret ?_)))))))
    have hfin : (.tuple #[U8 a.rd, .bool true] : Value) = (if writesF a then .tuple #[U8 a.rd, .bool true] else .tuple #[.int .u8 0, .bool false]) := by simp only [writesF, *, Bool.true_or, Bool.or_true, Bool.false_or, Bool.or_false, Bool.true_and, Bool.and_true, Bool.false_and, Bool.and_false, Bool.not_true, Bool.not_false, if_true, if_false, Bool.false_eq_true]; first | done | rfl
    exact ⟨_, Res.two (v := U8 a.rd) (v' := .bool true) G G G, hfin, E5⟩
end Go.Proofs.S
end
section
set_option linter.unusedSimpArgs false
set_option linter.unusedVariables false
namespace Go.Proofs.S
open Go Go.Ux Go.Ux.Mach Go.Proofs
theorem ca34 : callable Tryz.prog 34 = true := by kernel_rfl
theorem ca71 : callable Tryz.prog 71 = true := by kernel_rfl
open Go.Proofs.M (instV Glob)
def codeFrom : Nat → Code → Code
 | k + 1, .seq _ b => codeFrom k b
 | 0, c => c
 | _, c => c
noncomputable def tail36 : Code := match Tryz.f36.body with
 | some c => codeFrom 5 c
 | none => .skip
theorem tail_trap (T : Nat → Nat) (b b3 : Nat) (M : MS) (a : RvInst) (v nx : BitVec 64) (errv : Value) (o : Option Bool) (S : Value → World → Prop) (f : Fr) (w : World) (hM : MR T w b M) (f0 : f 0 = ptr b 0) (f3 : f 3 = ptr b3 0) (f7 : f 7 = U64 v) (f8 : f 8 = U64 nx) (f9 : f 9 = errv) (h3 : Blk w b3 #[U8 a.op, U8 a.rd, U8 a.rs1, U8 a.rs2, I64 a.imm] 48) (t3 : T b3 = 0) (hE : EndV w errv o) (hG : Glob w) (hX : w.cell? ⟨3, 0, none⟩ = some (.iface 206 (.agg #[.pointer (some ⟨6, 83, none⟩)]))) (ho : (o == some true) = true) (hS : ∀ w', Ext w w' → S errv w') : WC Tryz.prog tail36 112 f w (Ux.Fin Tryz.prog Tryz.f36 112 S) := by
 obtain ⟨bq, sd, ss, cv, iv, ev, en, hb, ht⟩ := hM
 have nb3 : b3 ≠ b := by intro e; rw [e, ht.tb] at t3; cases t3
 refine Sq (Sr (Mv errv f9 (WL.call ca34 G G (trapped_spec errv o _ hX hE) ?_)))
 rintro _ wt ⟨rfl, et⟩
 rw [ho]
 have E1 : Ext w wt := et
 refine Ni (Ct G (Sr (Mv errv f9 (An errv G (Ni (WC.ret ?_))))))
 exact ⟨_, Res.one (v := errv) G G, hS _ E1⟩
def putM (M : MS) (a : RvInst) (v nx : BitVec 64) : MS := { M with x := (if writesF a && a.op != 63#8 then updR M.x (a.rd).toNat v else M.x), pc := nx }
theorem tail_w (T : Nat → Nat) (b b3 : Nat) (M : MS) (a : RvInst) (v nx : BitVec 64) (errv : Value) (o : Option Bool) (S : Value → World → Prop) (f : Fr) (w : World) (hM : MR T w b M) (f0 : f 0 = ptr b 0) (f3 : f 3 = ptr b3 0) (f7 : f 7 = U64 v) (f8 : f 8 = U64 nx) (f9 : f 9 = errv) (h3 : Blk w b3 #[U8 a.op, U8 a.rd, U8 a.rs1, U8 a.rs2, I64 a.imm] 48) (t3 : T b3 = 0) (hE : EndV w errv o) (hG : Glob w) (hX : w.cell? ⟨3, 0, none⟩ = some (.iface 206 (.agg #[.pointer (some ⟨6, 83, none⟩)]))) (ho : (o == some true) = false) (hEt : ∀ e, errv = .iface 144 (ptr e 0) → T e = 0) (ho1 : 1 ≤ a.op.toNat) (ho2 : a.op.toNat < 66) (hrd : a.rd.toNat < 32) (hw : writesF a = true) (h63 : (a.op != 63#8) = true) (hS : ∀ w', MR T w' b (putM M a v nx) → Mod (Fp T) w w' → EndV w' errv o → S errv w') : WC Tryz.prog tail36 112 f w (Ux.Fin Tryz.prog Tryz.f36 112 S) := by
 obtain ⟨bq, sd, ss, cv, iv, ev, en, hb, ht⟩ := hM
 have nb3 : b3 ≠ b := by intro e; rw [e, ht.tb] at t3; cases t3
 refine Sq (Sr (Mv errv f9 (WL.call ca34 G G (trapped_spec errv o _ hX hE) ?_)))
 rintro _ wt ⟨rfl, et⟩
 rw [ho]
 have E1 : Mod (fun k => T k = 1) w wt := (Mod.ext et)
 refine Ni (Cf G (WC.skip (Sq (Sr ?_))))
 have B2 := h3.ext et
 refine Ls [U8 a.op, U8 a.rd, U8 a.rs1, U8 a.rs2, I64 a.imm] f3 ag48 sz48 B2 (WL.call ca71 G G (writes_spec a _ (hG.ext et) ho1 ho2) ?_)
 rintro v92 ww ⟨hv92, eww⟩
 rw [hw] at hv92
 obtain rfl : v92 = .tuple #[U8 a.rd, .bool true] := hv92
 have E3 : Mod (fun k => T k = 1) w ww := Mt E1 (Mod.ext eww)
 refine Mv (.tuple #[U8 a.rd, .bool true]) G (Et G G (Et G G (An (U8 a.rd) G (An (.bool true) G (Ni (Sr (Mv (.bool true) G (Mv (.bool true) G ?_))))))))
 refine Gt G (Fa f3 fo48_0 (Gt G ?_))
 have B4 := B2.ext eww
 refine Lo G ag5 (B4.cell (j := 0) G) (Gt G (Bn (v := .bool true) (vy := U8 (63#8)) G G (BinR.toB BinR.neqU8 h63) (Pk (b := true) G G (Ni (Ct G (Rg (Mv (ptr b 0) f0 (Mv (U8 a.rd) G (Mv (U64 v) f7 ?_)))))))))
 refine WL.nilCheck G G (Fa G fo85_3 (WL.indexArr1 (i := a.rd.toNat) ar68 sz39 G G hrd G ?_))
 have B5 := (hb.ext et).ext eww
 refine WL.storeB (o := 3 + a.rd.toNat) (v := U64 v) G G G sz39 B5 (show 3 + a.rd.toNat < 39 by omega) ?_
 intro wz mz bz zz
 rw [machCells_set _ _ _ _ _ _ _ _ hrd v] at bz
 have E6 : Mod (fun k => T k = 1) w wz := Mod.trans E3 (mz.imp (fun i _ e => by subst e; exact ht.tb))
 refine Ni (Sr (Mv (ptr b 0) f0 (Mv (U64 nx) f8 (WL.nilCheck G G (Fa G fo85_4 (WL.storeB (v := U64 nx) G G G sz39 bz (Nat.le_of_ble_eq_true G) ?_))))))
 intro ws7 ms7 bs7 zs7
 have E7 : Mod (fun k => T k = 1) w ws7 := Mod.trans E6 (ms7.imp (fun i _ e => by subst e; exact ht.tb))
 refine Ni (Sr (Mv errv f9 (An errv G (Ni (WC.ret ?_)))))
 have hp : putM M a v nx = { M with x := (updR M.x a.rd.toNat v), pc := nx } := by simp only [putM, hw, h63, Bool.true_and, Bool.and_true, Bool.false_and, Bool.and_false, if_true, if_false, Bool.false_eq_true]
 have hfin : MR T ws7 b (putM M a v nx) := by rw [hp]; exact ⟨bq, sd, ss, cv, iv, ev, en, bs7, (ht.other E7).regs (updR M.x a.rd.toNat v) nx M.steps⟩
 exact ⟨_, Res.one (v := errv) G G, hS _ hfin (Mod.fp E7) (hE.mod E7 (fun e h k => by rw [hEt e h] at k; cases k))⟩
theorem tail_f (T : Nat → Nat) (b b3 : Nat) (M : MS) (a : RvInst) (v nx : BitVec 64) (errv : Value) (o : Option Bool) (S : Value → World → Prop) (f : Fr) (w : World) (hM : MR T w b M) (f0 : f 0 = ptr b 0) (f3 : f 3 = ptr b3 0) (f7 : f 7 = U64 v) (f8 : f 8 = U64 nx) (f9 : f 9 = errv) (h3 : Blk w b3 #[U8 a.op, U8 a.rd, U8 a.rs1, U8 a.rs2, I64 a.imm] 48) (t3 : T b3 = 0) (hE : EndV w errv o) (hG : Glob w) (hX : w.cell? ⟨3, 0, none⟩ = some (.iface 206 (.agg #[.pointer (some ⟨6, 83, none⟩)]))) (ho : (o == some true) = false) (hEt : ∀ e, errv = .iface 144 (ptr e 0) → T e = 0) (ho1 : 1 ≤ a.op.toNat) (ho2 : a.op.toNat < 66) (hrd : a.rd.toNat < 32) (hw : writesF a = true) (h63 : (a.op != 63#8) = false) (hS : ∀ w', MR T w' b (putM M a v nx) → Mod (Fp T) w w' → EndV w' errv o → S errv w') : WC Tryz.prog tail36 112 f w (Ux.Fin Tryz.prog Tryz.f36 112 S) := by
 obtain ⟨bq, sd, ss, cv, iv, ev, en, hb, ht⟩ := hM
 have nb3 : b3 ≠ b := by intro e; rw [e, ht.tb] at t3; cases t3
 refine Sq (Sr (Mv errv f9 (WL.call ca34 G G (trapped_spec errv o _ hX hE) ?_)))
 rintro _ wt ⟨rfl, et⟩
 rw [ho]
 have E1 : Mod (fun k => T k = 1) w wt := (Mod.ext et)
 refine Ni (Cf G (WC.skip (Sq (Sr ?_))))
 have B2 := h3.ext et
 refine Ls [U8 a.op, U8 a.rd, U8 a.rs1, U8 a.rs2, I64 a.imm] f3 ag48 sz48 B2 (WL.call ca71 G G (writes_spec a _ (hG.ext et) ho1 ho2) ?_)
 rintro v92 ww ⟨hv92, eww⟩
 rw [hw] at hv92
 obtain rfl : v92 = .tuple #[U8 a.rd, .bool true] := hv92
 have E3 : Mod (fun k => T k = 1) w ww := Mt E1 (Mod.ext eww)
 refine Mv (.tuple #[U8 a.rd, .bool true]) G (Et G G (Et G G (An (U8 a.rd) G (An (.bool true) G (Ni (Sr (Mv (.bool true) G (Mv (.bool true) G ?_))))))))
 refine Gt G (Fa f3 fo48_0 (Gt G ?_))
 have B4 := B2.ext eww
 refine Lo G ag5 (B4.cell (j := 0) G) (Gt G (Bn (v := .bool false) (vy := U8 (63#8)) G G (BinR.toB BinR.neqU8 h63) (Pk (b := true) G G (Ni (Cf G (WC.skip (Sr (Mv (ptr b 0) f0 ?_))))))))
 refine Mv (U64 nx) f8 (WL.nilCheck G G (Fa G fo85_4 ?_))
 have B5 := (hb.ext et).ext eww
 refine WL.storeB (v := U64 nx) G G G sz39 B5 (Nat.le_of_ble_eq_true G) ?_
 intro ws6 ms6 bs6 zs6
 have E6 : Mod (fun k => T k = 1) w ws6 := Mod.trans E3 (ms6.imp (fun i _ e => by subst e; exact ht.tb))
 refine Ni (Sr (Mv errv f9 (An errv G (Ni (WC.ret ?_)))))
 have hp : putM M a v nx = { M with x := M.x, pc := nx } := by simp only [putM, hw, h63, Bool.true_and, Bool.and_true, Bool.false_and, Bool.and_false, if_true, if_false, Bool.false_eq_true]
 have hfin : MR T ws6 b (putM M a v nx) := by rw [hp]; exact ⟨bq, sd, ss, cv, iv, ev, en, bs6, (ht.other E6).regs M.x nx M.steps⟩
 exact ⟨_, Res.one (v := errv) G G, hS _ hfin (Mod.fp E6) (hE.mod E6 (fun e h k => by rw [hEt e h] at k; cases k))⟩
theorem tail_n (T : Nat → Nat) (b b3 : Nat) (M : MS) (a : RvInst) (v nx : BitVec 64) (errv : Value) (o : Option Bool) (S : Value → World → Prop) (f : Fr) (w : World) (hM : MR T w b M) (f0 : f 0 = ptr b 0) (f3 : f 3 = ptr b3 0) (f7 : f 7 = U64 v) (f8 : f 8 = U64 nx) (f9 : f 9 = errv) (h3 : Blk w b3 #[U8 a.op, U8 a.rd, U8 a.rs1, U8 a.rs2, I64 a.imm] 48) (t3 : T b3 = 0) (hE : EndV w errv o) (hG : Glob w) (hX : w.cell? ⟨3, 0, none⟩ = some (.iface 206 (.agg #[.pointer (some ⟨6, 83, none⟩)]))) (ho : (o == some true) = false) (hEt : ∀ e, errv = .iface 144 (ptr e 0) → T e = 0) (ho1 : 1 ≤ a.op.toNat) (ho2 : a.op.toNat < 66) (hrd : a.rd.toNat < 32) (hw : writesF a = false) (hS : ∀ w', MR T w' b (putM M a v nx) → Mod (Fp T) w w' → EndV w' errv o → S errv w') : WC Tryz.prog tail36 112 f w (Ux.Fin Tryz.prog Tryz.f36 112 S) := by
 obtain ⟨bq, sd, ss, cv, iv, ev, en, hb, ht⟩ := hM
 have nb3 : b3 ≠ b := by intro e; rw [e, ht.tb] at t3; cases t3
 refine Sq (Sr (Mv errv f9 (WL.call ca34 G G (trapped_spec errv o _ hX hE) ?_)))
 rintro _ wt ⟨rfl, et⟩
 rw [ho]
 have E1 : Mod (fun k => T k = 1) w wt := (Mod.ext et)
 refine Ni (Cf G (WC.skip (Sq (Sr ?_))))
 have B2 := h3.ext et
 refine Ls [U8 a.op, U8 a.rd, U8 a.rs1, U8 a.rs2, I64 a.imm] f3 ag48 sz48 B2 (WL.call ca71 G G (writes_spec a _ (hG.ext et) ho1 ho2) ?_)
 rintro v92 ww ⟨hv92, eww⟩
 rw [hw] at hv92
 obtain rfl : v92 = .tuple #[.int .u8 0, .bool false] := hv92
 have E3 : Mod (fun k => T k = 1) w ww := Mt E1 (Mod.ext eww)
 refine Mv (.tuple #[.int .u8 0, .bool false]) G (Et G G (Et G G (An (.int .u8 0) G (An (.bool false) G (Ni (Sr (Mv (.bool false) G (Mv (.bool false) G ?_))))))))
 refine Gf false G (Gf false G (Gf false G (Pk (b := false) G G (Ni (Cf G (WC.skip (Sr (Mv (ptr b 0) f0 ?_))))))))
 refine Mv (U64 nx) f8 (WL.nilCheck G G (Fa G fo85_4 ?_))
 have B4 := (hb.ext et).ext eww
 refine WL.storeB (v := U64 nx) G G G sz39 B4 (Nat.le_of_ble_eq_true G) ?_
 intro ws5 ms5 bs5 zs5
 have E5 : Mod (fun k => T k = 1) w ws5 := Mod.trans E3 (ms5.imp (fun i _ e => by subst e; exact ht.tb))
 refine Ni (Sr (Mv errv f9 (An errv G (Ni (WC.ret ?_)))))
 have hp : putM M a v nx = { M with x := M.x, pc := nx } := by simp only [putM, hw, Bool.true_and, Bool.and_true, Bool.false_and, Bool.and_false, if_true, if_false, Bool.false_eq_true]
 have hfin : MR T ws5 b (putM M a v nx) := by rw [hp]; exact ⟨bq, sd, ss, cv, iv, ev, en, bs5, (ht.other E5).regs M.x nx M.steps⟩
 exact ⟨_, Res.one (v := errv) G G, hS _ hfin (Mod.fp E5) (hE.mod E5 (fun e h k => by rw [hEt e h] at k; cases k))⟩
theorem tail_go (T : Nat → Nat) (b b3 : Nat) (M : MS) (a : RvInst) (v nx : BitVec 64) (errv : Value) (o : Option Bool) (S : Value → World → Prop) (f : Fr) (w : World) (hM : MR T w b M) (f0 : f 0 = ptr b 0) (f3 : f 3 = ptr b3 0) (f7 : f 7 = U64 v) (f8 : f 8 = U64 nx) (f9 : f 9 = errv) (h3 : Blk w b3 #[U8 a.op, U8 a.rd, U8 a.rs1, U8 a.rs2, I64 a.imm] 48) (t3 : T b3 = 0) (hE : EndV w errv o) (hG : Glob w) (hX : w.cell? ⟨3, 0, none⟩ = some (.iface 206 (.agg #[.pointer (some ⟨6, 83, none⟩)]))) (ho : (o == some true) = false) (hEt : ∀ e, errv = .iface 144 (ptr e 0) → T e = 0) (ho1 : 1 ≤ a.op.toNat) (ho2 : a.op.toNat < 66) (hrd : a.rd.toNat < 32) (hS : ∀ w', MR T w' b (putM M a v nx) → Mod (Fp T) w w' → EndV w' errv o → S errv w') : WC Tryz.prog tail36 112 f w (Ux.Fin Tryz.prog Tryz.f36 112 S) := by
 rcases hw : writesF a with _ | _
 ·exact tail_n T b b3 M a v nx errv o S f w hM f0 f3 f7 f8 f9 h3 t3 hE hG hX ho hEt ho1 ho2 hrd hw hS
 ·rcases h63 : (a.op != 63#8) with _ | _
  ·exact tail_f T b b3 M a v nx errv o S f w hM f0 f3 f7 f8 f9 h3 t3 hE hG hX ho hEt ho1 ho2 hrd hw h63 hS
  ·exact tail_w T b b3 M a v nx errv o S f w hM f0 f3 f7 f8 f9 h3 t3 hE hG hX ho hEt ho1 ho2 hrd hw h63 hS
end Go.Proofs.S
end
section
namespace Go.Proofs.S
open Go Go.Ux Go.Ux.Mach Go.RowKit Go.Shelf Go.Proofs
attribute [local go_sem] Oper.semAt_some
def loadV (d s : Nat → BitVec 8) (k : Bool) (off size : Nat) (signs : Bool) : BitVec 64 :=
 if signs then signW (loadB (if k then d else s) off size) (8 * size) else loadB (if k then d else s) off size
def LoadR (w : World) (d s : Nat → BitVec 8) (n : Nat) (addr : BitVec 64) (size : Nat) (signs : Bool) (v : Value) (w' : World) : Prop :=
 match whereM n addr size with
 | none => ∃ e, v = .tuple #[.int .u64 0, .iface 144 (ptr e 0)] ∧ Blk w' e #[.bool true] 148 ∧ w.heap.size ≤ e
 | some (k, off) => v = .tuple #[U64 (loadV d s k off size signs), .nilIface]
theorem nil45 (w : World) : (binOp .eql 45 (.slice none 0 0) (.slice none 0 0)).run Tryz.prog w = .ok (.bool true) w := by kernel_rfl
theorem non45 (a : Addr) (n c : Nat) (w : World) : (binOp .eql 45 (.slice (some a) n c) (.slice none 0 0)).run Tryz.prog w = .ok (.bool false) w := by
 have e : (Op.equal 45 (.slice (some a) n c) (.slice none 0 0)).run Tryz.prog w = .ok false w := equalIn_sl 9999 Tryz.underlying45 w
 simp only [binOp, Sem.run_bind, Sem.run_pure, Result.andThen]; simp [e]
def valB (pre : List (Int × BitVec 8)) : BitVec 64 := pre.foldl (fun v x => (v <<< 8) ||| x.2.setWidth 64) 0#64
theorem valB_snoc (pre : List (Int × BitVec 8)) (x : Int × BitVec 8) : valB (pre ++ [x]) = (valB pre <<< 8) ||| x.2.setWidth 64 := by simp [valB]
theorem valB_back (f : Nat → BitVec 8) (o size : Nat) : ∀ k, valB (backB (fun j => f (o + j)) size k) = loadR f o size k
 | 0 => rfl
 | k + 1 => by
  have e : backB (fun j => f (o + j)) size (k + 1) = backB (fun j => f (o + j)) size k ++ [((size : Int) - 1 - (k : Int), f (o + (size - 1 - k)))] := upto_succ _ k
  rw [e, valB_snoc, valB_back f o size k]; rfl
theorem step8 (x : BitVec 64) (c : BitVec 8) : Value.int .u64 (Go.bits .or .u64 (IntKind.u64.wrap ((x.toNat : Int) * 256)) (c.toNat : Int)) = U64 ((x <<< 8) ||| c.setWidth 64) := by
 have h1 : IntKind.u64.wrap ((x.toNat : Int) * 256) = ((x <<< 8).toNat : Int) := by
  rw [wrap_u64_bv]
  congr 1
  rw [BitVec.toNat_shiftLeft, BitVec.toNat_ofInt, Nat.shiftLeft_eq]
  omega
 have h2 : (c.toNat : Int) = ((c.setWidth 64).toNat : Int) := by
  rw [BitVec.toNat_setWidth]
  omega
 rw [h1, h2]
 have e : Go.bits .or .u64 ((x <<< 8).toNat : Int) ((c.setWidth 64).toNat : Int) = IntKind.u64.wrap (((x <<< 8) ||| c.setWidth 64).toNat : Int) := by
  unfold Go.bits; simp only [IntKind.bits, ofInt_toNat_id]; rfl
 rw [e, wrap_u64_bv, ofInt_toNat_id]
attribute [local go_sem] nil45 non45
set_option maxHeartbeats 4000000 in
theorem load_spec (b bq n : Nat) (sd ss : Value) (d s : Nat → BitVec 8) (addr : BitVec 64) (size : Nat) (signs : Bool) (w : World) (hM : w.cell? ⟨b, 0, none⟩ = some (.slice (some ⟨bq, 0, none⟩) 2 2)) (hB : Blk w bq #[U64 4194304#64, sd, U64 8323072#64, ss] 91) (hd : Ux.Own w 1 sd n (bsV d n)) (hs : Ux.Own w 1 ss 65536 (bsV s 65536)) (hn : n ≤ 140737488355328) (h0 : 0 < size) (h8 : size ≤ 8) :
  CallsR Tryz.prog 37 #[ptr b 0, U64 addr, IN size, .bool signs] w (fun v w' => LoadR w d s n addr size signs v w' ∧ Ext w w') := by
 have hat := at_spec bq sd ss n (bsV d n) (bsV s 65536) addr size w hB hd hs hn h0 h8
 refine (callsIn_wide (n := 5)).1 ?_
 refine callsIn_of_wp_marks Tryz.func37 G trivial ?_ G
 simp only [Tryz.ntmps37, List.size_toArray, List.length_cons, List.length_nil, Nat.reduceAdd, Nat.reduceSub, Array.replicate_succ, Array.replicate_zero, List.push_toArray, List.append_toArray, List.nil_append, List.cons_append]
 gi_wp2_with (refine ⟨trivial, ?_⟩; gi_at_call 72; refine (callsIn_wide.2 hat).mono ?_; rintro e w' ⟨v, rfl, (⟨hw, rfl⟩ | ⟨i, g, c, c', hi, hw, hg, rfl, hle⟩), hx⟩)
 ·gi_wp2
  refine ⟨_, results_tmp2 G _ _ _, _, G, ?_, hx.trans (Mod.ext (alloc_ext w' _))⟩
  unfold LoadR; rw [hw]
  exact ⟨w'.heap.size, G, alloc_blk w' _ _, hx.size⟩
 ·gi_wp2_with (refine ⟨trivial, ?_⟩; gi_at_call 73; refine (bytes_in Fence.wide _ trivial rfl _ _ _ _).mono ?_; rintro e w1 ⟨rfl, rfl⟩)
  obtain ⟨W0, hW0⟩ : ∃ W0, (w'.alloc (.cells #[.int .u64 0] 39)).alloc (.cells #[.slice (some ⟨g, addr.toNat - (aB i).toNat, none⟩) size c'] 45) = W0 := ⟨_, rfl⟩
  have hsz : W0.heap.size = w'.heap.size + 2 := by rw [← hW0]; simp
  have hx2 : Below w'.heap.size w' W0 := by rw [← hW0]; exact ((Below.refl _ w').alloc (Nat.le_refl _) _).alloc (by simp) _
  have hbs : W0.cell? ⟨w'.heap.size + 1, 0, none⟩ = some (.slice (some ⟨g, addr.toNat - (aB i).toNat, none⟩) size c') := by
   rw [← hW0]; have := (alloc_blk (w'.alloc (.cells #[.int .u64 0] 39)) #[.slice (some ⟨g, addr.toNat - (aB i).toNat, none⟩) size c'] 45).cell (j := 0) rfl; simpa using this
  have hbx : Blk W0 w'.heap.size #[.int .u64 0] 39 := by
   rw [← hW0]; exact (alloc_blk w' #[.int .u64 0] 39).ext (alloc_ext _ _)
  obtain ⟨gd, hz⟩ : ∃ z : Nat → BitVec 8, z = fun j => (if decide (i = 0) then d else s) (addr.toNat - (aB i).toNat + j) := ⟨_, rfl⟩
  have hxX : Ext w W0 := hx.trans (ext_of_below hx2)
  have hg0 : g < w.heap.size ∧ ∀ j, j < size → W0.cell? ⟨g, addr.toNat - (aB i).toNat + j, none⟩ = some (U8 (gd j)) := by
   have ho := area_own hd hs i
   obtain ⟨g', c'', hg', _, hcc⟩ := ho.at (by omega)
   rw [hg] at hg'; cases hg'
   have hcell : ∀ j, j < aN n i → w.cell? ⟨g, j, none⟩ = some (U8 ((if decide (i = 0) then d else s) j)) := fun j hj => by
    have := hcc j (U8 ((if decide (i = 0) then d else s) j)) (by
     unfold aX aN at *
     by_cases e : i = 0
     ·simp only [e, if_true, decide_true] at hj ⊢; exact bsV_get d hj
     ·simp only [e, if_false, decide_false] at hj ⊢; exact bsV_get s hj)
    rwa [Nat.zero_add] at this
   refine ⟨World.block_lt_of_cell? w _ (hcell (addr.toNat - (aB i).toNat) (by omega)), fun j hj => ?_⟩
   rw [hz]; exact hxX.cell (hcell _ (by omega)) (fun h => h)
  obtain ⟨hg1, hg2⟩ := hg0
  have hg3 := hx.size
  rw [hW0]
  have hval : valB (backB gd size size) = loadB (if decide (i = 0) then d else s) (addr.toNat - (aB i).toNat) size := by rw [hz]; exact valB_back _ _ _ _
  have hlT : ∀ W1, LoadR w d s n addr size true (.tuple #[U64 (signW (valB (backB gd size size)) (8 * size)), .nilIface]) W1 := fun W1 => by unfold LoadR; rw [hw, hval]; rfl
  have hlF : ∀ W1, LoadR w d s n addr size false (.tuple #[U64 (valB (backB gd size size)), .nilIface]) W1 := fun W1 => by unfold LoadR; rw [hw, hval]; rfl
  clear hz hW0 hval hw hxX
  refine wpIn_rangeFunc_ownF G (by omega) (gf := 97) (lb := #[.pointer (some ⟨w'.heap.size + 1, 0, none⟩)]) G trivial (enters_of Tryz.func97 (by kernel_rfl) G)
   (bytes_stops Fence.wide _ trivial rfl (by omega) (w'.heap.size + 1) g (addr.toNat - (aB i).toNat) size c' gd (by omega) W0 (by omega) (by omega) (Kp := KeepX w'.heap.size (w'.heap.size + 2)) (KeepX.refl _ _) (fun h k => h.trans k) (fun h hc => h.cell (by omega) (by omega) hc) (fun h hc => h.cell (by omega) (by omega) hc) hbs hg2)
   (fun h k => h.trans k) (KeepX.put (by omega)) (Below.refl _ _) (fun _ => rfl)
   (fun pre W => (W.cell? ⟨w'.heap.size, 0, none⟩ = some (U64 (valB pre)) ∧ W.frozen? ⟨w'.heap.size, 0, none⟩ = false) ∧ Below w'.heap.size w' W)
   (fun _ _ _ => False)
   (OwnFrom.and (Own.from (fun s A B row hs hg hr => ⟨cell_kept hs.1 hg hr, (frozen_kept hs.1 hg hr).trans hs.2⟩) _) (ownFrom_below (Nat.le_refl _) (by omega)))
   (fun _ _ _ _ _ hs _ _ => hs)
   ⟨⟨hbx.cell rfl, hbx.frozen 0⟩, hx2⟩
   (fun x => { tmps := #[ptr b 0, U64 addr, IN size, .bool signs, undef, undef, undef, undef, .int .u64 0, .nilIface, .slice (some ⟨g, addr.toNat - (aB i).toNat, none⟩) size c', .pointer (some ⟨w'.heap.size, 0, none⟩), undef, U8 x.2, ptr b 0, .pointer (some ⟨b, 0, none⟩), .pointer (some ⟨b, 0, none⟩), .slice (some ⟨bq, 0, none⟩) 2 2, U64 addr, IN size, .slice (some ⟨g, addr.toNat - (aB i).toNat, none⟩) size c', .slice (some ⟨g, addr.toNat - (aB i).toNat, none⟩) size c', .bool false, undef, undef, undef, .slice (some ⟨g, addr.toNat - (aB i).toNat, none⟩) size c', .func (.func 97) #[] #[.pointer (some ⟨w'.heap.size + 1, 0, none⟩)], .int .i64 x.1, U8 x.2, undef, undef, undef, undef, undef, undef, undef, undef, undef, undef, undef], defers := [] }) ?assign ?body ?done ?stop
  case assign =>
   intro l x W K hK
   gi_wp2
   exact hK
  case body =>
   rintro l pre x W ⟨⟨hc, hf⟩, hB⟩ _
   gi_wp2
   exact ⟨KeepsOthers.setCell _ _ _, KeepX.set _ _ _ _, ⟨by rw [valB_snoc, ← step8]; exact World.cell?_setCell_same' _ _ _ (by rw [hc]; rfl), by rw [World.frozen?_setCell]; exact hf⟩, hB.setCell (p := ⟨w'.heap.size, 0, none⟩) (Nat.le_refl _) _⟩
  case done =>
   rintro D ys W hD rfl ⟨⟨hc, hf⟩, hB⟩ hK
   have hDl : D < W.heap.size := (Array.getElem?_eq_some_iff.1 hK).1
   have hs8 : 8 * size ≤ 64 := by omega
   gi_wp2_with (refine ⟨trivial, ?_⟩; gi_at_call 74; rw [show (8 * (size : Int)) = ((8 * size : Nat) : Int) by omega]; refine (callsIn_wide.2 (N.sign_spec _ _ _ hs8)).mono ?_; rintro e w2 ⟨v, rfl, rfl, hx3⟩; have hc2 := hx3.cell hc (fun h => h); have hf2 : w2.frozen? ⟨w'.heap.size, 0, none⟩ = false := (World.frozen?_of_block (a := ⟨w'.heap.size, 0, none⟩) (hx3.block w'.heap.size (World.block_lt_of_cell? W _ hc) (fun h => h))).trans hf)
   ·have hk2 : (w2.setCell ⟨w'.heap.size, 0, none⟩ (U64 (signW (valB (backB gd size size)) (8 * size)))).heap[D]? = some (Obj.deferred (some [])) :=
     (Below.heap_setCell w2 ⟨w'.heap.size, 0, none⟩ _ D (by show D ≠ w'.heap.size; omega)).trans ((hx3.block D hDl (fun h => h)).trans hK)
    refine ⟨by simp, .inl ⟨_, _, rfl, run_takeDeferred hk2, ?_⟩⟩
    refine ⟨_, results_tmp2 G _ _ _, _, G, ?_, hx.trans (ext_of_below (((hB.trans (hx3.below.mono hB.size)).setCell (p := ⟨w'.heap.size, 0, none⟩) (Nat.le_refl _) _).trans (belowK_b (w := w') (Nat.le_refl _) _ D _ _ (by omega) hk2 G G)))⟩
    obtain rfl : signs = true := by assumption
    exact hlT _
   ·refine ⟨by simp, .inl ⟨_, _, rfl, run_takeDeferred hK, ?_⟩⟩
    refine ⟨_, results_tmp2 G _ _ _, _, G, ?_, hx.trans (ext_of_below (hB.trans (belowK_b (w := w') (Nat.le_refl _) W D _ _ (by omega) hK G G)))⟩
    obtain rfl : signs = false := by assumption
    exact hlF _
  case stop =>
   rintro D c pre W _ _ h _
   exact h.elim
end Go.Proofs.S
end
