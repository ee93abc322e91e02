/- Steps of the proof, packed by program: McS5 McAs McS6 UxRound McS7 McRange McSpread McSprd McW9. -/
import Derived.Test.YtlabgjcjccdjfaaGreatDoorRows
import Derived.LaidEql
import Derived.Stop.Asserts
import Derived.RowKitTokens
import Derived.RangeFuncNested
import Derived.RangeFuncLeaves
import Derived.OrdersIn
import Derived.TacticsIn
import Derived.RangeFuncBox
import Derived.RangeFuncFrom
import Derived.Shelf.Abstract
import Derived.WalkKit
import Derived.OwnWalkIn
import Derived.TacticsInMore
import Derived.LoopNIn
import Derived.LoopIn
import Derived.Test.YtlabgjcjccdjfaaGreatDoorMpackQ02
import Derived.Test.YtlabgjcjccdjfaaGreatDoorMpackQ03
import Derived.Test.YtlabgjcjccdjfaaGreatDoorMpackQ04
set_option linter.unusedVariables false
set_option linter.unusedSimpArgs false
set_option linter.unnecessarySimpa false
set_option maxRecDepth 100000
section
set_option linter.unusedSimpArgs false
set_option linter.unusedVariables false
namespace Go.Proofs.S
open Go Go.Ux Go.Ux.Mach Go.Proofs
theorem zt48 : zeroT Tryz.prog 48 = some #[.int .u8 0, .int .u8 0, .int .u8 0, .int .u8 0, .int .i64 0] := by kernel_rfl
theorem fo85_4 : fieldOff Tryz.prog 85 4 = some 35 := by kernel_rfl
theorem bld35_32  : ∀ w : World, (Instr.build 48 #[]).run Tryz.prog w = .ok (.agg #[.int .u8 0, .int .u8 0, .int .u8 0, .int .u8 0, IN 0]) w := fun _ => by kernel_rfl
theorem bld35_33  : ∀ w : World, (Instr.build 148 #[(0, .bool true)]).run Tryz.prog w = .ok (.agg #[.bool true]) w := fun _ => by kernel_rfl
theorem sz48 : sizeT Tryz.prog 48 = some 5 := by kernel_rfl
theorem ag48 : isAggT Tryz.prog 48 = some true := by kernel_rfl
theorem fo85_1 : fieldOff Tryz.prog 85 1 = some 1 := by kernel_rfl
theorem ag81 : isAggT Tryz.prog 81 = some false := by kernel_rfl
theorem el81 : elemT Tryz.prog 81 = some 89 := by kernel_rfl
theorem sz89 : sizeT Tryz.prog 89 = some 6 := by kernel_rfl
theorem ag89 : isAggT Tryz.prog 89 = some true := by kernel_rfl
theorem zt89 : zeroT Tryz.prog 89 = some #[.int .u8 0, .int .u8 0, .int .u8 0, .int .u8 0, .int .i64 0, .bool false] := by kernel_rfl
theorem fo89_1 : fieldOff Tryz.prog 89 1 = some 5 := by kernel_rfl
theorem ag4 : isAggT Tryz.prog 4 = some false := by kernel_rfl
theorem bld35_47  : ∀ w : World, (Instr.build 48 #[]).run Tryz.prog w = .ok (.agg #[.int .u8 0, .int .u8 0, .int .u8 0, .int .u8 0, IN 0]) w := fun _ => by kernel_rfl
theorem bld35_48  : ∀ w : World, (Instr.build 148 #[(0, .bool true)]).run Tryz.prog w = .ok (.agg #[.bool true]) w := fun _ => by kernel_rfl
theorem fo89_0 : fieldOff Tryz.prog 89 0 = some 0 := by kernel_rfl
open Go.Proofs.M (instV)
theorem next_a (T : Nat → Nat) (b : Nat) (M : MS) (w : World) (h : MR T w b M) (hcl : M.code.length ≤ 1000000) (h1 : BitVec.ult M.pc 65536#64 = true) : CallsR Tryz.prog 35 #[ptr b 0] w (fun v w' => (∃ e, v = .tuple #[instV ⟨0#8, 0#8, 0#8, 0#8, 0#64⟩, .iface 144 (ptr e 0)] ∧ Blk w' e #[.bool true] 148 ∧ w.heap.size ≤ e) ∧ Ext w w') := by
 obtain ⟨bq, sd, ss, cv, iv, ev, en, hb, ht⟩ := h
 refine callsR_of Tryz.func35 G G G ?_
 refine Sr (WL.alloc zt48 G ?_)
 intro b2 w2 n2
 have E1 : Ext w w2 := n2.ext
 refine An .nilIface G (Ni (Sr (Mv (ptr b 0) G (WL.nilCheck G G (Fa G fo85_4 ?_)))))
 have B2 := hb.ext n2.ext
 refine Lo G ag39 (B2.cell (j := 35) G) (Bn (vy := U64 (65536#64)) G G BinR.subU64 (An (U64 ((M.pc - 65536#64))) G (Ni (Sq (Sr (Mv (ptr b 0) G (WL.nilCheck G G (Fa G fo85_4 ?_))))))))
 refine Lo G ag39 (B2.cell (j := 35) G) (Bn (v := .bool true) (vy := U64 (65536#64)) G G (BinR.toB BinR.lssU64 h1) (Mv (.bool true) G (Gf true G (Gf true G (Gf true G (Pk (b := true) G G (Mv (.bool true) G (Gf true G (Gf true G ?_)))))))))
 refine Gf true G (Gf true G (Gf true G (Gf true G (Gf true G (Gf true G (Gf true G (Pk (b := true) G G (Ni (Ct G ?_)))))))))
 refine Sr (WL.build (v := .agg #[.int .u8 0, .int .u8 0, .int .u8 0, .int .u8 0, IN 0]) (vs := []) G bld35_32 G (WL.build (v := .agg #[.bool true]) (vs := [(0, .bool true)]) G bld35_33 G (WL.box (v := .agg #[.bool true]) G G ?_)))
 intro b34 w34 n34
 have E3 := Mt E1 n34.ext
 refine WL.mkiface (v := ptr b34 0) G nif144 G ?_
 have B4 := n2.blk.ext n34.ext
 refine WL.storeS (v := .agg #[.int .u8 0, .int .u8 0, .int .u8 0, .int .u8 0, IN 0]) G G B4 G sz48 G G ?_
 intro ws5 ms5 bs5 zs5
 have E5 : Ext w ws5 := Mod.own (Mod.refl _ _) n2 E3 ms5
 refine An (.iface 144 (ptr b34 0)) G (Ni (WC.ret ?_))
 have B6 := n34.blk.mod ms5 (Ne.symm (n2.blk.ne n34))
 exact ⟨_, Res.cellTmp (v' := .iface 144 (ptr b34 0)) rfl rfl (loadVar_agg [.int .u8 0, .int .u8 0, .int .u8 0, .int .u8 0, IN 0] ag48 sz48 rfl (bs5.sub (o := 0) rfl)) rfl, ⟨b34, rfl, B6, by have := n34.num; have := Mod.size E1; omega⟩, E5⟩
theorem next_b (T : Nat → Nat) (b : Nat) (M : MS) (w : World) (h : MR T w b M) (hcl : M.code.length ≤ 1000000) (h1 : BitVec.ult M.pc 65536#64 = false) (h2 : ((M.pc - 65536#64) % 4#64 != 0#64) = true) : CallsR Tryz.prog 35 #[ptr b 0] w (fun v w' => (∃ e, v = .tuple #[instV ⟨0#8, 0#8, 0#8, 0#8, 0#64⟩, .iface 144 (ptr e 0)] ∧ Blk w' e #[.bool true] 148 ∧ w.heap.size ≤ e) ∧ Ext w w') := by
 obtain ⟨bq, sd, ss, cv, iv, ev, en, hb, ht⟩ := h
 refine callsR_of Tryz.func35 G G G ?_
 refine Sr (WL.alloc zt48 G ?_)
 intro b2 w2 n2
 have E1 : Ext w w2 := n2.ext
 refine An .nilIface G (Ni (Sr (Mv (ptr b 0) G (WL.nilCheck G G (Fa G fo85_4 ?_)))))
 have B2 := hb.ext n2.ext
 refine Lo G ag39 (B2.cell (j := 35) G) (Bn (vy := U64 (65536#64)) G G BinR.subU64 (An (U64 ((M.pc - 65536#64))) G (Ni (Sq (Sr (Mv (ptr b 0) G (WL.nilCheck G G (Fa G fo85_4 ?_))))))))
 refine Lo G ag39 (B2.cell (j := 35) G) (Bn (v := .bool false) (vy := U64 (65536#64)) G G (BinR.toB BinR.lssU64 h1) (Mv (.bool false) G (Gt G (Mv (U64 ((M.pc - 65536#64))) G (Gt G (Bn (vy := U64 (4#64)) G G (BinR.remU64 (by decide)) (Gt G (Bn (v := .bool true) (vy := U64 (0#64)) G G (BinR.toB BinR.neqU64 h2) (Pk (b := false) G G ?_)))))))))
 refine Mv (.bool true) G (Gf true G (Gf true G (Gf true G (Gf true G (Gf true G (Gf true G (Gf true G (Gf true G (Gf true G ?_)))))))))
 refine Pk (b := true) G G (Ni (Ct G (Sr (WL.build (v := .agg #[.int .u8 0, .int .u8 0, .int .u8 0, .int .u8 0, IN 0]) (vs := []) G bld35_32 G (WL.build (v := .agg #[.bool true]) (vs := [(0, .bool true)]) G bld35_33 G (WL.box (v := .agg #[.bool true]) G G ?_))))))
 intro b34 w34 n34
 have E3 := Mt E1 n34.ext
 refine WL.mkiface (v := ptr b34 0) G nif144 G ?_
 have B4 := n2.blk.ext n34.ext
 refine WL.storeS (v := .agg #[.int .u8 0, .int .u8 0, .int .u8 0, .int .u8 0, IN 0]) G G B4 G sz48 G G ?_
 intro ws5 ms5 bs5 zs5
 have E5 : Ext w ws5 := Mod.own (Mod.refl _ _) n2 E3 ms5
 refine An (.iface 144 (ptr b34 0)) G (Ni (WC.ret ?_))
 have B6 := n34.blk.mod ms5 (Ne.symm (n2.blk.ne n34))
 exact ⟨_, Res.cellTmp (v' := .iface 144 (ptr b34 0)) rfl rfl (loadVar_agg [.int .u8 0, .int .u8 0, .int .u8 0, .int .u8 0, IN 0] ag48 sz48 rfl (bs5.sub (o := 0) rfl)) rfl, ⟨b34, rfl, B6, by have := n34.num; have := Mod.size E1; omega⟩, E5⟩
theorem next_c (T : Nat → Nat) (b : Nat) (M : MS) (w : World) (h : MR T w b M) (hcl : M.code.length ≤ 1000000) (h1 : BitVec.ult M.pc 65536#64 = false) (h2 : ((M.pc - 65536#64) % 4#64 != 0#64) = false) (h3 : BitVec.ule (BitVec.ofNat 64 M.code.length) ((M.pc - 65536#64) / 4#64) = true) : CallsR Tryz.prog 35 #[ptr b 0] w (fun v w' => (∃ e, v = .tuple #[instV ⟨0#8, 0#8, 0#8, 0#8, 0#64⟩, .iface 144 (ptr e 0)] ∧ Blk w' e #[.bool true] 148 ∧ w.heap.size ≤ e) ∧ Ext w w') := by
 obtain ⟨bq, sd, ss, cv, iv, ev, en, hb, ht⟩ := h
 refine callsR_of Tryz.func35 G G G ?_
 refine Sr (WL.alloc zt48 G ?_)
 intro b2 w2 n2
 have E1 : Ext w w2 := n2.ext
 refine An .nilIface G (Ni (Sr (Mv (ptr b 0) G (WL.nilCheck G G (Fa G fo85_4 ?_)))))
 have B2 := hb.ext n2.ext
 refine Lo G ag39 (B2.cell (j := 35) G) (Bn (vy := U64 (65536#64)) G G BinR.subU64 (An (U64 ((M.pc - 65536#64))) G (Ni (Sq (Sr (Mv (ptr b 0) G (WL.nilCheck G G (Fa G fo85_4 ?_))))))))
 refine Lo G ag39 (B2.cell (j := 35) G) (Bn (v := .bool false) (vy := U64 (65536#64)) G G (BinR.toB BinR.lssU64 h1) (Mv (.bool false) G (Gt G (Mv (U64 ((M.pc - 65536#64))) G (Gt G (Bn (vy := U64 (4#64)) G G (BinR.remU64 (by decide)) (Gt G (Bn (v := .bool false) (vy := U64 (0#64)) G G (BinR.toB BinR.neqU64 h2) (Pk (b := false) G G ?_)))))))))
 refine Mv (.bool false) G (Gt G (Mv (U64 ((M.pc - 65536#64))) G (Gt G (Bn (vy := U64 (4#64)) G G (BinR.quoU64 (by decide)) (Gt G (Mv (ptr b 0) G (Gt G (WL.nilCheck G G (Gt G ?_)))))))))
 refine Fa G fo85_1 (Gt G (Lo G ag81 (B2.cell (j := 1) G) (Gt G (WL.lenSl (sz := 6) (m := M.code.length) (xs := codeV M.code) el81 G (ht.code.ext' E1) G (Gt G (Cv G (ConvR.nu64 Tryz.underlying3 Tryz.underlying39) (Gt G (Bn (v := .bool true) G G (BinR.toB BinR.geqU64 h3) (Pk (b := false) G G ?_)))))))))
 refine Ni (Ct G (Sr (WL.build (v := .agg #[.int .u8 0, .int .u8 0, .int .u8 0, .int .u8 0, IN 0]) (vs := []) G bld35_32 G (WL.build (v := .agg #[.bool true]) (vs := [(0, .bool true)]) G bld35_33 G (WL.box (v := .agg #[.bool true]) G G ?_)))))
 intro b34 w34 n34
 have E3 := Mt E1 n34.ext
 refine WL.mkiface (v := ptr b34 0) G nif144 G ?_
 have B4 := n2.blk.ext n34.ext
 refine WL.storeS (v := .agg #[.int .u8 0, .int .u8 0, .int .u8 0, .int .u8 0, IN 0]) G G B4 G sz48 G G ?_
 intro ws5 ms5 bs5 zs5
 have E5 : Ext w ws5 := Mod.own (Mod.refl _ _) n2 E3 ms5
 refine An (.iface 144 (ptr b34 0)) G (Ni (WC.ret ?_))
 have B6 := n34.blk.mod ms5 (Ne.symm (n2.blk.ne n34))
 exact ⟨_, Res.cellTmp (v' := .iface 144 (ptr b34 0)) rfl rfl (loadVar_agg [.int .u8 0, .int .u8 0, .int .u8 0, .int .u8 0, IN 0] ag48 sz48 rfl (bs5.sub (o := 0) rfl)) rfl, ⟨b34, rfl, B6, by have := n34.num; have := Mod.size E1; omega⟩, E5⟩
theorem next_d (T : Nat → Nat) (b : Nat) (M : MS) (w : World) (h : MR T w b M) (hcl : M.code.length ≤ 1000000) (h1 : BitVec.ult M.pc 65536#64 = false) (h2 : ((M.pc - 65536#64) % 4#64 != 0#64) = false) (h3 : BitVec.ule (BitVec.ofNat 64 M.code.length) ((M.pc - 65536#64) / 4#64) = false) (a : RvInst) (hlt : nextI M < M.code.length) (hat : M.code[nextI M]? = some (a, false)) : CallsR Tryz.prog 35 #[ptr b 0] w (fun v w' => (∃ e, v = .tuple #[instV ⟨0#8, 0#8, 0#8, 0#8, 0#64⟩, .iface 144 (ptr e 0)] ∧ Blk w' e #[.bool true] 148 ∧ w.heap.size ≤ e) ∧ Ext w w') := by
 obtain ⟨bq, sd, ss, cv, iv, ev, en, hb, ht⟩ := h
 refine callsR_of Tryz.func35 G G G ?_
 refine Sr (WL.alloc zt48 G ?_)
 intro b2 w2 n2
 have E1 : Ext w w2 := n2.ext
 refine An .nilIface G (Ni (Sr (Mv (ptr b 0) G (WL.nilCheck G G (Fa G fo85_4 ?_)))))
 have B2 := hb.ext n2.ext
 refine Lo G ag39 (B2.cell (j := 35) G) (Bn (vy := U64 (65536#64)) G G BinR.subU64 (An (U64 ((M.pc - 65536#64))) G (Ni (Sq (Sr (Mv (ptr b 0) G (WL.nilCheck G G (Fa G fo85_4 ?_))))))))
 refine Lo G ag39 (B2.cell (j := 35) G) (Bn (v := .bool false) (vy := U64 (65536#64)) G G (BinR.toB BinR.lssU64 h1) (Mv (.bool false) G (Gt G (Mv (U64 ((M.pc - 65536#64))) G (Gt G (Bn (vy := U64 (4#64)) G G (BinR.remU64 (by decide)) (Gt G (Bn (v := .bool false) (vy := U64 (0#64)) G G (BinR.toB BinR.neqU64 h2) (Pk (b := false) G G ?_)))))))))
 refine Mv (.bool false) G (Gt G (Mv (U64 ((M.pc - 65536#64))) G (Gt G (Bn (vy := U64 (4#64)) G G (BinR.quoU64 (by decide)) (Gt G (Mv (ptr b 0) G (Gt G (WL.nilCheck G G (Gt G ?_)))))))))
 refine Fa G fo85_1 (Gt G (Lo G ag81 (B2.cell (j := 1) G) (Gt G (WL.lenSl (sz := 6) (m := M.code.length) (xs := codeV M.code) el81 G (ht.code.ext' E1) G (Gt G (Cv G (ConvR.nu64 Tryz.underlying3 Tryz.underlying39) (Gt G (Bn (v := .bool false) G G (BinR.toB BinR.geqU64 h3) (Pk (b := false) G G ?_)))))))))
 refine Ni (Cf G (WC.skip (Sr (Mv (ptr b 0) G (WL.nilCheck G G (Fa G fo85_1 (Lo G ag81 (B2.cell (j := 1) G) (Mv (U64 ((M.pc - 65536#64))) G ?_))))))))
 refine Bn (vy := U64 (4#64)) G G (BinR.quoU64 (by decide)) (WL.indexSl (sz := 6) (m := M.code.length) (xs := codeV M.code) (i := nextI M) el81 sz89 G G hlt (ht.code.ext' E1) G ?_)
 intro b42 o42 hb42 hc42
 refine WL.loadS [U8 a.op, U8 a.rd, U8 a.rs1, U8 a.rs2, I64 a.imm, .bool false] G ag89 sz89 G (codeV_at hc42 hat) G (WL.allocStore (v := .agg #[U8 a.op, U8 a.rd, U8 a.rs1, U8 a.rs2, I64 a.imm, .bool false]) zt89 G sz89 G G G G ?_)
 intro b5 w5 n5
 have E3 := Mt E1 n5.ext
 refine Ni (Sq (Sr (Fa G fo89_1 (Lo G ag4 (n5.blk.cell (j := 5) G) (WL.un G G UnR.not (Ni (Ct G (Sq ?_))))))))
 refine Rg (WL.build (v := .agg #[.int .u8 0, .int .u8 0, .int .u8 0, .int .u8 0, IN 0]) (vs := []) G bld35_47 G (WL.build (v := .agg #[.bool true]) (vs := [(0, .bool true)]) G bld35_48 G (WL.box (v := .agg #[.bool true]) G G ?_)))
 intro b49 w49 n49
 have E4 := Mt E3 n49.ext
 refine WL.mkiface (v := ptr b49 0) G nif144 G ?_
 have B5 := (n2.blk.ext n5.ext).ext n49.ext
 refine WL.storeS (v := .agg #[.int .u8 0, .int .u8 0, .int .u8 0, .int .u8 0, IN 0]) G G B5 G sz48 G G ?_
 intro ws6 ms6 bs6 zs6
 have E6 : Ext w ws6 := Mod.own (Mod.refl _ _) n2 E4 ms6
 refine An (.iface 144 (ptr b49 0)) G (Ni (WC.ret ?_))
 have B7 := n49.blk.mod ms6 (Ne.symm ((n2.blk.ext n5.ext).ne n49))
 exact ⟨_, Res.cellTmp (v' := .iface 144 (ptr b49 0)) rfl rfl (loadVar_agg [.int .u8 0, .int .u8 0, .int .u8 0, .int .u8 0, IN 0] ag48 sz48 rfl (bs6.sub (o := 0) rfl)) rfl, ⟨b49, rfl, B7, by have := n49.num; have := Mod.size E3; omega⟩, E6⟩
theorem next_e (T : Nat → Nat) (b : Nat) (M : MS) (w : World) (h : MR T w b M) (hcl : M.code.length ≤ 1000000) (h1 : BitVec.ult M.pc 65536#64 = false) (h2 : ((M.pc - 65536#64) % 4#64 != 0#64) = false) (h3 : BitVec.ule (BitVec.ofNat 64 M.code.length) ((M.pc - 65536#64) / 4#64) = false) (a : RvInst) (hlt : nextI M < M.code.length) (hat : M.code[nextI M]? = some (a, true)) : CallsR Tryz.prog 35 #[ptr b 0] w (fun v w' => v = .tuple #[instV a, .nilIface] ∧ Ext w w') := by
 obtain ⟨bq, sd, ss, cv, iv, ev, en, hb, ht⟩ := h
 refine callsR_of Tryz.func35 G G G ?_
 refine Sr (WL.alloc zt48 G ?_)
 intro b2 w2 n2
 have E1 : Ext w w2 := n2.ext
 refine An .nilIface G (Ni (Sr (Mv (ptr b 0) G (WL.nilCheck G G (Fa G fo85_4 ?_)))))
 have B2 := hb.ext n2.ext
 refine Lo G ag39 (B2.cell (j := 35) G) (Bn (vy := U64 (65536#64)) G G BinR.subU64 (An (U64 ((M.pc - 65536#64))) G (Ni (Sq (Sr (Mv (ptr b 0) G (WL.nilCheck G G (Fa G fo85_4 ?_))))))))
 refine Lo G ag39 (B2.cell (j := 35) G) (Bn (v := .bool false) (vy := U64 (65536#64)) G G (BinR.toB BinR.lssU64 h1) (Mv (.bool false) G (Gt G (Mv (U64 ((M.pc - 65536#64))) G (Gt G (Bn (vy := U64 (4#64)) G G (BinR.remU64 (by decide)) (Gt G (Bn (v := .bool false) (vy := U64 (0#64)) G G (BinR.toB BinR.neqU64 h2) (Pk (b := false) G G ?_)))))))))
 refine Mv (.bool false) G (Gt G (Mv (U64 ((M.pc - 65536#64))) G (Gt G (Bn (vy := U64 (4#64)) G G (BinR.quoU64 (by decide)) (Gt G (Mv (ptr b 0) G (Gt G (WL.nilCheck G G (Gt G ?_)))))))))
 refine Fa G fo85_1 (Gt G (Lo G ag81 (B2.cell (j := 1) G) (Gt G (WL.lenSl (sz := 6) (m := M.code.length) (xs := codeV M.code) el81 G (ht.code.ext' E1) G (Gt G (Cv G (ConvR.nu64 Tryz.underlying3 Tryz.underlying39) (Gt G (Bn (v := .bool false) G G (BinR.toB BinR.geqU64 h3) (Pk (b := false) G G ?_)))))))))
 refine Ni (Cf G (WC.skip (Sr (Mv (ptr b 0) G (WL.nilCheck G G (Fa G fo85_1 (Lo G ag81 (B2.cell (j := 1) G) (Mv (U64 ((M.pc - 65536#64))) G ?_))))))))
 refine Bn (vy := U64 (4#64)) G G (BinR.quoU64 (by decide)) (WL.indexSl (sz := 6) (m := M.code.length) (xs := codeV M.code) (i := nextI M) el81 sz89 G G hlt (ht.code.ext' E1) G ?_)
 intro b42 o42 hb42 hc42
 refine WL.loadS [U8 a.op, U8 a.rd, U8 a.rs1, U8 a.rs2, I64 a.imm, .bool true] G ag89 sz89 G (codeV_at hc42 hat) G (WL.allocStore (v := .agg #[U8 a.op, U8 a.rd, U8 a.rs1, U8 a.rs2, I64 a.imm, .bool true]) zt89 G sz89 G G G G ?_)
 intro b5 w5 n5
 have E3 := Mt E1 n5.ext
 refine Ni (Sq (Sr (Fa G fo89_1 (Lo G ag4 (n5.blk.cell (j := 5) G) (WL.un G G UnR.not (Ni (Cf G (WC.skip ?_))))))))
 refine Sr (Fa G fo89_0 (Ls [U8 a.op, U8 a.rd, U8 a.rs1, U8 a.rs2, I64 a.imm] G ag48 sz48 n5.blk ?_))
 have B4 := n2.blk.ext n5.ext
 refine WL.storeS (v := .agg #[U8 a.op, U8 a.rd, U8 a.rs1, U8 a.rs2, I64 a.imm]) G G B4 G sz48 G G ?_
 intro ws5 ms5 bs5 zs5
 have E5 : Ext w ws5 := Mod.own (Mod.refl _ _) n2 E3 ms5
 refine An .nilIface G (Ni (WC.ret ?_))
 exact ⟨_, Res.cellTmp (v' := .nilIface) G G (loadVar_agg [U8 a.op, U8 a.rd, U8 a.rs1, U8 a.rs2, I64 a.imm] ag48 sz48 G (bs5.sub (o := 0) G)) G, G, E5⟩
def NextR (w : World) (o : Option RvInst) (v : Value) (w' : World) : Prop := match o with
 | none => ∃ e, v = .tuple #[instV ⟨0#8, 0#8, 0#8, 0#8, 0#64⟩, .iface 144 (ptr e 0)] ∧ Blk w' e #[.bool true] 148 ∧ w.heap.size ≤ e
 | some a => v = .tuple #[instV a, .nilIface]
theorem next_spec (T : Nat → Nat) (b : Nat) (M : MS) (w : World) (h : MR T w b M) (hcl : M.code.length ≤ 1000000) : CallsR Tryz.prog 35 #[ptr b 0] w (fun v w' => NextR w (nextM M) v w' ∧ Ext w w') := by
 rcases Bool.eq_false_or_eq_true (BitVec.ult M.pc 65536#64) with h1 | h1
 ·have e : nextM M = none := by unfold nextM; rw [h1]; rfl
  rw [e]; exact next_a T b M w h hcl h1
 rcases Bool.eq_false_or_eq_true ((M.pc - 65536#64) % 4#64 != 0#64) with h2 | h2
 ·have e : nextM M = none := by unfold nextM; rw [h1, h2]; rfl
  rw [e]; exact next_b T b M w h hcl h1 h2
 rcases Bool.eq_false_or_eq_true (BitVec.ule (BitVec.ofNat 64 M.code.length) ((M.pc - 65536#64) / 4#64)) with h3 | h3
 ·have e : nextM M = none := by unfold nextM; rw [h1, h2, h3]; rfl
  rw [e]; exact next_c T b M w h hcl h1 h2 h3
 have hlt : nextI M < M.code.length := by
  have h4 : ¬ (BitVec.ofNat 64 M.code.length).toNat ≤ ((M.pc - 65536#64) / 4#64).toNat := by simpa [BitVec.ule] using h3
  rw [BitVec.toNat_ofNat, Nat.mod_eq_of_lt (by omega)] at h4
  unfold nextI; omega
 obtain ⟨⟨a, k⟩, hat⟩ : ∃ p, M.code[nextI M]? = some p := ⟨_, List.getElem?_eq_getElem hlt⟩
 have e : nextM M = if k then some a else none := by
  unfold nextM; rw [h1, h2, h3, hat]
  cases k <;> rfl
 rw [e]
 cases k
 ·exact next_d T b M w h hcl h1 h2 h3 a hlt hat
 ·exact next_e T b M w h hcl h1 h2 h3 a hlt hat
end Go.Proofs.S
end
section
namespace Go.Proofs.S
open Go Go.Ux Go.RowKit Go.Extern.Stop Go.Stop Go.Extern Go.Proofs.YtlabgjcjccdjfaaGreatDoor
theorem as_nil (t : Value) (w : World) :
  Calls Tryz.prog 67 #[.nilIface, t] w fun e w' => e = .returned (.bool false) ∧ w' = w := by
 go_enter Tryz.func67, Tryz.ntmps67
 go_wp2
 go_ret
 exact ⟨G, G⟩
theorem Tryz.valueOf27 (t : Addr) (w : World) : (ReflectliteValue.unpack (.iface 146 (.pointer (some t)))).run Tryz.prog w
  = .ok (.agg #[.pointer (some ⟨6, 146, none⟩), .pointer (some ⟨w.heap.size, 0, none⟩), .int .u64 150]) (w.alloc (.cells #[.pointer (some t)] 146)) := by kernel_rfl
theorem Tryz.type27 (a : Addr) (w : World) : (ReflectliteValue.methodAny (ReflectliteValue.valueError "reflectlite.Value.Type" 0) (fun t _ _ _ => ReflectliteType.toType t) #[.agg #[.pointer (some ⟨6, 146, none⟩), .pointer (some a), .int .u64 150]]).run Tryz.prog w
  = .ok (.iface 206 (.agg #[.pointer (some ⟨6, 146, none⟩)])) w := by kernel_rfl
theorem Tryz.methodKind (h : Value) (w : World) : (Go.method 346 206 (.agg #[h]) "Kind").run Tryz.prog w = .ok (147, h) w := by kernel_rfl
theorem Tryz.kind27 (w : World) : ((ReflectliteType.abiMethod fun t => (fun a : Nat => Value.int IntKind.u8 (a : Int)) <$> Rtype.kind t) #[.pointer (some ⟨6, 146, none⟩)]).run Tryz.prog w = .ok (.int .u8 22) w := by kernel_rfl
theorem Tryz.kind25 (w : World) : ((ReflectliteType.abiMethod fun t => (fun a : Nat => Value.int IntKind.u8 (a : Int)) <$> Rtype.kind t) #[.pointer (some ⟨6, 144, none⟩)]).run Tryz.prog w = .ok (.int .u8 22) w := by kernel_rfl
theorem rlm (z : Sem Value) (f : TypeId → Addr → Nat → Nat → Sem Value) (v : Value) :
  ReflectliteValue.method z f #[v] = (do match ← ReflectliteValue.parts v with | none => z | some (t, a, fl) => f t a fl (fl % 32)) := rfl
theorem Tryz.parts27 (a : Addr) (w : World) : (ReflectliteValue.parts (.agg #[.pointer (some ⟨6, 146, none⟩), .pointer (some a), .int .u64 150])).run Tryz.prog w = .ok (some (146, a, 150)) w := by kernel_rfl
theorem Tryz.isNil27 (a p : Addr) (W : World) (ha : W.cell? a = some (.pointer (some p))) :
  (ReflectliteValue.method (ReflectliteValue.valueError "reflectlite.Value.IsNil" 0) ReflectliteValue.isNil #[.agg #[.pointer (some ⟨6, 146, none⟩), .pointer (some a), .int .u64 150]]).run Tryz.prog W = .ok (.bool false) W := by
 rw [rlm]
 simp only [Sem.run_bind, Tryz.parts27, Result.andThen]
 simp [ReflectliteValue.isNil, loadVar, isAgg, underlying, Tryz.underlying146, ha, Result.andThen]
theorem Tryz.methodElem (h : Value) (w : World) : (Go.method 346 206 (.agg #[h]) "Elem").run Tryz.prog w = .ok (158, .agg #[h]) w := by kernel_rfl
theorem Tryz.methodImplements (h : Value) (w : World) : (Go.method 346 206 (.agg #[h]) "Implements").run Tryz.prog w = .ok (159, .agg #[h]) w := by kernel_rfl
theorem Tryz.methodAssignableTo (h : Value) (w : World) : (Go.method 346 206 (.agg #[h]) "AssignableTo").run Tryz.prog w = .ok (156, .agg #[h]) w := by kernel_rfl
theorem Tryz.elem27 (w : World) : (ReflectliteType.method ReflectliteType.elem #[.agg #[.pointer (some ⟨6, 146, none⟩)]]).run Tryz.prog w = .ok (.iface 206 (.agg #[.pointer (some ⟨6, 144, none⟩)])) w := by kernel_rfl
theorem Tryz.implements25 (w : World) : (ReflectliteType.relation "Implements" ReflectliteType.implements_ #[.agg #[.pointer (some ⟨6, 144, none⟩)], .iface 206 (.agg #[.pointer (some ⟨6, 83, none⟩)])]).run Tryz.prog w = .ok (.bool true) w := by kernel_rfl
theorem Tryz.typeOf25 (v : Value) (w : World) : (ReflectliteType.typeOf #[.iface 144 v]).run Tryz.prog w = .ok (.iface 206 (.agg #[.pointer (some ⟨6, 144, none⟩)])) w := by kernel_rfl
theorem Tryz.assignable25 (w : World) : (ReflectliteType.relation "AssignableTo" ReflectliteType.assignableTo #[.agg #[.pointer (some ⟨6, 144, none⟩)], .iface 206 (.agg #[.pointer (some ⟨6, 144, none⟩)])]).run Tryz.prog w = .ok (.bool true) w := by kernel_rfl
theorem Tryz.valueOf25 (e : Addr) (w : World) : (ReflectliteValue.unpack (.iface 144 (.pointer (some e)))).run Tryz.prog w
  = .ok (.agg #[.pointer (some ⟨6, 144, none⟩), .pointer (some ⟨w.heap.size, 0, none⟩), .int .u64 150]) (w.alloc (.cells #[.pointer (some e)] 144)) := by kernel_rfl
theorem Tryz.elemOf27 (w : World) : (Rtype.elem? 146).run Tryz.prog w = .ok (some 144) w := by kernel_rfl
theorem Tryz.mk25 (p : Addr) (w : World) : (ReflectliteValue.mk 144 p ReflectliteValue.flagAddr).run Tryz.prog w = .ok (.agg #[.pointer (some ⟨6, 144, none⟩), .pointer (some p), .int .u64 406]) w := by kernel_rfl
theorem Tryz.elemV27 (a p : Addr) (W : World) (ha : W.cell? a = some (.pointer (some p))) :
  (ReflectliteValue.method (ReflectliteValue.valueError "reflectlite.Value.Elem" 0) ReflectliteValue.elem #[.agg #[.pointer (some ⟨6, 146, none⟩), .pointer (some a), .int .u64 150]]).run Tryz.prog W
   = .ok (.agg #[.pointer (some ⟨6, 144, none⟩), .pointer (some p), .int .u64 406]) W := by
 rw [rlm]
 simp only [Sem.run_bind, Tryz.parts27, Result.andThen]
 simp [ReflectliteValue.elem, loadVar, isAgg, underlying, Tryz.underlying146, ha, Result.andThen, Tryz.elemOf27, Tryz.mk25]
theorem rls (v x : Value) : ReflectliteValue.set #[v, x] = (do
  let (some (dst, a, fl), some (src, b, _)) := (← ReflectliteValue.parts v, ← ReflectliteValue.parts x)
   | unsupported (.noEntry "extern/(internal/reflectlite.Value).Set.zeroValue")
  if fl / ReflectliteValue.flagAddr % 2 == 0 then unsupported (.noEntry "extern/(internal/reflectlite.Value).Set.unaddressable")
  let val ← loadVar src b
  if ← Rtype.directlyAssignable dst src then storeVar dst a val
  else if ← Rtype.implements dst src then
   if (← Rtype.kind src) == 20 then
    match val with
    | .nilIface => unsupported (.noEntry "extern/reflectlite: a nil value of one interface type handed on as a value of another")
    | _ => storeVar dst a val
   else storeVar dst a (.iface src val)
  else panicString ("reflectlite.Set: value of type " ++ (← Rtype.spelt src) ++ " is not assignable to type " ++ (← Rtype.spelt dst))
  pure (.tuple #[])) := rfl
theorem Tryz.parts25a (a : Addr) (w : World) : (ReflectliteValue.parts (.agg #[.pointer (some ⟨6, 144, none⟩), .pointer (some a), .int .u64 406])).run Tryz.prog w = .ok (some (144, a, 406)) w := by kernel_rfl
theorem Tryz.parts25 (a : Addr) (w : World) : (ReflectliteValue.parts (.agg #[.pointer (some ⟨6, 144, none⟩), .pointer (some a), .int .u64 150])).run Tryz.prog w = .ok (some (144, a, 150)) w := by kernel_rfl
theorem Tryz.direct25 (w : World) : (Rtype.directlyAssignable 144 144).run Tryz.prog w = .ok true w := by kernel_rfl
theorem Tryz.set25 (ta b e : Addr) (old : Value) (W : World) (hb : W.cell? b = some (.pointer (some e))) (ht : W.cell? ta = some old) (hf : W.frozen? ta = false) :
  (ReflectliteValue.set #[.agg #[.pointer (some ⟨6, 144, none⟩), .pointer (some ta), .int .u64 406], .agg #[.pointer (some ⟨6, 144, none⟩), .pointer (some b), .int .u64 150]]).run Tryz.prog W
   = .ok (.tuple #[]) (W.setCell ta (.pointer (some e))) := by
 rw [rls]
 simp only [Sem.run_bind, Tryz.parts25a, Tryz.parts25, Result.andThen]
 simp [ReflectliteValue.flagAddr, loadVar, isAgg, underlying, Tryz.underlying144, hb, Result.andThen, Tryz.direct25, storeVar, Value.cells, storeCells, Addr.add]
 rw [run_store Tryz.prog W ta _ _ (by rfl)]
 simp [ht, hf]
set_option maxHeartbeats 4000000 in
theorem as_hit (e t : Addr) (old : Value) (w : World) (hg : w.cell? ⟨3, 0, none⟩ = some (.iface 206 (.agg #[.pointer (some ⟨6, 83, none⟩)]))) (ht0 : w.cell? t = some old) (hf0 : w.frozen? t = false) :
  Calls Tryz.prog 67 #[.iface 144 (.pointer (some e)), .iface 146 (.pointer (some t))] w fun ev w' => ev = .returned (.bool true) ∧ w' = ((((w.alloc (.cells #[.pointer (some t)] 146)).alloc (.cells #[.pointer (some ⟨6, 146, none⟩), .pointer (some ⟨w.heap.size, 0, none⟩), .int .u64 150] 186)).alloc (.cells #[.pointer (some ⟨6, 146, none⟩), .pointer (some ⟨w.heap.size, 0, none⟩), .int .u64 150] 186)).alloc (.cells #[.pointer (some e)] 144)).setCell t (.pointer (some e)) := by
 have h6 := @run_callFunc_extern Tryz.prog 92 _ (fun args => ReflectliteValue.unpack (args.getD 0 (.tuple #[]))) Tryz.func92 (by kernel_rfl) (by kernel_rfl) (by kernel_rfl) (by kernel_rfl)
 have h7 := @run_callFunc_extern Tryz.prog 93 _ (ReflectliteValue.methodAny (ReflectliteValue.valueError "reflectlite.Value.Type" 0) (fun t _ _ _ => ReflectliteType.toType t)) Tryz.func93 (by kernel_rfl) (by kernel_rfl) (by kernel_rfl) (by kernel_rfl)
 have h8 := @run_callFunc_extern Tryz.prog 94 _ (ReflectliteValue.method (ReflectliteValue.valueError "reflectlite.Value.IsNil" 0) ReflectliteValue.isNil) Tryz.func94 (by kernel_rfl) (by kernel_rfl) (by kernel_rfl) (by kernel_rfl)
 have h27 := @run_callFunc_extern Tryz.prog 147 _ (ReflectliteType.abiMethod fun t => do pure (.int .u8 (← Rtype.kind t))) Tryz.func147 (by kernel_rfl) (by kernel_rfl) (by kernel_rfl) (by kernel_rfl)
 have h37 := @run_callFunc_extern Tryz.prog 158 _ (ReflectliteType.method ReflectliteType.elem) Tryz.func158 (by kernel_rfl) (by kernel_rfl) (by kernel_rfl) (by kernel_rfl)
 have h38 := @run_callFunc_extern Tryz.prog 159 _ (ReflectliteType.relation "Implements" ReflectliteType.implements_) Tryz.func159 (by kernel_rfl) (by kernel_rfl) (by kernel_rfl) (by kernel_rfl)
 have h10 := @run_callFunc_extern Tryz.prog 126 _ ReflectliteType.typeOf Tryz.func126 (by kernel_rfl) (by kernel_rfl) (by kernel_rfl) (by kernel_rfl)
 have h35 := @run_callFunc_extern Tryz.prog 156 _ (ReflectliteType.relation "AssignableTo" ReflectliteType.assignableTo) Tryz.func156 (by kernel_rfl) (by kernel_rfl) (by kernel_rfl) (by kernel_rfl)
 have h11 := @run_callFunc_extern Tryz.prog 127 _ (ReflectliteValue.method (ReflectliteValue.valueError "reflectlite.Value.Elem" 0) ReflectliteValue.elem) Tryz.func127 (by kernel_rfl) (by kernel_rfl) (by kernel_rfl) (by kernel_rfl)
 have h12 := @run_callFunc_extern Tryz.prog 128 _ ReflectliteValue.set Tryz.func128 (by kernel_rfl) (by kernel_rfl) (by kernel_rfl) (by kernel_rfl)
 have tO := Tryz.typeOf25
 have mA := Tryz.methodAssignableTo
 have a25 := Tryz.assignable25
 have v25 := Tryz.valueOf25
 have f6 := Tryz.valueOf27
 have f7 := Tryz.type27
 have mK := Tryz.methodKind
 have mE := Tryz.methodElem
 have mI := Tryz.methodImplements
 have k27 := Tryz.kind27
 have k25 := Tryz.kind25
 have e27 := Tryz.elem27
 have i25 := Tryz.implements25
 have n8 := Tryz.isNil27 ⟨w.heap.size, 0, none⟩ t ((w.alloc (.cells #[.pointer (some t)] 146)).alloc (.cells #[.pointer (some ⟨6, 146, none⟩), .pointer (some ⟨w.heap.size, 0, none⟩), .int .u64 150] 186)) (by simp)
 have hlt : 3 < w.heap.size := by
  rcases Nat.lt_or_ge 3 w.heap.size with h | h0
  ·exact h
  ·simp [World.cell?, Array.getElem?_eq_none h0] at hg
 have hg2 : ((w.alloc (.cells #[.pointer (some t)] 146)).alloc (.cells #[.pointer (some ⟨6, 146, none⟩), .pointer (some ⟨w.heap.size, 0, none⟩), .int .u64 150] 186)).cell? ⟨3, 0, none⟩ = some (.iface 206 (.agg #[.pointer (some ⟨6, 83, none⟩)])) := by
  rw [World.cell?_alloc_lt _ _ ⟨3, 0, none⟩ (by simp; omega), World.cell?_alloc_lt _ _ ⟨3, 0, none⟩ hlt]; exact hg
 have htl : t.block < w.heap.size := by
  rcases Nat.lt_or_ge t.block w.heap.size with h | h
  ·exact h
  ·simp [World.cell?, Array.getElem?_eq_none h] at ht0
 have el := Tryz.elemV27 ⟨w.heap.size, 0, none⟩ t (((w.alloc (.cells #[.pointer (some t)] 146)).alloc (.cells #[.pointer (some ⟨6, 146, none⟩), .pointer (some ⟨w.heap.size, 0, none⟩), .int .u64 150] 186)).alloc (.cells #[.pointer (some ⟨6, 146, none⟩), .pointer (some ⟨w.heap.size, 0, none⟩), .int .u64 150] 186)) (by rw [World.cell?_alloc_lt _ _ ⟨w.heap.size, 0, none⟩ (by simp; omega)]; simp)
 have st := Tryz.set25 t ⟨w.heap.size + 1 + 1 + 1, 0, none⟩ e old ((((w.alloc (.cells #[.pointer (some t)] 146)).alloc (.cells #[.pointer (some ⟨6, 146, none⟩), .pointer (some ⟨w.heap.size, 0, none⟩), .int .u64 150] 186)).alloc (.cells #[.pointer (some ⟨6, 146, none⟩), .pointer (some ⟨w.heap.size, 0, none⟩), .int .u64 150] 186)).alloc (.cells #[.pointer (some e)] 144))
  (by rw [World.cell?_alloc_at _ _ _ _ (by simp)]; rfl)
  (by rw [World.cell?_alloc_lt _ _ t (by simp; omega), World.cell?_alloc_lt _ _ t (by simp; omega), World.cell?_alloc_lt _ _ t (by simp; omega), World.cell?_alloc_lt _ _ t htl]; exact ht0)
  (by rw [World.frozen?_alloc_old _ _ t (by simp; omega), World.frozen?_alloc_old _ _ t (by simp; omega), World.frozen?_alloc_old _ _ t (by simp; omega), World.frozen?_alloc_old _ _ t (Nat.ne_of_lt htl)]; exact hf0)
 go_enter Tryz.func67, Tryz.ntmps67
 go_wp2
 refine wp_loop_rounds 1 ?_
 rw [rounds_succ]
 go_wp2
 go_ret
 exact ⟨G, G⟩
end Go.Proofs.S
end
section
set_option linter.unusedSimpArgs false
set_option linter.unusedVariables false
namespace Go.Proofs.S
open Go Go.Ux Go.Ux.Mach Go.Proofs
theorem zt144 : zeroT Tryz.prog 144 = some #[.pointer none] := by kernel_rfl
theorem nif146 : notIf Tryz.prog 146 = true := by kernel_rfl
theorem ca67 : callable Tryz.prog 67 = true := by kernel_rfl
theorem ag144 : isAggT Tryz.prog 144 = some false := by kernel_rfl
theorem fo148_0 : fieldOff Tryz.prog 148 0 = some 0 := by kernel_rfl
theorem as_hitR (e t : Nat) (w : World) (hg : w.cell? ⟨3, 0, none⟩ = some (.iface 206 (.agg #[.pointer (some ⟨6, 83, none⟩)]))) (hb : Blk w t #[.pointer none] 144) :
  CallsR Tryz.prog 67 #[.iface 144 (ptr e 0), .iface 146 (ptr t 0)] w (fun v w' => v = .bool true ∧ Mod (· = t) w w' ∧ Blk w' t #[ptr e 0] 144) := by
 refine Calls.mono (as_hit ⟨e, 0, none⟩ ⟨t, 0, none⟩ _ w hg (hb.cell (j := 0) G) (hb.frozen 0)) ?_
 rintro ev w' ⟨rfl, rfl⟩
 refine ⟨_, G, G, ?_, ?_⟩
 ·exact ((((Mod.ext (alloc_ext _ _)).trans (Mod.ext (alloc_ext _ _))).trans (Mod.ext (alloc_ext _ _))).trans (Mod.ext (alloc_ext _ _))).trans (setCell_mod _ t 0 _)
 ·exact setCell_blk ((((hb.ext (alloc_ext _ _)).ext (alloc_ext _ _)).ext (alloc_ext _ _)).ext (alloc_ext _ _)) 0 _
theorem as_nilR (t : Value) (w : World) : CallsR Tryz.prog 67 #[.nilIface, t] w (fun v w' => v = .bool false ∧ Ext w w') :=
 Calls.mono (as_nil t w) fun e w' ⟨h1, h2⟩ => ⟨_, h1, rfl, by rw [h2]; exact Mod.refl _ _⟩
theorem trapped_nil (w : World) (hG : w.cell? ⟨3, 0, none⟩ = some (.iface 206 (.agg #[.pointer (some ⟨6, 83, none⟩)]))) : CallsR Tryz.prog 34 #[.nilIface] w (fun v w' => v = .bool false ∧ Ext w w') := by
 refine callsR_of Tryz.func34 G G G ?_
 refine Sr (An (.bool false) G (Ni (Sr (WL.alloc zt144 G ?_))))
 intro b3 w3 n3
 have E1 : Ext w w3 := n3.ext
 refine Ni (Sr (Mv .nilIface G (WL.mkiface (v := ptr b3 0) G nif146 G (WL.call ca67 G G (as_nilR _ _) ?_))))
 rintro _ wA ⟨rfl, eA⟩
 have E2 := Mt E1 eA
 refine Mv (.bool false) G (Gf false G (Gf false G (Gf false G (Gf false G (Pk (b := false) G G (An (.bool false) G (Ni (WC.ret ?_))))))))
 exact ⟨_, Res.one (v := .bool false) G G, G, E2⟩
theorem trapped_some (e : Nat) (t : Bool) (w : World) (hG : w.cell? ⟨3, 0, none⟩ = some (.iface 206 (.agg #[.pointer (some ⟨6, 83, none⟩)]))) (he : Blk w e #[.bool t] 148) : CallsR Tryz.prog 34 #[.iface 144 (ptr e 0)] w (fun v w' => v = .bool t ∧ Ext w w') := by
 refine callsR_of Tryz.func34 G G G ?_
 refine Sr (An (.bool false) G (Ni (Sr (WL.alloc zt144 G ?_))))
 intro b3 w3 n3
 have E1 : Ext w w3 := n3.ext
 refine Ni (Sr (Mv (.iface 144 (ptr e 0)) G (WL.mkiface (v := ptr b3 0) G nif146 G (WL.call ca67 G G (as_hitR e b3 _ (Mod.cell E1 hG (fun h => h)) n3.blk) ?_))))
 rintro _ wA ⟨rfl, mA, bA⟩
 have E2 : Ext w wA := Mod.own (Mod.refl _ _) n3 E1 mA
 refine Mv (.bool true) G (Gt G (Lo G ag144 (bA.cell (j := 0) G) (Gt G (WL.nilCheck G G (Gt G (Fa G fo148_0 (Gt G ?_)))))))
 have B3 := (he.ext n3.ext).mod mA (he.ne n3)
 refine Lo G ag4 (B3.cell (j := 0) G) (Pk (b := true) G G (An (.bool t) G (Ni (WC.ret ?_))))
 exact ⟨_, Res.one (v := .bool t) G G, G, E2⟩
theorem trapped_spec (v : Value) (o : Option Bool) (w : World) (hG : w.cell? ⟨3, 0, none⟩ = some (.iface 206 (.agg #[.pointer (some ⟨6, 83, none⟩)]))) (h : EndV w v o) : CallsR Tryz.prog 34 #[v] w (fun v w' => v = .bool (o == some true) ∧ Ext w w') := by
 cases o with
 | none => cases h; exact trapped_nil w hG
 | some t =>
  obtain ⟨e, rfl, he⟩ := h
  cases t
  ·exact trapped_some e false w hG he
  ·exact trapped_some e true w hG he
end Go.Proofs.S
end
section
namespace Go.Ux
open Go
section
variable {P : Program} {ops : Array Oper} {Q : Exit → Act → World → Prop} {l m : Nat}
theorem upon_in {o : Oper} {a : Act} {next : Act → World → Prop} (r : Result Next) (h : o.upon P a next Q r) : o.uponIn (Fence.wide.inRound l) m P a next Q r := by
 cases r with
 | ok x w' =>
  cases x <;> simp only [Oper.upon] at h <;> simp only [Oper.uponIn]
  case value => exact h
  case skip => exact h
  case defer => exact h
  case enter => exact ⟨fun h' => by simp [Fence.wide] at h', CallsIn.inRound l (callsIn_wide.2 h)⟩
  case row => exact ⟨fun h' => by simp [Fence.wide] at h', fun c cs _ => let ⟨v, w', r, s⟩ := h c cs; ⟨v, w', r, stepsIn_wide.2 s⟩⟩
 | halt x w' => cases x <;> simp only [Oper.upon] at h <;> simp only [Oper.uponIn] <;> exact h
def noDefer (o : Oper) : Bool := match o.op with
 | .defer _ => false
 | _ => true
theorem wp_in {o : Oper} (hd : noDefer o = true) {a : Act} {w : World} {next : Act → World → Prop} (h : o.wp P a w next Q) : o.wpIn (Fence.wide.inRound l) m P a w next Q := by
 refine ⟨fun _ _ => trivial, ?_⟩
 have e : o.semAt (Fence.wide.inRound l).round a.eval = execOp a.eval o := Oper.semAt_some l _ o (fun c e => by unfold noDefer at hd; rw [e] at hd; cases hd)
 rw [e]
 exact upon_in _ h
theorem list_in (hQ : ¬ LetsOut Q) : ∀ (L : List Oper), L.all noDefer = true → ∀ a w, wpList P ops Q L a w → wpListIn (Fence.wide.inRound l) m P ops Q L a w
 | [], _, _, _, h => h
 | o :: rest, hd, a, w, h => by
  rw [List.all_cons, Bool.and_eq_true] at hd
  unfold wpList at h
  unfold wpListIn
  split
  ·rename_i hw
   rw [if_pos hw] at h
   rcases h with h | ⟨_, h⟩
   ·exact wp_in hd.1 (Oper.wp_mono (fun a w h => list_in hQ rest hd.2 a w h) h)
   ·exact absurd h hQ
  ·rename_i hw
   rw [if_neg hw] at h
   exact ⟨fun _ _ => trivial, list_in hQ rest hd.2 _ _ h⟩
theorem op_in (hQ : ¬ LetsOut Q) (hd : ops.all noDefer = true) {i : Nat} {K : Act → World → Prop} {a : Act} {w : World} (h : wpOp P ops Q i K a w) : wpOpIn (Fence.wide.inRound l) m P ops Q i K a w := by
 unfold wpOp at h
 unfold wpOpIn
 cases ho : ops[i]? with
 | none => rw [ho] at h; exact h
 | some o =>
  rw [ho] at h
  simp only at h ⊢
  have hd' : noDefer o = true := by
   obtain ⟨hi, e⟩ := Array.getElem?_eq_some_iff.1 ho
   rw [← e]; exact (Array.all_eq_true.1 hd) i hi
  split
  ·rename_i hw
   rw [if_pos hw] at h
   rcases h with h | ⟨_, h⟩
   ·exact wp_in hd' h
   ·exact absurd h hQ
  ·rename_i hw
   rw [if_neg hw] at h
   exact ⟨fun _ _ => trivial, h⟩
theorem any_in (hQ : ¬ LetsOut Q) (hd : ops.all noDefer = true) : ∀ (fuel : Nat) (listed : Array Bool) (a : Act) (w : World), wpAny P .any ops Q fuel listed a w → wpAnyIn (Fence.wide.inRound l) m P .any ops Q fuel listed a w
 | 0, _, _, _, h => h
 | fuel + 1, _, _, _, h => ⟨h.1, fun i hi => op_in hQ hd (wpOp_mono (fun a' w' h' => any_in hQ hd fuel _ a' w' h') (h.2 i hi))⟩
end
section
variable {P : Program} {l m n : Nat} {f : Fr} {w : World}
def WR (P : Program) (l m : Nat) (c : Code) (n : Nat) (f : Fr) (w : World) (R : Fr → World → Prop) : Prop :=
 ∀ a : Act, a.tmps.size = n → a.defers = [] → frOf a = f → c.wpIn (Fence.wide.inRound l) m P (Post n fun e f' w' => e = .normal ∧ R f' w') a w
theorem noOut (n : Nat) (R : Fr → World → Prop) : ¬ LetsOut (Post n fun e f' w' => e = .normal ∧ R f' w') := fun ⟨_, _, _, _, h, _⟩ => nomatch h
theorem WR.region {id : Nat} {L : List Oper} {R : Fr → World → Prop} (hd : L.all noDefer = true) (h : WL P L.toArray L n f w (fun e f' w' => e = .normal ∧ R f' w')) : WR P l m (.region id L.toArray false) n f w R :=
 fun a h1 h2 h3 => wpIn_region_lit (list_in (noOut n R) L hd a w (h a h1 h2 h3))
theorem WR.drawL {id : Nat} {L : List Oper} {R : Fr → World → Prop} (S : World → Prop) (La N : Nat) (hN : L.toArray.size = N) (hm : P.follows .mixedOrders = true) (hd : L.all noDefer = true) (h : ∀ w1, Ext w w1 → WAL P L.toArray S La n N 0 f w1 (fun e f' w' => e = .normal ∧ R f' w')) : WR P l m (.region id L.toArray true) n f w R := by
 intro a h1 h2 h3
 refine wpIn_region_any hm (any_in (noOut n R) (by simpa using hd) _ _ _ _ (wpAny_of_L (S := S) (L := La) _ _ _ _ ?_))
 rw [← bits_zero]
 have := h { w with drawn := w.drawn + 1 } (Mod.drew _ _) a h1 h2 h3
 rw [← hN] at this
 exact this
theorem WR.seq {x y : Code} {R S : Fr → World → Prop} (h : WR P l m x n f w R) (k : ∀ f' w', R f' w' → WR P l m y n f' w' S) : WR P l m (.seq x y) n f w S := by
 intro a h1 h2 h3
 refine wpIn_seq (wpIn_mono (h a h1 h2 h3) ?_)
 rintro e a' w' ⟨k1, k2, rfl, k3⟩
 exact k _ _ k3 a' k1 k2 G
theorem WR.block {id : Nat} {c : Code} {R : Fr → World → Prop} (h : WR P l m c n f w R) : WR P l m (.block id c) n f w R := by
 intro a h1 h2 h3
 refine wpIn_block (wpIn_mono (h a h1 h2 h3) ?_)
 rintro e a' w' ⟨k1, k2, rfl, k3⟩
 exact ⟨k1, k2, G, k3⟩
end
def roundsIn : Code → List (Code × Code)
 | .rangeFunc _ _ a b => [(a, b)]
 | .seq a b => roundsIn a ++ roundsIn b
 | .cond _ a b => roundsIn a ++ roundsIn b
 | .block _ a => roundsIn a
 | .loop a => roundsIn a
 | _ => []
def roundBody (fn : Func) : Code := match fn.body with
 | some c => match roundsIn c with
  | (_, b) :: _ => b
  | [] => .skip
 | none => .skip
end Go.Ux
end
section
set_option linter.unusedSimpArgs false
set_option linter.unusedVariables false
namespace Go.Proofs.S
open Go Go.Ux Go.Ux.Mach Go.Proofs
theorem ag50 : isAggT Tryz.prog 50 = some false := by kernel_rfl
theorem fo125_1 : fieldOff Tryz.prog 125 1 = some 1 := by kernel_rfl
theorem ag3 : isAggT Tryz.prog 3 = some false := by kernel_rfl
theorem fo125_0 : fieldOff Tryz.prog 125 0 = some 0 := by kernel_rfl
theorem sz50 : sizeT Tryz.prog 50 = some 1 := by kernel_rfl
theorem spread_body (l m : Nat) (f : Fr) (w : World) (b3 b5 b7 : Nat) (wd : BitVec 32) (n : BitVec 64) (p : Nat × Nat) (f3 : f 3 = ptr b3 0) (f5 : f 5 = ptr b5 0) (f7 : f 7 = ptr b7 0) (h3 : Blk w b3 #[I64 n] 2) (h5 : Blk w b5 #[U32 wd] 50) (h7 : Blk w b7 #[IN p.1, IN p.2] 125) (n35 : b3 ≠ b5) (n37 : b3 ≠ b7) (n57 : b5 ≠ b7) : WR Tryz.prog l m (roundBody Tryz.f52) 34 f w (fun f' w' => Mod (fun k => k = b3 ∨ k = b5) w w' ∧ Blk w' b3 #[I64 (BitVec.sshiftRight n p.2)] 2 ∧ Blk w' b5 #[U32 (wd ||| ((n &&& (1#64 <<< p.2 - 1#64)).signExtend 32 <<< p.1))] 50) := by
 refine WR.block ?_
 refine WR.seq (R := fun f1 w1 => Mod (fun k => k = b3 ∨ k = b5) w w1 ∧ f1 3 = ptr b3 0 ∧ f1 7 = ptr b7 0 ∧ Blk w1 b3 #[I64 n] 2 ∧ Blk w1 b7 #[IN p.1, IN p.2] 125 ∧ Blk w1 b5 #[U32 (wd ||| ((n &&& (1#64 <<< p.2 - 1#64)).signExtend 32 <<< p.1))] 50) ?_ ?_
 ·refine WR.drawL (fun w_ => Ext w w_) 12 13 G mixed G ?_
  intro wd_5 ed_5
  have R1 : Ext w wd_5 := ed_5
  have E2 : Mod (fun k => k = b3 ∨ k = b5) w wd_5 := (Mod.ext ed_5)
  refine Tl 0 (U32 wd) G G (fun _ hS => Lo f5 ag50 ((h5.ext hS).cell (j := 0) G) Ok) R1 (Tl 1 (I64 n) G G (fun _ hS => Lo f3 ag2 ((h3.ext hS).cell (j := 0) G) Ok) R1 (Tl 2 (ptr b7 1) G G (fun _ _ => Fa f7 fo125_1 Ok) R1 (Tl 3 (IN p.2) G G (fun _ hS => Lo G ag3 ((h7.ext hS).cell (j := 1) G) Ok) R1 (Tl 4 (I64 (1#64 <<< p.2)) G G (fun _ _ => Bn (vx := I64 1#64) G G (BinR.shl64 (s := p.2)) Ok) R1 (Tl 5 (I64 ((1#64 <<< p.2 - 1#64))) G G (fun _ _ => Bn (vy := I64 (1#64)) G G BinR.sub64 Ok) R1 (Tl 6 (I64 ((n &&& (1#64 <<< p.2 - 1#64)))) G G (fun _ _ => Bn G G BinR.and64 Ok) R1 (Tl 7 (U32 (((n &&& (1#64 <<< p.2 - 1#64))).signExtend 32)) G G (fun _ _ => Cv G (ConvR.i64u32 Tryz.underlying2 Tryz.underlying50) Ok) R1 (Tl 8 (ptr b7 0) G G (fun _ _ => Fa f7 fo125_0 Ok) R1 (Tl 9 (IN p.1) G G (fun _ hS => Lo G ag3 ((h7.ext hS).cell (j := 0) G) Ok) R1 ?_)))))))))
  refine Tl 10 (U32 ((n &&& (1#64 <<< p.2 - 1#64)).signExtend 32 <<< p.1)) G G (fun _ _ => Bn G G (BinR.shlU32 (s := p.1)) Ok) R1 (Tl 11 (U32 ((wd ||| (n &&& (1#64 <<< p.2 - 1#64)).signExtend 32 <<< p.1))) G G (fun _ _ => Bn G G BinR.orU32 Ok) R1 (WAL.one (i := 12) (m' := 8191) (by kernel_rfl) G G ?_))
  have B19 := h5.ext ed_5
  refine WL.storeB (v := U32 ((wd ||| (n &&& (1#64 <<< p.2 - 1#64)).signExtend 32 <<< p.1))) f5 G G sz50 B19 (Nat.le_of_ble_eq_true G) ?_
  intro ws20 ms20 bs20 zs20
  have E20 : Mod (fun k => k = b3 ∨ k = b5) w ws20 := Mt E2 (ms20.imp (fun i _ e => .inr e))
  refine WL.behindL (by kernel_rfl) (WAL.done (by kernel_rfl) ?_)
  have B21 := (h3.ext ed_5).mod ms20 (by omega)
  have B22 := (h7.ext ed_5).mod ms20 (by omega)
  exact ⟨G, E20, f3, f7, B21, B22, bs20⟩
 ·rintro f w1 ⟨hm, g3, g7, k3, k7, k5⟩
  refine WR.region G ?_
  refine Lo g3 ag2 (k3.cell (j := 0) G) (Fa g7 fo125_1 (Lo G ag3 (k7.cell (j := 1) G) (Bn G G (BinR.shr64 (s := p.2)) (WL.storeB (v := I64 (BitVec.sshiftRight n p.2)) g3 G G sz2 k3 (Nat.le_of_ble_eq_true G) ?_))))
  intro ws23 ms23 bs23 zs23
  have E23 : Mod (fun k => k = b3 ∨ k = b5) w ws23 := Mt hm (ms23.imp (fun i _ e => .inl e))
  refine Ni ?_
  have B24 := k5.mod ms23 (by omega)
  exact ⟨G, E23, bs23, B24⟩
end Go.Proofs.S
end
section
namespace Go.Proofs.S
open Go Go.Ux Go.Ux.Mach Go.RowKit Go.Shelf Go.Proofs
attribute [local go_sem] Oper.semAt_some
def upto {α : Type} (f : Nat → α) (k : Nat) : List α := (List.range k).map f
theorem upto_succ {α : Type} (f : Nat → α) (k : Nat) : upto f (k + 1) = upto f k ++ [f k] := by simp [upto, List.range_succ]
theorem upto_length {α : Type} (f : Nat → α) (k : Nat) : (upto f k).length = k := by simp [upto]
set_option maxHeartbeats 2000000 in
theorem bytes1_in (F : Fence) (n : Nat) (h97 : F.fn 97) (hro : F.round = none) (hn : 1 ≤ n) (l Bs b off len cap : Nat) (z : Nat → BitVec 8) (hreach : len ≤ 140737488351232) {Kp : World → World → Prop} (hKr : ∀ W, Kp W W) (hKt : ∀ {A B C : World}, Kp A B → Kp B C → Kp A C) (hK1 : ∀ {A B : World} {v : Value}, Kp A B → A.cell? ⟨Bs, 0, none⟩ = some v → B.cell? ⟨Bs, 0, none⟩ = some v) (hK2 : ∀ {A B : World} {j : Nat} {v : Value}, Kp A B → A.cell? ⟨b, j, none⟩ = some v → B.cell? ⟨b, j, none⟩ = some v) (J Jx : List (Int × BitVec 8) → World → Prop)
  (hY : ∀ pre x W, J pre W → pre.length < len → YieldAt F (n - 1) Tryz.prog l #[.int .i64 x.1, U8 x.2] W fun e W' =>
   (e = .returned (.bool true) ∧ J (pre ++ [x]) W' ∧ Kp W W') ∨ (e = .returned (.bool false) ∧ Jx (pre ++ [x]) W'))
  (W : World) (hBs : W.cell? ⟨Bs, 0, none⟩ = some (.slice (some ⟨b, off, none⟩) len cap)) (hc : ∀ j, j < len → W.cell? ⟨b, off + j, none⟩ = some (U8 (z j))) (h0 : J [] W) :
  CallsIn F n Tryz.prog 97 #[.func (.yield l) #[] #[], .pointer (some ⟨Bs, 0, none⟩)] W fun e W' => (∃ v, e = .returned v) ∧
   ((∃ ys, ys = upto (fun k => ((len : Int) - 1 - (k : Int), z (len - 1 - k))) len ∧ J ys W') ∨ (∃ pre, (∃ k, k ≤ len ∧ pre = upto (fun k => ((len : Int) - 1 - (k : Int), z (len - 1 - k))) k) ∧ Jx pre W')) := by
 refine callsIn_of_wp Tryz.func97 G h97 ?_ hro
 simp only [Tryz.ntmps97, List.size_toArray, List.length_cons, List.length_nil, Nat.reduceAdd, Nat.reduceSub, Array.replicate_succ, Array.replicate_zero, List.push_toArray, List.append_toArray, List.nil_append, List.cons_append]
 gi_wp2
 gi_loopw [3] (fun i wr => ∃ k : Nat, k ≤ len ∧ i = .int .i64 ((len : Int) - 1 - (k : Int)) ∧ J (upto (fun k => ((len : Int) - 1 - (k : Int), z (len - 1 - k))) k) wr ∧ Kp W wr)
  (fun i _ => (intOf i + 1).toNat)
 case atStart => exact ⟨0, Nat.zero_le _, by simp, h0, hKr _⟩
 case round =>
  obtain ⟨k, hk, rfl, hJs, hnx⟩ := hrel
  have hcx : k < len → wr.cell? ⟨b, off + (len - 1 - k), none⟩ = some (U8 (z (len - 1 - k))) := fun h => hK2 hnx (hc _ (by omega))
  have hBsx : wr.cell? ⟨Bs, 0, none⟩ = some (.slice (some ⟨b, off, none⟩) len cap) := hK1 hnx hBs
  by_cases hlt : k < len
  ·obtain ⟨fn, tmps, assign, body, hy, hR⟩ := hY _ ((len : Int) - 1 - (k : Int), z (len - 1 - k)) wr hJs (by rw [upto_length]; exact hlt)
   dsimp only at hy
   have hcx' := hcx hlt
   have e1 : ((len : Int) - 1 - (k : Int)) = ((len - 1 - k : Nat) : Int) := by omega
   rw [e1] at hy ⊢
   gi_wp2
   refine hR.mono ?_
   rintro e W3 (⟨rfl, hJ3, hk3⟩ | ⟨rfl, hJx3⟩)
   ·gi_wp2
    go_roundw
    case rel => exact ⟨k + 1, by omega, by simp; try omega, by rw [upto_succ]; exact hJ3, hKt hnx hk3⟩
    case measure => first | (simp [intOf]; omega) | simp [intOf]
   ·gi_wp2
    refine bodyPost_ret (results_none G _ _ _) G ?_
    exact ⟨⟨_, G⟩, .inr ⟨_, ⟨k + 1, by omega, by rw [upto_succ]⟩, hJx3⟩⟩
  ·obtain rfl : k = len := by omega
   have e1 : ((k : Int) - 1 - (k : Int)) = -1 := by omega
   rw [e1]
   gi_wp2
   go_end0
   exact ⟨⟨_, G⟩, .inl ⟨_, G, hJs⟩⟩
set_option maxHeartbeats 1000000 in
theorem bytes_in (F : Fence) (n : Nat) (h : F.fn 73) (hro : F.round = none) (a : Option Addr) (len cap : Nat) (w : World) :
  CallsIn F n Tryz.prog 73 #[.slice a len cap] w fun e w' => e = .returned (.func (.func 97) #[] #[.pointer (some ⟨w.heap.size, 0, none⟩)]) ∧ w' = w.alloc (.cells #[.slice a len cap] 45) := by
 refine callsIn_of_wp Tryz.func73 G h ?_ hro
 simp only [Tryz.ntmps73, List.size_toArray, List.length_cons, List.length_nil, Nat.reduceAdd, Nat.reduceSub, Array.replicate_succ, Array.replicate_zero, List.push_toArray, List.append_toArray, List.nil_append, List.cons_append]
 gi_wp2
 go_ret
 exact ⟨G, G⟩
def backB (z : Nat → BitVec 8) (len k : Nat) : List (Int × BitVec 8) := upto (fun k => ((len : Int) - 1 - (k : Int), z (len - 1 - k))) k
theorem bytes_stops (F : Fence) (n : Nat) (h97 : F.fn 97) (hro : F.round = none) (hn : 1 ≤ n) (Bs b off len cap : Nat) (z : Nat → BitVec 8) (hreach : len ≤ 140737488351232) (w : World) (hBs : Bs < w.heap.size) (hb : b < w.heap.size)
  {Kp : World → World → Prop} (hKr : ∀ W, Kp W W) (hKt : ∀ {A B C : World}, Kp A B → Kp B C → Kp A C) (hK1 : ∀ {A B : World} {v : Value}, Kp A B → A.cell? ⟨Bs, 0, none⟩ = some v → B.cell? ⟨Bs, 0, none⟩ = some v) (hK2 : ∀ {A B : World} {j : Nat} {v : Value}, Kp A B → A.cell? ⟨b, j, none⟩ = some v → B.cell? ⟨b, j, none⟩ = some v)
  (hc : w.cell? ⟨Bs, 0, none⟩ = some (.slice (some ⟨b, off, none⟩) len cap)) (hI : ∀ j, j < len → w.cell? ⟨b, off + j, none⟩ = some (U8 (z j))) :
  SeqStopsK F n Tryz.prog 97 #[.pointer (some ⟨Bs, 0, none⟩)] (fun x : Int × BitVec 8 => #[Value.int .i64 x.1, U8 x.2]) Kp (fun ys => ys = backB z len len) (fun pre => ∃ k, k ≤ len ∧ pre = backB z len k) len w := fun l J Jx W hW _ _ hY h0 =>
 bytes1_in F n h97 hro hn l Bs b off len cap z hreach hKr hKt hK1 hK2 J Jx hY W ((hW.cell (p := ⟨Bs, 0, none⟩) hBs).trans hc) (fun j hj => (hW.cell (p := ⟨b, off + j, none⟩) hb).trans (hI j hj)) h0
def KeepX (bx n₁ : Nat) (A B : World) : Prop := ∀ k, k < n₁ → k ≠ bx → B.heap[k]? = A.heap[k]?
theorem KeepX.refl (bx n₁ : Nat) (A : World) : KeepX bx n₁ A A := fun _ _ _ => rfl
theorem KeepX.trans {bx n₁ : Nat} {A B C : World} (h : KeepX bx n₁ A B) (k : KeepX bx n₁ B C) : KeepX bx n₁ A C := fun i h1 h2 => (k i h1 h2).trans (h i h1 h2)
theorem KeepX.cell {bx n₁ : Nat} {A B : World} (h : KeepX bx n₁ A B) {b j : Nat} {v : Value} (h1 : b < n₁) (h2 : b ≠ bx) (hc : A.cell? ⟨b, j, none⟩ = some v) : B.cell? ⟨b, j, none⟩ = some v :=
 (World.cell?_of_block (h b h1 h2)).trans hc
theorem KeepX.set (bx n₁ : Nat) (A : World) (v : Value) : KeepX bx n₁ A (A.setCell ⟨bx, 0, none⟩ v) := fun k _ hk => Below.heap_setCell A ⟨bx, 0, none⟩ v k hk
theorem KeepX.put {bx n₁ : Nat} {w : World} (hw : n₁ ≤ w.heap.size) (W : World) (l : Nat) (o o' : Obj) (hl : w.heap.size ≤ l) (_ : W.heap[l]? = some o) (_ : o.isCells = false) (_ : o.isWalk = false) : KeepX bx n₁ W (W.putObj l o') := fun k hk _ => World.putObj_heap_other (by omega)
theorem ext_of_below {w w' : World} (h : Below w.heap.size w w') : Ext w w' := ⟨h.os, h.tape, h.output, h.size, fun k hk _ => h.block k hk⟩
end Go.Proofs.S
end
section
namespace Go.Proofs.S
open Go Go.Ux Go.Ux.Mach Go.RowKit Go.Shelf Go.Proofs
attribute [local go_sem] Oper.semAt_some
set_option maxHeartbeats 2000000 in
theorem bits1_in (F : Fence) (n : Nat) (h103 : F.fn 103) (hro : F.round = none) (hn : 1 ≤ n) (l Bs b off len cap : Nat) (z : Nat → Nat × Nat) (hreach : len ≤ 100) {Kp : World → World → Prop} (hKr : ∀ W, Kp W W) (hKt : ∀ {A B C : World}, Kp A B → Kp B C → Kp A C) (hK1 : ∀ {A B : World} {v : Value}, Kp A B → A.cell? ⟨Bs, 0, none⟩ = some v → B.cell? ⟨Bs, 0, none⟩ = some v) (hK2 : ∀ {A B : World} {j : Nat} {v : Value}, Kp A B → A.cell? ⟨b, j, none⟩ = some v → B.cell? ⟨b, j, none⟩ = some v) (J Jx : List (Int × (Nat × Nat)) → World → Prop)
  (hY : ∀ pre x W, J pre W → pre.length < len → YieldAt F (n - 1) Tryz.prog l #[.int .i64 x.1, .agg #[IN x.2.1, IN x.2.2]] W fun e W' =>
   (e = .returned (.bool true) ∧ J (pre ++ [x]) W' ∧ Kp W W') ∨ (e = .returned (.bool false) ∧ Jx (pre ++ [x]) W'))
  (W : World) (ao : Option Addr) (hao : 0 < len → ao = some ⟨b, off, none⟩) (hBs : W.cell? ⟨Bs, 0, none⟩ = some (.slice ao len cap)) (hc : ∀ j, j < len → W.cell? ⟨b, off + j * 2, none⟩ = some (IN (z j).1) ∧ W.cell? ⟨b, off + j * 2 + 1, none⟩ = some (IN (z j).2)) (h0 : J [] W) :
  CallsIn F n Tryz.prog 103 #[.func (.yield l) #[] #[], .pointer (some ⟨Bs, 0, none⟩)] W fun e W' => (∃ v, e = .returned v) ∧
   ((∃ ys, ys = upto (fun k => ((len : Int) - 1 - (k : Int), z (len - 1 - k))) len ∧ J ys W') ∨ (∃ pre, (∃ k, k ≤ len ∧ pre = upto (fun k => ((len : Int) - 1 - (k : Int), z (len - 1 - k))) k) ∧ Jx pre W')) := by
 refine callsIn_of_wp Tryz.func103 G h103 ?_ hro
 simp only [Tryz.ntmps103, List.size_toArray, List.length_cons, List.length_nil, Nat.reduceAdd, Nat.reduceSub, Array.replicate_succ, Array.replicate_zero, List.push_toArray, List.append_toArray, List.nil_append, List.cons_append]
 gi_wp2
 gi_loopw [3] (fun i wr => ∃ k : Nat, k ≤ len ∧ i = .int .i64 ((len : Int) - 1 - (k : Int)) ∧ J (upto (fun k => ((len : Int) - 1 - (k : Int), z (len - 1 - k))) k) wr ∧ Kp W wr)
  (fun i _ => (intOf i + 1).toNat)
 case atStart => exact ⟨0, Nat.zero_le _, by simp, h0, hKr _⟩
 case round =>
  obtain ⟨k, hk, rfl, hJs, hnx⟩ := hrel
  have hcx : k < len → wr.cell? ⟨b, off + (len - 1 - k) * 2, none⟩ = some (IN (z (len - 1 - k)).1) ∧ wr.cell? ⟨b, off + (len - 1 - k) * 2 + 1, none⟩ = some (IN (z (len - 1 - k)).2) := fun h => ⟨hK2 hnx (hc _ (by omega)).1, hK2 hnx (hc _ (by omega)).2⟩
  have hBsx : wr.cell? ⟨Bs, 0, none⟩ = some (.slice ao len cap) := hK1 hnx hBs
  by_cases hlt : k < len
  ·have hao' := hao (by omega)
   subst hao'
   obtain ⟨fn, tmps, assign, body, hy, hR⟩ := hY _ ((len : Int) - 1 - (k : Int), z (len - 1 - k)) wr hJs (by rw [upto_length]; exact hlt)
   dsimp only at hy
   obtain ⟨hcx1, hcx2⟩ := hcx hlt
   have e1 : ((len : Int) - 1 - (k : Int)) = ((len - 1 - k : Nat) : Int) := by omega
   rw [e1] at hy ⊢
   gi_wp2
   refine hR.mono ?_
   rintro e W3 (⟨rfl, hJ3, hk3⟩ | ⟨rfl, hJx3⟩)
   ·gi_wp2
    go_roundw
    case rel => exact ⟨k + 1, by omega, by simp; try omega, by rw [upto_succ]; exact hJ3, hKt hnx hk3⟩
    case measure => first | (simp [intOf]; omega) | simp [intOf]
   ·gi_wp2
    refine bodyPost_ret (results_none G _ _ _) G ?_
    exact ⟨⟨_, G⟩, .inr ⟨_, ⟨k + 1, by omega, by rw [upto_succ]⟩, hJx3⟩⟩
  ·obtain rfl : k = len := by omega
   have e1 : ((k : Int) - 1 - (k : Int)) = -1 := by omega
   rw [e1]
   gi_wp2
   go_end0
   exact ⟨⟨_, G⟩, .inl ⟨_, G, hJs⟩⟩
set_option maxHeartbeats 1000000 in
theorem bits_in (F : Fence) (n : Nat) (h : F.fn 86) (hro : F.round = none) (a : Option Addr) (len cap : Nat) (w : World) :
  CallsIn F n Tryz.prog 86 #[.slice a len cap] w fun e w' => e = .returned (.func (.func 103) #[] #[.pointer (some ⟨w.heap.size, 0, none⟩)]) ∧ w' = w.alloc (.cells #[.slice a len cap] 114) := by
 refine callsIn_of_wp Tryz.func86 G h ?_ hro
 simp only [Tryz.ntmps86, List.size_toArray, List.length_cons, List.length_nil, Nat.reduceAdd, Nat.reduceSub, Array.replicate_succ, Array.replicate_zero, List.push_toArray, List.append_toArray, List.nil_append, List.cons_append]
 gi_wp2
 go_ret
 exact ⟨G, G⟩
def backP (z : Nat → Nat × Nat) (len k : Nat) : List (Int × (Nat × Nat)) := upto (fun k => ((len : Int) - 1 - (k : Int), z (len - 1 - k))) k
theorem bits_stops (F : Fence) (n : Nat) (h103 : F.fn 103) (hro : F.round = none) (hn : 1 ≤ n) (Bs b off len cap : Nat) (z : Nat → Nat × Nat) (hreach : len ≤ 100) (w : World) (hBs : Bs < w.heap.size) (hb : 0 < len → b < w.heap.size)
  {Kp : World → World → Prop} (hKr : ∀ W, Kp W W) (hKt : ∀ {A B C : World}, Kp A B → Kp B C → Kp A C) (hK1 : ∀ {A B : World} {v : Value}, Kp A B → A.cell? ⟨Bs, 0, none⟩ = some v → B.cell? ⟨Bs, 0, none⟩ = some v) (hK2 : ∀ {A B : World} {j : Nat} {v : Value}, Kp A B → A.cell? ⟨b, j, none⟩ = some v → B.cell? ⟨b, j, none⟩ = some v)
  (ao : Option Addr) (hao : 0 < len → ao = some ⟨b, off, none⟩) (hc : w.cell? ⟨Bs, 0, none⟩ = some (.slice ao len cap)) (hI : ∀ j, j < len → w.cell? ⟨b, off + j * 2, none⟩ = some (IN (z j).1) ∧ w.cell? ⟨b, off + j * 2 + 1, none⟩ = some (IN (z j).2)) :
  SeqStopsK F n Tryz.prog 103 #[.pointer (some ⟨Bs, 0, none⟩)] (fun x : Int × (Nat × Nat) => #[Value.int .i64 x.1, .agg #[IN x.2.1, IN x.2.2]]) Kp (fun ys => ys = backP z len len) (fun pre => ∃ k, k ≤ len ∧ pre = backP z len k) len w := fun l J Jx W hW _ _ hY h0 =>
 bits1_in F n h103 hro hn l Bs b off len cap z hreach hKr hKt hK1 hK2 J Jx hY W ao hao ((hW.cell (p := ⟨Bs, 0, none⟩) hBs).trans hc) (fun j hj => ⟨(hW.cell (p := ⟨b, off + j * 2, none⟩) (hb (by omega))).trans (hI j hj).1, (hW.cell (p := ⟨b, off + j * 2 + 1, none⟩) (hb (by omega))).trans (hI j hj).2⟩) h0
end Go.Proofs.S
end
section
namespace Go.Proofs.S
open Go Go.Ux Go.Ux.Mach Go.RowKit Go.Shelf Go.Proofs
attribute [local go_sem] Oper.semAt_some
def spreadS (s : BitVec 32 × BitVec 64) (p : Nat × Nat) : BitVec 32 × BitVec 64 := (s.1 ||| ((s.2 &&& (1#64 <<< p.2 - 1#64)).signExtend 32 <<< p.1), BitVec.sshiftRight s.2 p.2)
def spreadF (f : RvForm) (x : BitVec 64) : BitVec 32 := (f.imm.reverse.foldl spreadS (0#32, BitVec.sshiftRight x f.noughts)).1
def spreadP (x : BitVec 64) (f : RvForm) (pre : List (Int × (Nat × Nat))) : BitVec 32 × BitVec 64 := (pre.map (·.2)).foldl spreadS (0#32, BitVec.sshiftRight x f.noughts)
theorem spreadP_snoc (x : BitVec 64) (f : RvForm) (pre : List (Int × (Nat × Nat))) (p : Int × (Nat × Nat)) : spreadP x f (pre ++ [p]) = spreadS (spreadP x f pre) p.2 := by simp [spreadP]
theorem backP_all (l : List (Nat × Nat)) : (backP (fun j => l.getD j (0, 0)) l.length l.length).map (·.2) = l.reverse := by
 apply List.ext_getElem
 ·simp [backP, upto]
 ·intro i h1 h2
  have hi : i < l.length := by simpa using h2
  simp only [backP, upto, List.map_map, List.getElem_map, List.getElem_range, Function.comp]
  rw [List.getElem_reverse]
  simp [List.getD_eq_getElem?_getD, show l.length - 1 - i < l.length by omega]
theorem blk_own {W W' : World} {row : Option Nat} {b : Nat} {cs : Array Value} {t : TypeId} (h : Blk W b cs t) (hg : W.grownBy W' row) (hr : ∀ r, row = some r → ∃ o : Obj, W.heap[r]? = some o ∧ o.isCells = false) : Blk W' b cs t := by
 refine (hg.block b h.lt ?_).trans h
 intro e
 obtain ⟨o, ho, hc⟩ := hr b e.symm
 rw [h] at ho; cases ho; cases hc
def KeepO (O : Nat → Prop) (n₁ : Nat) (A B : World) : Prop := ∀ k, k < n₁ → ¬ O k → B.heap[k]? = A.heap[k]?
theorem KeepO.refl (O : Nat → Prop) (n₁ : Nat) (A : World) : KeepO O n₁ A A := fun _ _ _ => rfl
theorem KeepO.trans {O : Nat → Prop} {n₁ : Nat} {A B C : World} (h : KeepO O n₁ A B) (k : KeepO O n₁ B C) : KeepO O n₁ A C := fun i h1 h2 => (k i h1 h2).trans (h i h1 h2)
theorem KeepO.cell {O : Nat → Prop} {n₁ : Nat} {A B : World} (h : KeepO O n₁ A B) {b j : Nat} {v : Value} (h1 : b < n₁) (h2 : ¬ O b) (hc : A.cell? ⟨b, j, none⟩ = some v) : B.cell? ⟨b, j, none⟩ = some v :=
 (World.cell?_of_block (h b h1 h2)).trans hc
theorem KeepO.put {O : Nat → Prop} {n₁ : Nat} {w : World} (hw : n₁ ≤ w.heap.size) (W : World) (l : Nat) (o o' : Obj) (hl : w.heap.size ≤ l) (_ : W.heap[l]? = some o) (_ : o.isCells = false) (_ : o.isWalk = false) : KeepO O n₁ W (W.putObj l o') := fun k hk _ => World.putObj_heap_other (by omega)
theorem KeepO.mod {O : Nat → Prop} {n₁ : Nat} {A B : World} (h : Mod O A B) (hn : n₁ ≤ A.heap.size) : KeepO O n₁ A B := fun k hk ho => h.block k (by omega) ho
theorem toInt_shr (x : BitVec 64) (n : Nat) : x.toInt / 2 ^ n = (BitVec.sshiftRight x n).toInt := by
 rw [BitVec.toInt_sshiftRight, Int.shiftRight_eq_div_pow]; norm_cast
set_option maxHeartbeats 4000000 in
theorem spread_spec (f : RvForm) (iv : Value) (x : BitVec 64) (w : World) (hI : Sl w iv 2 f.imm.length (bitsCells f.imm)) (hf : Fine f) :
  CallsR Tryz.prog 52 #[.agg #[.bool f.rd, .bool f.rs1, .bool f.rs2, iv, IN f.noughts, .bool f.signed, U32 f.mask], I64 x] w (fun v w' => v = U32 (spreadF f x) ∧ Ext w w') := by
 obtain ⟨ao, cap, rfl, hc, hl, h0⟩ := hI
 have hn1 : (0 : Int) ≤ (f.noughts : Int) := by omega
 have hn2 : (f.noughts : Int) ≤ 64 := by have := hf.2.2.1; omega
 refine (callsIn_wide (n := 5)).1 ?_
 refine callsIn_of_wp_marks Tryz.func52 G trivial ?_ G
 simp only [Tryz.ntmps52, List.size_toArray, List.length_cons, List.length_nil, Nat.reduceAdd, Nat.reduceSub, Array.replicate_succ, Array.replicate_zero, List.push_toArray, List.append_toArray, List.nil_append, List.cons_append]
 gi_wp2_with (refine ⟨trivial, ?_⟩; gi_at_call 86; refine (bits_in Fence.wide _ trivial rfl _ _ _ _).mono ?_; rintro e w1 ⟨rfl, rfl⟩)
 rw [toInt_shr]
 obtain ⟨W0, hW0⟩ : ∃ W0, (((w.alloc (.cells #[.bool f.rd, .bool f.rs1, .bool f.rs2, .slice ao f.imm.length cap, IN f.noughts, .bool f.signed, U32 f.mask] 116)).alloc (.cells #[I64 (BitVec.sshiftRight x f.noughts)] 2)).alloc (.cells #[.int .u32 0] 50)).alloc (.cells #[.slice ao f.imm.length cap] 114) = W0 := ⟨_, rfl⟩
 have hsz : W0.heap.size = w.heap.size + 4 := by rw [← hW0]; simp
 have e0 := alloc_ext w (.cells #[.bool f.rd, .bool f.rs1, .bool f.rs2, .slice ao f.imm.length cap, IN f.noughts, .bool f.signed, U32 f.mask] 116)
 have b3 := alloc_blk (w.alloc (.cells #[.bool f.rd, .bool f.rs1, .bool f.rs2, .slice ao f.imm.length cap, IN f.noughts, .bool f.signed, U32 f.mask] 116)) #[I64 (BitVec.sshiftRight x f.noughts)] 2
 have e1 := alloc_ext (w.alloc (.cells #[.bool f.rd, .bool f.rs1, .bool f.rs2, .slice ao f.imm.length cap, IN f.noughts, .bool f.signed, U32 f.mask] 116)) (.cells #[I64 (BitVec.sshiftRight x f.noughts)] 2)
 have b5 := alloc_blk ((w.alloc (.cells #[.bool f.rd, .bool f.rs1, .bool f.rs2, .slice ao f.imm.length cap, IN f.noughts, .bool f.signed, U32 f.mask] 116)).alloc (.cells #[I64 (BitVec.sshiftRight x f.noughts)] 2)) #[.int .u32 0] 50
 have e2 := alloc_ext ((w.alloc (.cells #[.bool f.rd, .bool f.rs1, .bool f.rs2, .slice ao f.imm.length cap, IN f.noughts, .bool f.signed, U32 f.mask] 116)).alloc (.cells #[I64 (BitVec.sshiftRight x f.noughts)] 2)) (.cells #[.int .u32 0] 50)
 have b14 := alloc_blk (((w.alloc (.cells #[.bool f.rd, .bool f.rs1, .bool f.rs2, .slice ao f.imm.length cap, IN f.noughts, .bool f.signed, U32 f.mask] 116)).alloc (.cells #[I64 (BitVec.sshiftRight x f.noughts)] 2)).alloc (.cells #[.int .u32 0] 50)) #[.slice ao f.imm.length cap] 114
 have e3 := alloc_ext (((w.alloc (.cells #[.bool f.rd, .bool f.rs1, .bool f.rs2, .slice ao f.imm.length cap, IN f.noughts, .bool f.signed, U32 f.mask] 116)).alloc (.cells #[I64 (BitVec.sshiftRight x f.noughts)] 2)).alloc (.cells #[.int .u32 0] 50)) (.cells #[.slice ao f.imm.length cap] 114)
 have b3 := (b3.ext e2).ext e3
 have b5 := b5.ext e3
 have eW : Ext w W0 := by rw [← hW0]; exact ((e0.trans e1).trans e2).trans e3
 rw [hW0] at b3 b5 b14
 simp only [World.size_alloc] at b3 b5 b14
 rw [hW0]
 clear hW0 e0 e1 e2 e3
 have hcell : ∀ b off, ao = some ⟨b, off, none⟩ → ∀ j, j < f.imm.length → w.cell? ⟨b, off + j * 2, none⟩ = some (IN (f.imm.getD j (0, 0)).1) ∧ w.cell? ⟨b, off + j * 2 + 1, none⟩ = some (IN (f.imm.getD j (0, 0)).2) := by
  intro b off hab j hj
  rcases h0 with h0 | ⟨b', o', hb', hcl⟩
  ·omega
  ·rw [hab] at hb'; cases hb'
   have hg := bitsCells_get f.imm j hj
   have hd : f.imm.getD j (0, 0) = f.imm[j] := by simp [List.getD_eq_getElem?_getD, hj]
   rw [hd]
   exact ⟨hcl _ _ hg.1, by have := hcl _ _ hg.2; rwa [← Nat.add_assoc] at this⟩
 obtain ⟨gb, go, hgo, hgb⟩ : ∃ b off, (0 < f.imm.length → ao = some ⟨b, off, none⟩) ∧ b ≤ w.heap.size := by
  rcases h0 with h0 | ⟨b', o', hb', _⟩
  ·exact ⟨w.heap.size, 0, fun h => by omega, Nat.le_refl _⟩
  ·rcases Nat.eq_zero_or_pos f.imm.length with h1 | h1
   ·exact ⟨w.heap.size, 0, fun h => by omega, Nat.le_refl _⟩
   ·exact ⟨b', o', fun _ => hb', Nat.le_of_lt (World.block_lt_of_cell? w _ (hcell b' o' hb' 0 h1).1)⟩
 refine wpIn_rangeFunc_ownH G (by omega) (gf := 103) (lb := #[.pointer (some ⟨w.heap.size + 1 + 1 + 1, 0, none⟩)]) G trivial (enters_of Tryz.func103 (by kernel_rfl) G)
  (bits_stops Fence.wide _ trivial rfl (by omega) (w.heap.size + 1 + 1 + 1) gb go f.imm.length cap (fun j => f.imm.getD j (0, 0)) (by have := hf.1; omega) W0 (by omega) (fun h => by omega) (Kp := KeepO (fun k => k = w.heap.size + 1 ∨ k = w.heap.size + 1 + 1) (w.heap.size + 4)) (KeepO.refl _ _) (fun h k => h.trans k) (fun h hc => h.cell (by omega) (by omega) hc) (fun h hc => h.cell (by omega) (by omega) hc) ao hgo (b14.cell rfl) (fun j hj => ⟨eW.cell (hcell gb go (hgo (by omega)) j hj).1 (fun h => h), eW.cell (hcell gb go (hgo (by omega)) j hj).2 (fun h => h)⟩))
  (fun h k => h.trans k) (KeepO.put (by omega)) (Below.refl _ _) (fun _ => rfl)
  (fun pre W => (Blk W (w.heap.size + 1) #[I64 (spreadP x f pre).2] 2 ∧ Blk W (w.heap.size + 1 + 1) #[U32 (spreadP x f pre).1] 50 ∧ Blk W (w.heap.size + 1 + 1 + 1) #[.slice ao f.imm.length cap] 114) ∧ Below w.heap.size w W)
  (fun _ _ _ => False)
  (OwnFrom.and (Own.from (fun s A B row hs hg hr => ⟨blk_own hs.1 hg hr, blk_own hs.2.1 hg hr, blk_own hs.2.2 hg hr⟩) _) (ownFrom_below (Nat.le_refl _) (by omega)))
  (fun _ _ _ _ _ hs _ _ => hs)
  ⟨⟨b3, b5, b14⟩, eW.below⟩
  (fun y a' W => ∃ Bx, w.heap.size + 3 < Bx ∧ Blk W Bx #[IN y.2.1, IN y.2.2] 125 ∧ a' = { tmps := #[.agg #[.bool f.rd, .bool f.rs1, .bool f.rs2, .slice ao f.imm.length cap, IN f.noughts, .bool f.signed, U32 f.mask], I64 x, .pointer (some ⟨w.heap.size, 0, none⟩), .pointer (some ⟨w.heap.size + 1, 0, none⟩), .int .u32 0, .pointer (some ⟨w.heap.size + 1 + 1, 0, none⟩), undef, .pointer (some ⟨Bx, 0, none⟩), I64 x, .pointer (some ⟨w.heap.size, 4, none⟩), IN f.noughts, (.int .i64 (x.toInt >>> f.noughts)), .pointer (some ⟨w.heap.size, 3, none⟩), .slice ao f.imm.length cap, .func (.func 103) #[] #[.pointer (some ⟨w.heap.size + 1 + 1 + 1, 0, none⟩)], .int .i64 y.1, .agg #[IN y.2.1, IN y.2.2], undef, undef, undef, undef, undef, undef, undef, undef, undef, undef, undef, undef, undef, undef, undef, undef, undef], defers := [] })
  (fun y a' _ X Y row hs hg hr => by obtain ⟨Bx, k1, k2, k3⟩ := hs; exact ⟨Bx, k1, blk_own k2 hg (fun r e => (hr r e).2), k3⟩)
  ?assign ?body ?done ?stop
 case assign =>
  rintro l pre y W K ⟨⟨c3, c5, c14⟩, hB⟩ hK
  gi_wp2
  exact hK _ _ ((KeepsOthers.alloc _ _).from _) (KeepO.mod (Mod.ext (alloc_ext W _)) (by have := c14.lt; omega)) ⟨⟨c3.ext (alloc_ext W _), c5.ext (alloc_ext W _), c14.ext (alloc_ext W _)⟩, hB.alloc hB.size _⟩ ⟨W.heap.size, by have := c14.lt; omega, alloc_blk W _ _, rfl⟩
 case body =>
  rintro l pre y a' W hl hr ⟨⟨c3, c5, c14⟩, hB⟩ ⟨Bx, hBx, c7, rfl⟩ hlt
  refine wpIn_mono (spread_body l _ _ W (w.heap.size + 1) (w.heap.size + 1 + 1) Bx (spreadP x f pre).1 (spreadP x f pre).2 y.2 G G G c3 c5 c7 (by omega) (by omega) (by omega) _ G G G) ?_
  rintro e a2 W2 ⟨_, _, rfl, hm, d3, d5⟩
  have hl14 := c14.lt
  refine ⟨?_, KeepO.mod hm (by omega), ⟨⟨?_, ?_, ?_⟩, ?_⟩⟩
  ·exact ⟨hm.size, fun i o hi ho _ => (hm.block i (Array.getElem?_eq_some_iff.1 ho).1 (by omega)).trans ho⟩
  ·rw [spreadP_snoc]; exact d3
  ·rw [spreadP_snoc]; exact d5
  ·exact c14.mod hm (by omega)
  ·exact hB.trans ⟨hm.os, hm.tape, hm.output, hm.size, fun k hk => hm.block k (by omega) (by omega)⟩
 case done =>
  rintro D ys W hD rfl ⟨⟨c3, c5, c14⟩, hB⟩ hK
  have h5 := c5.cell (j := 0) rfl
  have hv : (spreadP x f (backP (fun j => f.imm.getD j (0, 0)) f.imm.length f.imm.length)).1 = spreadF f x := by unfold spreadP spreadF; rw [backP_all]
  rw [hv] at h5
  gi_wp2
  refine ⟨by simp, .inl ⟨_, _, rfl, run_takeDeferred hK, ?_⟩⟩
  exact ⟨_, results_tmp G _ _ _, _, G, G, ext_of_below (hB.trans (belowK_b (w := w) (Nat.le_refl _) W D _ _ (by omega) hK G G))⟩
 case stop =>
  rintro D c pre W _ _ h _
  exact h.elim
end Go.Proofs.S
end
section
set_option linter.unusedSimpArgs false
set_option linter.unusedVariables false
namespace Go.Proofs.M
open Go Go.Ux Go.Ux.Mach Go.Proofs
def overW (f : RvForm) : BitVec 64 := 1#64 <<< width f
def fitsF (f : RvForm) (n : BitVec 64) : Bool :=
 let least := if f.signed then (-(overW f)).sdiv 2#64 else 0#64
 let over := if f.signed then (overW f).sdiv 2#64 else overW f
 BitVec.sle least n && BitVec.slt n over && ((n &&& ((1#64 <<< f.noughts) - 1#64)) == 0#64)
theorem fits_spec (fm : RvForm) (iv : Value) (x : BitVec 64) (w : World) (hI : Sl w iv 2 fm.imm.length (bitsCells fm.imm)) (hf : Fine fm) : CallsR Tryz.prog 50 #[.agg #[.bool fm.rd, .bool fm.rs1, .bool fm.rs2, iv, IN fm.noughts, .bool fm.signed, U32 fm.mask], I64 x] w (fun v w' => v = .bool (fitsF fm x) ∧ Ext w w') := by
 have hf0 := hf
 obtain ⟨hf1, hf2, hf3, hf4⟩ := hf0
 refine callsR_of Tryz.func50 G G G ?_
 refine Sr (WL.box (v := .agg #[.bool fm.rd, .bool fm.rs1, .bool fm.rs2, iv, IN fm.noughts, .bool fm.signed, U32 fm.mask]) G G ?_)
 intro b2 w2 n2
 have E1 : Ext w w2 := n2.ext
 refine An (.bool false) G (Ni (Sq (WC.draw (fun w_ => Ext w2 w_) 5 G mixed ?_)))
 intro wd_1 ed_1
 have R2 : Ext w2 wd_1 := ed_1
 have E3 := Mt E1 ed_1
 refine Tk 0 (.agg #[.bool fm.rd, .bool fm.rs1, .bool fm.rs2, iv, IN fm.noughts, .bool fm.signed, U32 fm.mask]) G G (fun _ hS => Ls _ G ag116 sz116 ((n2.blk.ext hS)) Ok) R2 (WA.one (i := 1) (m' := 3) (by kernel_rfl) G G (WL.call ca85 G G (width_spec fm iv _ (hI.ext' E3) hf) ?_))
 rintro _ wd8 ⟨rfl, ed8⟩
 have R6 := Mt R2 ed8
 have E7 := Mt E3 ed8
 refine WL.behind R6 (Tk 2 (I64 (1#64 <<< width fm)) G G (fun _ _ => Bn (vx := I64 1#64) G G (BinR.shl64 (s := width fm)) Ok) R6 (Tk 3 (I64 (0#64)) G G (fun _ _ => An _ G Ok) R6 (Tk 4 (I64 (1#64 <<< width fm)) G G (fun _ _ => An _ G Ok) R6 (WA.done (by kernel_rfl) (Sq (Sr (Fa G fo116_5 ?_)))))))
 have B11 := (n2.blk.ext ed_1).ext ed8
 refine Lo G ag4 (B11.cell (j := 5) G) (Ni ?_)
 refine WC.cond G (fun hc11 => ?_) (fun hc11 => ?_)
 ·refine Rg (Mv (I64 (1#64 <<< width fm)) G (WL.un G G UnR.neg64 (Bn (vy := I64 (2#64)) G G (BinR.quo64 (by decide)) (Mv (I64 (1#64 <<< width fm)) G (Bn (vy := I64 (2#64)) G G (BinR.quo64 (by decide)) (An (I64 ((-(1#64 <<< width fm)).sdiv 2#64)) G (An (I64 ((1#64 <<< width fm).sdiv 2#64)) G (Ni (Sq ?_)))))))))
  refine Rg (Mv (I64 x) G (Mv (I64 ((-(1#64 <<< width fm)).sdiv 2#64)) G (Bn G G BinR.geq64 (Mv (.bool (BitVec.sle ((-(1#64 <<< width fm)).sdiv 2#64) x)) G ?_))))
  rcases Bool.eq_false_or_eq_true (BitVec.sle ((-(1#64 <<< width fm)).sdiv 2#64) x) with hg20 | hg20
  ·refine Gt (Yb G G hg20) (Mv (I64 x) G (Gt (Yb G G hg20) (Mv (I64 ((1#64 <<< width fm).sdiv 2#64)) G (Gt (Yb G G hg20) (Bn G G BinR.lss64 (Pk (b := true) (congrArg Value.bool hg20) G (Mv (.bool (BitVec.slt x ((1#64 <<< width fm).sdiv 2#64))) G ?_)))))))
   rcases Bool.eq_false_or_eq_true (BitVec.slt x ((1#64 <<< width fm).sdiv 2#64)) with hg25 | hg25
   ·refine Gt (Yb G G hg25) (Mv (I64 x) G (Gt (Yb G G hg25) (Fa G fo116_4 (Gt (Yb G G hg25) (Lo G ag3 (B11.cell (j := 4) G) (Gt (Yb G G hg25) (Bn (vx := I64 1#64) G G (BinR.shl64 (s := fm.noughts)) (Gt (Yb G G hg25) (Bn (vy := I64 (1#64)) G G BinR.sub64 ?_)))))))))
    refine Gt (Yb G G hg25) (Bn G G BinR.and64 (Gt (Yb G G hg25) (Bn (vy := I64 (0#64)) G G BinR.eql64 (Pk (b := true) (congrArg Value.bool hg25) G (An (.bool (((x &&& (1#64 <<< fm.noughts - 1#64)) == 0#64))) G (Ni (WC.ret ?_)))))))
    have hfin : ((.bool (((x &&& (1#64 <<< fm.noughts - 1#64)) == 0#64))) : Value) = Value.bool (fitsF fm x) := congrArg Value.bool (by simp only [fitsF, overW, *, if_true, if_false, Bool.false_eq_true, Bool.true_or, Bool.or_true, Bool.false_or, Bool.or_false, Bool.true_and, Bool.and_true, Bool.false_and, Bool.and_false])
    exact ⟨_, Res.one (v := .bool (((x &&& (1#64 <<< fm.noughts - 1#64)) == 0#64))) G G, hfin, E7⟩
   ·refine Gf false (Yb G G hg25) (Gf false (Yb G G hg25) (Gf false (Yb G G hg25) (Gf false (Yb G G hg25) (Gf false (Yb G G hg25) (Gf false (Yb G G hg25) (Gf false (Yb G G hg25) (Pk (b := false) (congrArg Value.bool hg25) G (An (.bool false) G (Ni ?_)))))))))
    refine WC.ret ?_
    have hfin : ((.bool false) : Value) = Value.bool (fitsF fm x) := congrArg Value.bool (by simp only [fitsF, overW, *, if_true, if_false, Bool.false_eq_true, Bool.true_or, Bool.or_true, Bool.false_or, Bool.or_false, Bool.true_and, Bool.and_true, Bool.false_and, Bool.and_false])
    exact ⟨_, Res.one (v := .bool false) G G, hfin, E7⟩
  ·refine Gf false (Yb G G hg20) (Gf false (Yb G G hg20) (Gf false (Yb G G hg20) (Pk (b := false) (congrArg Value.bool hg20) G (Mv (.bool false) G (Gf false G (Gf false G (Gf false G (Gf false G (Gf false G ?_)))))))))
   refine Gf false G (Gf false G (Pk (b := false) G G (An (.bool false) G (Ni (WC.ret ?_)))))
   have hfin : ((.bool false) : Value) = Value.bool (fitsF fm x) := congrArg Value.bool (by simp only [fitsF, overW, *, if_true, if_false, Bool.false_eq_true, Bool.true_or, Bool.or_true, Bool.false_or, Bool.or_false, Bool.true_and, Bool.and_true, Bool.false_and, Bool.and_false])
   exact ⟨_, Res.one (v := .bool false) G G, hfin, E7⟩
 ·refine WC.skip (Sr (Mv (I64 x) G (Mv (I64 (0#64)) G (Bn G G BinR.geq64 (Mv (.bool (BitVec.sle (0#64) x)) G ?_)))))
  rcases Bool.eq_false_or_eq_true (BitVec.sle (0#64) x) with hg20 | hg20
  ·refine Gt (Yb G G hg20) (Mv (I64 x) G (Gt (Yb G G hg20) (Mv (I64 (1#64 <<< width fm)) G (Gt (Yb G G hg20) (Bn G G BinR.lss64 (Pk (b := true) (congrArg Value.bool hg20) G (Mv (.bool (BitVec.slt x (1#64 <<< width fm))) G ?_)))))))
   rcases Bool.eq_false_or_eq_true (BitVec.slt x (1#64 <<< width fm)) with hg25 | hg25
   ·refine Gt (Yb G G hg25) (Mv (I64 x) G (Gt (Yb G G hg25) (Fa G fo116_4 (Gt (Yb G G hg25) (Lo G ag3 (B11.cell (j := 4) G) (Gt (Yb G G hg25) (Bn (vx := I64 1#64) G G (BinR.shl64 (s := fm.noughts)) (Gt (Yb G G hg25) (Bn (vy := I64 (1#64)) G G BinR.sub64 ?_)))))))))
    refine Gt (Yb G G hg25) (Bn G G BinR.and64 (Gt (Yb G G hg25) (Bn (vy := I64 (0#64)) G G BinR.eql64 (Pk (b := true) (congrArg Value.bool hg25) G (An (.bool (((x &&& (1#64 <<< fm.noughts - 1#64)) == 0#64))) G (Ni (WC.ret ?_)))))))
    have hfin : ((.bool (((x &&& (1#64 <<< fm.noughts - 1#64)) == 0#64))) : Value) = Value.bool (fitsF fm x) := congrArg Value.bool (by simp only [fitsF, overW, *, if_true, if_false, Bool.false_eq_true, Bool.true_or, Bool.or_true, Bool.false_or, Bool.or_false, Bool.true_and, Bool.and_true, Bool.false_and, Bool.and_false])
    exact ⟨_, Res.one (v := .bool (((x &&& (1#64 <<< fm.noughts - 1#64)) == 0#64))) G G, hfin, E7⟩
   ·refine Gf false (Yb G G hg25) (Gf false (Yb G G hg25) (Gf false (Yb G G hg25) (Gf false (Yb G G hg25) (Gf false (Yb G G hg25) (Gf false (Yb G G hg25) (Gf false (Yb G G hg25) (Pk (b := false) (congrArg Value.bool hg25) G (An (.bool false) G (Ni ?_)))))))))
    refine WC.ret ?_
    have hfin : ((.bool false) : Value) = Value.bool (fitsF fm x) := congrArg Value.bool (by simp only [fitsF, overW, *, if_true, if_false, Bool.false_eq_true, Bool.true_or, Bool.or_true, Bool.false_or, Bool.or_false, Bool.true_and, Bool.and_true, Bool.false_and, Bool.and_false])
    exact ⟨_, Res.one (v := .bool false) G G, hfin, E7⟩
  ·refine Gf false (Yb G G hg20) (Gf false (Yb G G hg20) (Gf false (Yb G G hg20) (Pk (b := false) (congrArg Value.bool hg20) G (Mv (.bool false) G (Gf false G (Gf false G (Gf false G (Gf false G (Gf false G ?_)))))))))
   refine Gf false G (Gf false G (Pk (b := false) G G (An (.bool false) G (Ni (WC.ret ?_)))))
   have hfin : ((.bool false) : Value) = Value.bool (fitsF fm x) := congrArg Value.bool (by simp only [fitsF, overW, *, if_true, if_false, Bool.false_eq_true, Bool.true_or, Bool.or_true, Bool.false_or, Bool.or_false, Bool.true_and, Bool.and_true, Bool.false_and, Bool.and_false])
   exact ⟨_, Res.one (v := .bool false) G G, hfin, E7⟩
end Go.Proofs.M
end
