/- Steps of the proof, packed by program: McS8 McA1 McA2 UxMapF McA3. -/
import Derived.Test.YtlabgjcjccdjfaaGreatDoorRows
import Derived.Test.YtlabgjcjccdjfaaGreatDoorMpackQ02
import Derived.Test.YtlabgjcjccdjfaaGreatDoorMpackQ05
set_option linter.unusedVariables false
set_option linter.unusedSimpArgs false
set_option linter.unnecessarySimpa false
set_option maxRecDepth 100000
section
set_option linter.unusedSimpArgs false
set_option linter.unusedVariables false
namespace Go.Proofs.S
open Go Go.Ux Go.Ux.Mach Go.Proofs
theorem fo48_0 : fieldOff Tryz.prog 48 0 = some 0 := by kernel_rfl
theorem ag5 : isAggT Tryz.prog 5 = some false := by kernel_rfl
theorem ca48 : callable Tryz.prog 48 = true := by kernel_rfl
theorem zt118 : zeroT Tryz.prog 118 = some #[.bool false, .bool false, .bool false, .slice none 0 0, .int .i64 0, .bool false, .int .u32 0, .string ⟨#[]⟩, .int .u32 0] := by kernel_rfl
theorem sz118 : sizeT Tryz.prog 118 = some 9 := by kernel_rfl
theorem fo118_0 : fieldOff Tryz.prog 118 0 = some 0 := by kernel_rfl
theorem fo116_0 : fieldOff Tryz.prog 116 0 = some 0 := by kernel_rfl
theorem fo48_1 : fieldOff Tryz.prog 48 1 = some 1 := by kernel_rfl
theorem ca49 : callable Tryz.prog 49 = true := by kernel_rfl
theorem fo116_1 : fieldOff Tryz.prog 116 1 = some 1 := by kernel_rfl
theorem fo48_2 : fieldOff Tryz.prog 48 2 = some 2 := by kernel_rfl
theorem fo116_2 : fieldOff Tryz.prog 116 2 = some 2 := by kernel_rfl
theorem fo48_3 : fieldOff Tryz.prog 48 3 = some 3 := by kernel_rfl
theorem fo116_3 : fieldOff Tryz.prog 116 3 = some 3 := by kernel_rfl
theorem ag114 : isAggT Tryz.prog 114 = some false := by kernel_rfl
theorem el114 : elemT Tryz.prog 114 = some 125 := by kernel_rfl
theorem fo48_4 : fieldOff Tryz.prog 48 4 = some 4 := by kernel_rfl
theorem ag116 : isAggT Tryz.prog 116 = some true := by kernel_rfl
theorem sz116 : sizeT Tryz.prog 116 = some 7 := by kernel_rfl
theorem ca50 : callable Tryz.prog 50 = true := by kernel_rfl
theorem fo118_2 : fieldOff Tryz.prog 118 2 = some 8 := by kernel_rfl
theorem ca52 : callable Tryz.prog 52 = true := by kernel_rfl
theorem bls28_88o1 (p q r s t : BitVec 32) : ∀ w : World, (Instr.buildSlice 23 5 #[(0, U32 p), (1, U32 q), (2, U32 r), (3, U32 s), (4, U32 t)]).run Tryz.prog w = .ok (.slice (some ⟨w.heap.size, 0, none⟩) 5 5) (w.alloc (.cells #[U32 p, U32 q, U32 r, U32 s, U32 t] 50)) := fun _ => by kernel_rfl
theorem ca51 : callable Tryz.prog 51 = true := by kernel_rfl
theorem bls28_88o0 (p q r s t : BitVec 32) : ∀ w : World, (Instr.buildSlice 23 5 #[(0, U32 p), (1, U32 q), (2, U32 r), (3, U32 s), (4, U32 t)]).run Tryz.prog w = .ok (.slice (some ⟨w.heap.size, 0, none⟩) 5 5) (w.alloc (.cells #[U32 p, U32 q, U32 r, U32 s, U32 t] 50)) := fun _ => by kernel_rfl
open Go.Proofs.M (instV Glob mayF may_spec of_no of_ok fitsF fits_spec together_spec)
def encBad (a : RvInst) : Bool := !(mayF (formOf (rvAt a.op.toNat).k).rd a.rd) || (!(mayF (formOf (rvAt a.op.toNat).k).rs1 a.rs1) || (!(mayF (formOf (rvAt a.op.toNat).k).rs2 a.rs2) || (((((formOf (rvAt a.op.toNat).k).imm.length : Nat) : Int) == (0 : Int)) && (a.imm != 0#64))))
def encW (a : RvInst) : BitVec 32 := tog [(rvAt a.op.toNat).mtch, a.rd.setWidth 32 <<< 7, a.rs1.setWidth 32 <<< 15, a.rs2.setWidth 32 <<< 20, spreadF (formOf (rvAt a.op.toNat).k) a.imm]
def encodeR (a : RvInst) : BitVec 32 × Nat :=
 if a.op.toNat < 1 ∨ 66 ≤ a.op.toNat then (0#32, 100)
 else if encBad a then (0#32, 100)
 else if !(fitsF (formOf (rvAt a.op.toNat).k) a.imm) then (0#32, 101)
 else (encW a, 0)
theorem enc_no (a : RvInst) (w : World) (hG : Glob w) (ho : a.op.toNat < 1 ∨ 66 ≤ a.op.toNat) : CallsR Tryz.prog 28 #[.agg #[U8 a.op, U8 a.rd, U8 a.rs1, U8 a.rs2, I64 a.imm]] w (fun v w' => v = .tuple #[U32 0#32, .int .i64 100] ∧ Ext w w') := by
 refine callsR_of Tryz.func28 G G G ?_
 refine Sr (WL.box (v := .agg #[U8 a.op, U8 a.rd, U8 a.rs1, U8 a.rs2, I64 a.imm]) G G ?_)
 intro b1 w1 n1
 have E1 : Ext w w1 := n1.ext
 refine An (U32 (0#32)) G (An (IN 0) G (Ni (Sr (Fa G fo48_0 (Lo G ag5 (n1.blk.cell (j := 0) G) (WL.call ca48 G G (of_no a.op _ (hG.ext E1) ho) ?_))))))
 rintro _ wof ⟨rfl, eof⟩
 have E2 := Mt E1 eof
 refine Mv (.tuple #[rowVal (.slice none 0 0) zeroRow, .bool false]) G (Et G G (Et G G (WL.allocStore (v := .agg #[.bool ((formOf zeroRow.k).rd), .bool ((formOf zeroRow.k).rs1), .bool ((formOf zeroRow.k).rs2), (.slice none 0 0), IN ((formOf zeroRow.k).noughts), .bool ((formOf zeroRow.k).signed), U32 ((formOf zeroRow.k).mask), St zeroRow.name, U32 zeroRow.mtch]) zt118 G sz118 G G G G ?_)))
 intro b4 w4 n4
 have E3 := Mt E2 n4.ext
 refine An (.bool false) G (Ni (Sr (An (.func (.func 49) #[] #[]) G (Ni (Sq (Sr (Mv (.bool false) G ?_)))))))
 refine WL.un G G UnR.not (Mv (.bool true) G (Gf true G (Gf true G (Gf true G (Gf true G (Gf true G (Gf true G (Gf true G (Gf true G ?_)))))))))
 refine Pk (b := true) G G (Mv (.bool true) G (Gf true G (Gf true G (Gf true G (Gf true G (Gf true G (Gf true G (Gf true G (Gf true G ?_)))))))))
 refine Pk (b := true) G G (Mv (.bool true) G (Gf true G (Gf true G (Gf true G (Gf true G (Gf true G (Gf true G (Gf true G (Gf true G ?_)))))))))
 refine Pk (b := true) G G (Mv (.bool true) G (Gf true G (Gf true G (Gf true G (Gf true G (Gf true G (Gf true G (WL.guardU G G (WL.guardU G G ?_)))))))))
 refine WL.guardU G G (Gf true G (Pk (b := true) G G (Ni (Ct G (Sr (An (U32 (0#32)) G (An (IN 100) G (Ni ?_))))))))
 refine WC.ret ?_
 exact ⟨_, Res.two (v := U32 (0#32)) (v' := IN 100) G G G, G, E3⟩
theorem enc_bad1 (a : RvInst) (w : World) (hG : Glob w) (ho1 : 1 ≤ a.op.toNat) (ho2 : a.op.toNat < 66) (m1 : mayF (formOf (rvAt a.op.toNat).k).rd a.rd = false) : CallsR Tryz.prog 28 #[.agg #[U8 a.op, U8 a.rd, U8 a.rs1, U8 a.rs2, I64 a.imm]] w (fun v w' => v = .tuple #[U32 0#32, .int .i64 100] ∧ Ext w w') := by
 refine callsR_of Tryz.func28 G G G ?_
 refine Sr (WL.box (v := .agg #[U8 a.op, U8 a.rd, U8 a.rs1, U8 a.rs2, I64 a.imm]) G G ?_)
 intro b1 w1 n1
 have E1 : Ext w w1 := n1.ext
 refine An (U32 (0#32)) G (An (IN 0) G (Ni (Sr (Fa G fo48_0 (Lo G ag5 (n1.blk.cell (j := 0) G) (WL.call ca48 G G (of_ok a.op _ (hG.ext E1) ho1 ho2) ?_))))))
 rintro _ wof ⟨iv, rfl, hIV, eof⟩
 have E2 := Mt E1 eof
 refine Mv (.tuple #[rowVal iv (rvAt a.op.toNat), .bool true]) G (Et G G (Et G G (WL.allocStore (v := .agg #[.bool ((formOf (rvAt a.op.toNat).k).rd), .bool ((formOf (rvAt a.op.toNat).k).rs1), .bool ((formOf (rvAt a.op.toNat).k).rs2), iv, IN ((formOf (rvAt a.op.toNat).k).noughts), .bool ((formOf (rvAt a.op.toNat).k).signed), U32 ((formOf (rvAt a.op.toNat).k).mask), St (rvAt a.op.toNat).name, U32 ((rvAt a.op.toNat).mtch)]) zt118 G sz118 G G (ones_row hIV.one _ _ _ _ _ _ _ _) G ?_)))
 intro b4 w4 n4
 have E3 := Mt E2 n4.ext
 refine An (.bool true) G (Ni (Sr (An (.func (.func 49) #[] #[]) G (Ni (Sq (Sr (Mv (.bool true) G ?_)))))))
 refine WL.un G G UnR.not (Mv (.bool false) G (Gt G (Mv (.func (.func 49) #[] #[]) G (Gt G (Fa G fo118_0 (Gt G (Fa G fo116_0 (Gt G (Lo G ag4 (n4.blk.cell (j := 0) G) ?_)))))))))
 refine Gt G (Fa G fo48_1 (Gt G ?_))
 have B4 := (n1.blk.ext eof).ext n4.ext
 refine Lo G ag5 (B4.cell (j := 1) G) (Gt G (WL.callV (fs := #[]) (cs := #[]) G ca49 G G (may_spec (formOf (rvAt a.op.toNat).k).rd a.rd _) ?_))
 rintro _ wm22 ⟨rfl, em22⟩
 rw [m1]
 have E5 := Mt E3 em22
 refine Gt G (WL.un G G UnR.not (Pk (b := false) G G (Mv (.bool true) G (Gf true G (Gf true G (Gf true G (Gf true G (Gf true G (Gf true G ?_)))))))))
 refine Gf true G (Gf true G (Pk (b := true) G G (Mv (.bool true) G (Gf true G (Gf true G (Gf true G (Gf true G (Gf true G (Gf true G ?_)))))))))
 refine Gf true G (Gf true G (Pk (b := true) G G (Mv (.bool true) G (Gf true G (Gf true G (Gf true G (Gf true G (Gf true G (Gf true G ?_)))))))))
 refine WL.guardU G G (WL.guardU G G (WL.guardU G G (Gf true G (Pk (b := true) G G (Ni (Ct G (Sr (An (U32 (0#32)) G ?_))))))))
 refine An (IN 100) G (Ni (WC.ret ?_))
 exact ⟨_, Res.two (v := U32 (0#32)) (v' := IN 100) G G G, G, E5⟩
theorem enc_bad2 (a : RvInst) (w : World) (hG : Glob w) (ho1 : 1 ≤ a.op.toNat) (ho2 : a.op.toNat < 66) (m1 : mayF (formOf (rvAt a.op.toNat).k).rd a.rd = true) (m2 : mayF (formOf (rvAt a.op.toNat).k).rs1 a.rs1 = false) : CallsR Tryz.prog 28 #[.agg #[U8 a.op, U8 a.rd, U8 a.rs1, U8 a.rs2, I64 a.imm]] w (fun v w' => v = .tuple #[U32 0#32, .int .i64 100] ∧ Ext w w') := by
 refine callsR_of Tryz.func28 G G G ?_
 refine Sr (WL.box (v := .agg #[U8 a.op, U8 a.rd, U8 a.rs1, U8 a.rs2, I64 a.imm]) G G ?_)
 intro b1 w1 n1
 have E1 : Ext w w1 := n1.ext
 refine An (U32 (0#32)) G (An (IN 0) G (Ni (Sr (Fa G fo48_0 (Lo G ag5 (n1.blk.cell (j := 0) G) (WL.call ca48 G G (of_ok a.op _ (hG.ext E1) ho1 ho2) ?_))))))
 rintro _ wof ⟨iv, rfl, hIV, eof⟩
 have E2 := Mt E1 eof
 refine Mv (.tuple #[rowVal iv (rvAt a.op.toNat), .bool true]) G (Et G G (Et G G (WL.allocStore (v := .agg #[.bool ((formOf (rvAt a.op.toNat).k).rd), .bool ((formOf (rvAt a.op.toNat).k).rs1), .bool ((formOf (rvAt a.op.toNat).k).rs2), iv, IN ((formOf (rvAt a.op.toNat).k).noughts), .bool ((formOf (rvAt a.op.toNat).k).signed), U32 ((formOf (rvAt a.op.toNat).k).mask), St (rvAt a.op.toNat).name, U32 ((rvAt a.op.toNat).mtch)]) zt118 G sz118 G G (ones_row hIV.one _ _ _ _ _ _ _ _) G ?_)))
 intro b4 w4 n4
 have E3 := Mt E2 n4.ext
 refine An (.bool true) G (Ni (Sr (An (.func (.func 49) #[] #[]) G (Ni (Sq (Sr (Mv (.bool true) G ?_)))))))
 refine WL.un G G UnR.not (Mv (.bool false) G (Gt G (Mv (.func (.func 49) #[] #[]) G (Gt G (Fa G fo118_0 (Gt G (Fa G fo116_0 (Gt G (Lo G ag4 (n4.blk.cell (j := 0) G) ?_)))))))))
 refine Gt G (Fa G fo48_1 (Gt G ?_))
 have B4 := (n1.blk.ext eof).ext n4.ext
 refine Lo G ag5 (B4.cell (j := 1) G) (Gt G (WL.callV (fs := #[]) (cs := #[]) G ca49 G G (may_spec (formOf (rvAt a.op.toNat).k).rd a.rd _) ?_))
 rintro _ wm22 ⟨rfl, em22⟩
 rw [m1]
 have E5 := Mt E3 em22
 refine Gt G (WL.un G G UnR.not (Pk (b := false) G G (Mv (.bool false) G (Gt G (Mv (.func (.func 49) #[] #[]) G (Gt G (Fa G fo118_0 (Gt G (Fa G fo116_1 ?_)))))))))
 refine Gt G ?_
 have B6 := n4.blk.ext em22
 refine Lo G ag4 (B6.cell (j := 1) G) (Gt G (Fa G fo48_2 (Gt G ?_)))
 have B7 := B4.ext em22
 refine Lo G ag5 (B7.cell (j := 2) G) (Gt G (WL.callV (fs := #[]) (cs := #[]) G ca49 G G (may_spec (formOf (rvAt a.op.toNat).k).rs1 a.rs1 _) ?_))
 rintro _ wm32 ⟨rfl, em32⟩
 rw [m2]
 have E8 := Mt E5 em32
 refine Gt G (WL.un G G UnR.not (Pk (b := false) G G (Mv (.bool true) G (Gf true G (Gf true G (Gf true G (Gf true G (Gf true G (Gf true G ?_)))))))))
 refine Gf true G (Gf true G (Pk (b := true) G G (Mv (.bool true) G (Gf true G (Gf true G (Gf true G (Gf true G (Gf true G (Gf true G ?_)))))))))
 refine WL.guardU G G (WL.guardU G G (WL.guardU G G (Gf true G (Pk (b := true) G G (Ni (Ct G (Sr (An (U32 (0#32)) G ?_))))))))
 refine An (IN 100) G (Ni (WC.ret ?_))
 exact ⟨_, Res.two (v := U32 (0#32)) (v' := IN 100) G G G, G, E8⟩
theorem enc_bad3 (a : RvInst) (w : World) (hG : Glob w) (ho1 : 1 ≤ a.op.toNat) (ho2 : a.op.toNat < 66) (m1 : mayF (formOf (rvAt a.op.toNat).k).rd a.rd = true) (m2 : mayF (formOf (rvAt a.op.toNat).k).rs1 a.rs1 = true) (m3 : mayF (formOf (rvAt a.op.toNat).k).rs2 a.rs2 = false) : CallsR Tryz.prog 28 #[.agg #[U8 a.op, U8 a.rd, U8 a.rs1, U8 a.rs2, I64 a.imm]] w (fun v w' => v = .tuple #[U32 0#32, .int .i64 100] ∧ Ext w w') := by
 refine callsR_of Tryz.func28 G G G ?_
 refine Sr (WL.box (v := .agg #[U8 a.op, U8 a.rd, U8 a.rs1, U8 a.rs2, I64 a.imm]) G G ?_)
 intro b1 w1 n1
 have E1 : Ext w w1 := n1.ext
 refine An (U32 (0#32)) G (An (IN 0) G (Ni (Sr (Fa G fo48_0 (Lo G ag5 (n1.blk.cell (j := 0) G) (WL.call ca48 G G (of_ok a.op _ (hG.ext E1) ho1 ho2) ?_))))))
 rintro _ wof ⟨iv, rfl, hIV, eof⟩
 have E2 := Mt E1 eof
 refine Mv (.tuple #[rowVal iv (rvAt a.op.toNat), .bool true]) G (Et G G (Et G G (WL.allocStore (v := .agg #[.bool ((formOf (rvAt a.op.toNat).k).rd), .bool ((formOf (rvAt a.op.toNat).k).rs1), .bool ((formOf (rvAt a.op.toNat).k).rs2), iv, IN ((formOf (rvAt a.op.toNat).k).noughts), .bool ((formOf (rvAt a.op.toNat).k).signed), U32 ((formOf (rvAt a.op.toNat).k).mask), St (rvAt a.op.toNat).name, U32 ((rvAt a.op.toNat).mtch)]) zt118 G sz118 G G (ones_row hIV.one _ _ _ _ _ _ _ _) G ?_)))
 intro b4 w4 n4
 have E3 := Mt E2 n4.ext
 refine An (.bool true) G (Ni (Sr (An (.func (.func 49) #[] #[]) G (Ni (Sq (Sr (Mv (.bool true) G ?_)))))))
 refine WL.un G G UnR.not (Mv (.bool false) G (Gt G (Mv (.func (.func 49) #[] #[]) G (Gt G (Fa G fo118_0 (Gt G (Fa G fo116_0 (Gt G (Lo G ag4 (n4.blk.cell (j := 0) G) ?_)))))))))
 refine Gt G (Fa G fo48_1 (Gt G ?_))
 have B4 := (n1.blk.ext eof).ext n4.ext
 refine Lo G ag5 (B4.cell (j := 1) G) (Gt G (WL.callV (fs := #[]) (cs := #[]) G ca49 G G (may_spec (formOf (rvAt a.op.toNat).k).rd a.rd _) ?_))
 rintro _ wm22 ⟨rfl, em22⟩
 rw [m1]
 have E5 := Mt E3 em22
 refine Gt G (WL.un G G UnR.not (Pk (b := false) G G (Mv (.bool false) G (Gt G (Mv (.func (.func 49) #[] #[]) G (Gt G (Fa G fo118_0 (Gt G (Fa G fo116_1 ?_)))))))))
 refine Gt G ?_
 have B6 := n4.blk.ext em22
 refine Lo G ag4 (B6.cell (j := 1) G) (Gt G (Fa G fo48_2 (Gt G ?_)))
 have B7 := B4.ext em22
 refine Lo G ag5 (B7.cell (j := 2) G) (Gt G (WL.callV (fs := #[]) (cs := #[]) G ca49 G G (may_spec (formOf (rvAt a.op.toNat).k).rs1 a.rs1 _) ?_))
 rintro _ wm32 ⟨rfl, em32⟩
 rw [m2]
 have E8 := Mt E5 em32
 refine Gt G (WL.un G G UnR.not (Pk (b := false) G G (Mv (.bool false) G (Gt G (Mv (.func (.func 49) #[] #[]) G (Gt G (Fa G fo118_0 (Gt G (Fa G fo116_2 ?_)))))))))
 refine Gt G ?_
 have B9 := B6.ext em32
 refine Lo G ag4 (B9.cell (j := 2) G) (Gt G (Fa G fo48_3 (Gt G ?_)))
 have B10 := B7.ext em32
 refine Lo G ag5 (B10.cell (j := 3) G) (Gt G (WL.callV (fs := #[]) (cs := #[]) G ca49 G G (may_spec (formOf (rvAt a.op.toNat).k).rs2 a.rs2 _) ?_))
 rintro _ wm42 ⟨rfl, em42⟩
 rw [m3]
 have E11 := Mt E8 em42
 refine Gt G (WL.un G G UnR.not (Pk (b := false) G G (Mv (.bool true) G (Gf true G (Gf true G (Gf true G (Gf true G (Gf true G (Gf true G ?_)))))))))
 refine WL.guardU G G (WL.guardU G G (WL.guardU G G (Gf true G (Pk (b := true) G G (Ni (Ct G (Sr (An (U32 (0#32)) G ?_))))))))
 refine An (IN 100) G (Ni (WC.ret ?_))
 exact ⟨_, Res.two (v := U32 (0#32)) (v' := IN 100) G G G, G, E11⟩
theorem enc_bad4 (a : RvInst) (w : World) (hG : Glob w) (ho1 : 1 ≤ a.op.toNat) (ho2 : a.op.toNat < 66) (m1 : mayF (formOf (rvAt a.op.toNat).k).rd a.rd = true) (m2 : mayF (formOf (rvAt a.op.toNat).k).rs1 a.rs1 = true) (m3 : mayF (formOf (rvAt a.op.toNat).k).rs2 a.rs2 = true) (hi : ((((formOf (rvAt a.op.toNat).k).imm.length : Nat) : Int) == (0 : Int)) = true) (hn : (a.imm != 0#64) = true) : CallsR Tryz.prog 28 #[.agg #[U8 a.op, U8 a.rd, U8 a.rs1, U8 a.rs2, I64 a.imm]] w (fun v w' => v = .tuple #[U32 0#32, .int .i64 100] ∧ Ext w w') := by
 refine callsR_of Tryz.func28 G G G ?_
 refine Sr (WL.box (v := .agg #[U8 a.op, U8 a.rd, U8 a.rs1, U8 a.rs2, I64 a.imm]) G G ?_)
 intro b1 w1 n1
 have E1 : Ext w w1 := n1.ext
 refine An (U32 (0#32)) G (An (IN 0) G (Ni (Sr (Fa G fo48_0 (Lo G ag5 (n1.blk.cell (j := 0) G) (WL.call ca48 G G (of_ok a.op _ (hG.ext E1) ho1 ho2) ?_))))))
 rintro _ wof ⟨iv, rfl, hIV, eof⟩
 have E2 := Mt E1 eof
 refine Mv (.tuple #[rowVal iv (rvAt a.op.toNat), .bool true]) G (Et G G (Et G G (WL.allocStore (v := .agg #[.bool ((formOf (rvAt a.op.toNat).k).rd), .bool ((formOf (rvAt a.op.toNat).k).rs1), .bool ((formOf (rvAt a.op.toNat).k).rs2), iv, IN ((formOf (rvAt a.op.toNat).k).noughts), .bool ((formOf (rvAt a.op.toNat).k).signed), U32 ((formOf (rvAt a.op.toNat).k).mask), St (rvAt a.op.toNat).name, U32 ((rvAt a.op.toNat).mtch)]) zt118 G sz118 G G (ones_row hIV.one _ _ _ _ _ _ _ _) G ?_)))
 intro b4 w4 n4
 have E3 := Mt E2 n4.ext
 refine An (.bool true) G (Ni (Sr (An (.func (.func 49) #[] #[]) G (Ni (Sq (Sr (Mv (.bool true) G ?_)))))))
 refine WL.un G G UnR.not (Mv (.bool false) G (Gt G (Mv (.func (.func 49) #[] #[]) G (Gt G (Fa G fo118_0 (Gt G (Fa G fo116_0 (Gt G (Lo G ag4 (n4.blk.cell (j := 0) G) ?_)))))))))
 refine Gt G (Fa G fo48_1 (Gt G ?_))
 have B4 := (n1.blk.ext eof).ext n4.ext
 refine Lo G ag5 (B4.cell (j := 1) G) (Gt G (WL.callV (fs := #[]) (cs := #[]) G ca49 G G (may_spec (formOf (rvAt a.op.toNat).k).rd a.rd _) ?_))
 rintro _ wm22 ⟨rfl, em22⟩
 rw [m1]
 have E5 := Mt E3 em22
 refine Gt G (WL.un G G UnR.not (Pk (b := false) G G (Mv (.bool false) G (Gt G (Mv (.func (.func 49) #[] #[]) G (Gt G (Fa G fo118_0 (Gt G (Fa G fo116_1 ?_)))))))))
 refine Gt G ?_
 have B6 := n4.blk.ext em22
 refine Lo G ag4 (B6.cell (j := 1) G) (Gt G (Fa G fo48_2 (Gt G ?_)))
 have B7 := B4.ext em22
 refine Lo G ag5 (B7.cell (j := 2) G) (Gt G (WL.callV (fs := #[]) (cs := #[]) G ca49 G G (may_spec (formOf (rvAt a.op.toNat).k).rs1 a.rs1 _) ?_))
 rintro _ wm32 ⟨rfl, em32⟩
 rw [m2]
 have E8 := Mt E5 em32
 refine Gt G (WL.un G G UnR.not (Pk (b := false) G G (Mv (.bool false) G (Gt G (Mv (.func (.func 49) #[] #[]) G (Gt G (Fa G fo118_0 (Gt G (Fa G fo116_2 ?_)))))))))
 refine Gt G ?_
 have B9 := B6.ext em32
 refine Lo G ag4 (B9.cell (j := 2) G) (Gt G (Fa G fo48_3 (Gt G ?_)))
 have B10 := B7.ext em32
 refine Lo G ag5 (B10.cell (j := 3) G) (Gt G (WL.callV (fs := #[]) (cs := #[]) G ca49 G G (may_spec (formOf (rvAt a.op.toNat).k).rs2 a.rs2 _) ?_))
 rintro _ wm42 ⟨rfl, em42⟩
 rw [m3]
 have E11 := Mt E8 em42
 refine Gt G (WL.un G G UnR.not (Pk (b := false) G G (Mv (.bool false) G (Gt G (Fa G fo118_0 (Gt G (Fa G fo116_3 (Gt G ?_))))))))
 have B12 := B9.ext em42
 refine Lo G ag114 (B12.cell (j := 3) G) (Gt G ?_)
 have S13 := (((hIV.ext' n4.ext).ext' em22).ext' em32).ext' em42
 refine WL.lenSl (sz := 2) (m := (formOf (rvAt a.op.toNat).k).imm.length) (xs := bitsCells (formOf (rvAt a.op.toNat).k).imm) el114 G S13 G (Gt G (Bn (v := .bool true) G G (BinR.toB BinR.eql hi) (Gt G (Mv (.bool true) G (Gt G (Fa G fo48_4 (Gt G ?_)))))))
 have B14 := B10.ext em42
 refine Lo G ag2 (B14.cell (j := 4) G) (Gt G (Bn (v := .bool true) (vy := I64 (0#64)) G G (BinR.toB BinR.neq64 hn) (Gt G (Pk (b := true) G G (Pk (b := false) G G (Ni (Ct G (Sr ?_))))))))
 refine An (U32 (0#32)) G (An (IN 100) G (Ni (WC.ret ?_)))
 exact ⟨_, Res.two (v := U32 (0#32)) (v' := IN 100) G G G, G, E11⟩
theorem enc_rangeTrue (a : RvInst) (w : World) (hG : Glob w) (ho1 : 1 ≤ a.op.toNat) (ho2 : a.op.toNat < 66) (m1 : mayF (formOf (rvAt a.op.toNat).k).rd a.rd = true) (m2 : mayF (formOf (rvAt a.op.toNat).k).rs1 a.rs1 = true) (m3 : mayF (formOf (rvAt a.op.toNat).k).rs2 a.rs2 = true) (hi : ((((formOf (rvAt a.op.toNat).k).imm.length : Nat) : Int) == (0 : Int)) = true)  (hn : (a.imm != 0#64) = false) (hf : fitsF (formOf (rvAt a.op.toNat).k) a.imm = false) : CallsR Tryz.prog 28 #[.agg #[U8 a.op, U8 a.rd, U8 a.rs1, U8 a.rs2, I64 a.imm]] w (fun v w' => v = .tuple #[U32 0#32, .int .i64 101] ∧ Ext w w') := by
 refine callsR_of Tryz.func28 G G G ?_
 refine Sr (WL.box (v := .agg #[U8 a.op, U8 a.rd, U8 a.rs1, U8 a.rs2, I64 a.imm]) G G ?_)
 intro b1 w1 n1
 have E1 : Ext w w1 := n1.ext
 refine An (U32 (0#32)) G (An (IN 0) G (Ni (Sr (Fa G fo48_0 (Lo G ag5 (n1.blk.cell (j := 0) G) (WL.call ca48 G G (of_ok a.op _ (hG.ext E1) ho1 ho2) ?_))))))
 rintro _ wof ⟨iv, rfl, hIV, eof⟩
 have E2 := Mt E1 eof
 refine Mv (.tuple #[rowVal iv (rvAt a.op.toNat), .bool true]) G (Et G G (Et G G (WL.allocStore (v := .agg #[.bool ((formOf (rvAt a.op.toNat).k).rd), .bool ((formOf (rvAt a.op.toNat).k).rs1), .bool ((formOf (rvAt a.op.toNat).k).rs2), iv, IN ((formOf (rvAt a.op.toNat).k).noughts), .bool ((formOf (rvAt a.op.toNat).k).signed), U32 ((formOf (rvAt a.op.toNat).k).mask), St (rvAt a.op.toNat).name, U32 ((rvAt a.op.toNat).mtch)]) zt118 G sz118 G G (ones_row hIV.one _ _ _ _ _ _ _ _) G ?_)))
 intro b4 w4 n4
 have E3 := Mt E2 n4.ext
 refine An (.bool true) G (Ni (Sr (An (.func (.func 49) #[] #[]) G (Ni (Sq (Sr (Mv (.bool true) G ?_)))))))
 refine WL.un G G UnR.not (Mv (.bool false) G (Gt G (Mv (.func (.func 49) #[] #[]) G (Gt G (Fa G fo118_0 (Gt G (Fa G fo116_0 (Gt G (Lo G ag4 (n4.blk.cell (j := 0) G) ?_)))))))))
 refine Gt G (Fa G fo48_1 (Gt G ?_))
 have B4 := (n1.blk.ext eof).ext n4.ext
 refine Lo G ag5 (B4.cell (j := 1) G) (Gt G (WL.callV (fs := #[]) (cs := #[]) G ca49 G G (may_spec (formOf (rvAt a.op.toNat).k).rd a.rd _) ?_))
 rintro _ wm22 ⟨rfl, em22⟩
 rw [m1]
 have E5 := Mt E3 em22
 refine Gt G (WL.un G G UnR.not (Pk (b := false) G G (Mv (.bool false) G (Gt G (Mv (.func (.func 49) #[] #[]) G (Gt G (Fa G fo118_0 (Gt G (Fa G fo116_1 ?_)))))))))
 refine Gt G ?_
 have B6 := n4.blk.ext em22
 refine Lo G ag4 (B6.cell (j := 1) G) (Gt G (Fa G fo48_2 (Gt G ?_)))
 have B7 := B4.ext em22
 refine Lo G ag5 (B7.cell (j := 2) G) (Gt G (WL.callV (fs := #[]) (cs := #[]) G ca49 G G (may_spec (formOf (rvAt a.op.toNat).k).rs1 a.rs1 _) ?_))
 rintro _ wm32 ⟨rfl, em32⟩
 rw [m2]
 have E8 := Mt E5 em32
 refine Gt G (WL.un G G UnR.not (Pk (b := false) G G (Mv (.bool false) G (Gt G (Mv (.func (.func 49) #[] #[]) G (Gt G (Fa G fo118_0 (Gt G (Fa G fo116_2 ?_)))))))))
 refine Gt G ?_
 have B9 := B6.ext em32
 refine Lo G ag4 (B9.cell (j := 2) G) (Gt G (Fa G fo48_3 (Gt G ?_)))
 have B10 := B7.ext em32
 refine Lo G ag5 (B10.cell (j := 3) G) (Gt G (WL.callV (fs := #[]) (cs := #[]) G ca49 G G (may_spec (formOf (rvAt a.op.toNat).k).rs2 a.rs2 _) ?_))
 rintro _ wm42 ⟨rfl, em42⟩
 rw [m3]
 have E11 := Mt E8 em42
 refine Gt G (WL.un G G UnR.not (Pk (b := false) G G (Mv (.bool false) G (Gt G (Fa G fo118_0 (Gt G (Fa G fo116_3 (Gt G ?_))))))))
 have B12 := B9.ext em42
 refine Lo G ag114 (B12.cell (j := 3) G) (Gt G ?_)
 have S13 := (((hIV.ext' n4.ext).ext' em22).ext' em32).ext' em42
 refine WL.lenSl (sz := 2) (m := (formOf (rvAt a.op.toNat).k).imm.length) (xs := bitsCells (formOf (rvAt a.op.toNat).k).imm) el114 G S13 G (Gt G (Bn (v := .bool true) G G (BinR.toB BinR.eql hi) (Gt G (Mv (.bool true) G (Gt G (Fa G fo48_4 (Gt G ?_)))))))
 have B14 := B10.ext em42
 refine Lo G ag2 (B14.cell (j := 4) G) (Gt G (Bn (v := .bool false) (vy := I64 (0#64)) G G (BinR.toB BinR.neq64 hn) (Gt G (Pk (b := true) G G (Pk (b := false) G G (Ni (Cf G (WC.skip (Sq ?_)))))))))
 refine Sr (Fa G fo118_0 (Ls [.bool ((formOf (rvAt a.op.toNat).k).rd), .bool ((formOf (rvAt a.op.toNat).k).rs1), .bool ((formOf (rvAt a.op.toNat).k).rs2), iv, IN ((formOf (rvAt a.op.toNat).k).noughts), .bool ((formOf (rvAt a.op.toNat).k).signed), U32 ((formOf (rvAt a.op.toNat).k).mask)] G ag116 sz116 B12 (Fa G fo48_4 (Lo G ag2 (B14.cell (j := 4) G) (WL.call ca50 G G (fits_spec (formOf (rvAt a.op.toNat).k) iv a.imm _ S13 (formOf_fine _)) ?_)))))
 rintro _ wft ⟨rfl, eft⟩
 rw [hf]
 have E15 := Mt E11 eft
 refine WL.un G G UnR.not (Ni (Ct G (Sr (An (U32 (0#32)) G (An (IN 101) G (Ni (WC.ret ?_)))))))
 exact ⟨_, Res.two (v := U32 (0#32)) (v' := IN 101) G G G, G, E15⟩
theorem enc_okTrue (a : RvInst) (w : World) (hG : Glob w) (ho1 : 1 ≤ a.op.toNat) (ho2 : a.op.toNat < 66) (m1 : mayF (formOf (rvAt a.op.toNat).k).rd a.rd = true) (m2 : mayF (formOf (rvAt a.op.toNat).k).rs1 a.rs1 = true) (m3 : mayF (formOf (rvAt a.op.toNat).k).rs2 a.rs2 = true) (hi : ((((formOf (rvAt a.op.toNat).k).imm.length : Nat) : Int) == (0 : Int)) = true)  (hn : (a.imm != 0#64) = false) (hf : fitsF (formOf (rvAt a.op.toNat).k) a.imm = true) : CallsR Tryz.prog 28 #[.agg #[U8 a.op, U8 a.rd, U8 a.rs1, U8 a.rs2, I64 a.imm]] w (fun v w' => v = .tuple #[U32 (encW a), .int .i64 0] ∧ Ext w w') := by
 refine callsR_of Tryz.func28 G G G ?_
 refine Sr (WL.box (v := .agg #[U8 a.op, U8 a.rd, U8 a.rs1, U8 a.rs2, I64 a.imm]) G G ?_)
 intro b1 w1 n1
 have E1 : Ext w w1 := n1.ext
 refine An (U32 (0#32)) G (An (IN 0) G (Ni (Sr (Fa G fo48_0 (Lo G ag5 (n1.blk.cell (j := 0) G) (WL.call ca48 G G (of_ok a.op _ (hG.ext E1) ho1 ho2) ?_))))))
 rintro _ wof ⟨iv, rfl, hIV, eof⟩
 have E2 := Mt E1 eof
 refine Mv (.tuple #[rowVal iv (rvAt a.op.toNat), .bool true]) G (Et G G (Et G G (WL.allocStore (v := .agg #[.bool ((formOf (rvAt a.op.toNat).k).rd), .bool ((formOf (rvAt a.op.toNat).k).rs1), .bool ((formOf (rvAt a.op.toNat).k).rs2), iv, IN ((formOf (rvAt a.op.toNat).k).noughts), .bool ((formOf (rvAt a.op.toNat).k).signed), U32 ((formOf (rvAt a.op.toNat).k).mask), St (rvAt a.op.toNat).name, U32 ((rvAt a.op.toNat).mtch)]) zt118 G sz118 G G (ones_row hIV.one _ _ _ _ _ _ _ _) G ?_)))
 intro b4 w4 n4
 have E3 := Mt E2 n4.ext
 refine An (.bool true) G (Ni (Sr (An (.func (.func 49) #[] #[]) G (Ni (Sq (Sr (Mv (.bool true) G ?_)))))))
 refine WL.un G G UnR.not (Mv (.bool false) G (Gt G (Mv (.func (.func 49) #[] #[]) G (Gt G (Fa G fo118_0 (Gt G (Fa G fo116_0 (Gt G (Lo G ag4 (n4.blk.cell (j := 0) G) ?_)))))))))
 refine Gt G (Fa G fo48_1 (Gt G ?_))
 have B4 := (n1.blk.ext eof).ext n4.ext
 refine Lo G ag5 (B4.cell (j := 1) G) (Gt G (WL.callV (fs := #[]) (cs := #[]) G ca49 G G (may_spec (formOf (rvAt a.op.toNat).k).rd a.rd _) ?_))
 rintro _ wm22 ⟨rfl, em22⟩
 rw [m1]
 have E5 := Mt E3 em22
 refine Gt G (WL.un G G UnR.not (Pk (b := false) G G (Mv (.bool false) G (Gt G (Mv (.func (.func 49) #[] #[]) G (Gt G (Fa G fo118_0 (Gt G (Fa G fo116_1 ?_)))))))))
 refine Gt G ?_
 have B6 := n4.blk.ext em22
 refine Lo G ag4 (B6.cell (j := 1) G) (Gt G (Fa G fo48_2 (Gt G ?_)))
 have B7 := B4.ext em22
 refine Lo G ag5 (B7.cell (j := 2) G) (Gt G (WL.callV (fs := #[]) (cs := #[]) G ca49 G G (may_spec (formOf (rvAt a.op.toNat).k).rs1 a.rs1 _) ?_))
 rintro _ wm32 ⟨rfl, em32⟩
 rw [m2]
 have E8 := Mt E5 em32
 refine Gt G (WL.un G G UnR.not (Pk (b := false) G G (Mv (.bool false) G (Gt G (Mv (.func (.func 49) #[] #[]) G (Gt G (Fa G fo118_0 (Gt G (Fa G fo116_2 ?_)))))))))
 refine Gt G ?_
 have B9 := B6.ext em32
 refine Lo G ag4 (B9.cell (j := 2) G) (Gt G (Fa G fo48_3 (Gt G ?_)))
 have B10 := B7.ext em32
 refine Lo G ag5 (B10.cell (j := 3) G) (Gt G (WL.callV (fs := #[]) (cs := #[]) G ca49 G G (may_spec (formOf (rvAt a.op.toNat).k).rs2 a.rs2 _) ?_))
 rintro _ wm42 ⟨rfl, em42⟩
 rw [m3]
 have E11 := Mt E8 em42
 refine Gt G (WL.un G G UnR.not (Pk (b := false) G G (Mv (.bool false) G (Gt G (Fa G fo118_0 (Gt G (Fa G fo116_3 (Gt G ?_))))))))
 have B12 := B9.ext em42
 refine Lo G ag114 (B12.cell (j := 3) G) (Gt G ?_)
 have S13 := (((hIV.ext' n4.ext).ext' em22).ext' em32).ext' em42
 refine WL.lenSl (sz := 2) (m := (formOf (rvAt a.op.toNat).k).imm.length) (xs := bitsCells (formOf (rvAt a.op.toNat).k).imm) el114 G S13 G (Gt G (Bn (v := .bool true) G G (BinR.toB BinR.eql hi) (Gt G (Mv (.bool true) G (Gt G (Fa G fo48_4 (Gt G ?_)))))))
 have B14 := B10.ext em42
 refine Lo G ag2 (B14.cell (j := 4) G) (Gt G (Bn (v := .bool false) (vy := I64 (0#64)) G G (BinR.toB BinR.neq64 hn) (Gt G (Pk (b := true) G G (Pk (b := false) G G (Ni (Cf G (WC.skip (Sq ?_)))))))))
 refine Sr (Fa G fo118_0 (Ls [.bool ((formOf (rvAt a.op.toNat).k).rd), .bool ((formOf (rvAt a.op.toNat).k).rs1), .bool ((formOf (rvAt a.op.toNat).k).rs2), iv, IN ((formOf (rvAt a.op.toNat).k).noughts), .bool ((formOf (rvAt a.op.toNat).k).signed), U32 ((formOf (rvAt a.op.toNat).k).mask)] G ag116 sz116 B12 (Fa G fo48_4 (Lo G ag2 (B14.cell (j := 4) G) (WL.call ca50 G G (fits_spec (formOf (rvAt a.op.toNat).k) iv a.imm _ S13 (formOf_fine _)) ?_)))))
 rintro _ wft ⟨rfl, eft⟩
 rw [hf]
 have E15 := Mt E11 eft
 refine WL.un G G UnR.not (Ni (Cf G (WC.skip (Sq (WC.draw (fun w_ => Ext wft w_) 29 G mixed ?_)))))
 intro wd_7 ed_7
 have R16 : Ext wft wd_7 := ed_7
 have E17 := Mt E15 ed_7
 refine WA.tk 0 (ptr b4 8) rfl rfl rfl (by kernel_rfl) (fun _ _ => WL.fieldAddr rfl fo118_2 rfl WL.ok) R16 (WA.tk 1 (U32 ((rvAt a.op.toNat).mtch)) rfl rfl rfl (by kernel_rfl) (fun _ hS => WL.load1 rfl ag50 (((B12.ext eft).ext hS).cell (j := 8) rfl) rfl WL.ok) R16 (WA.tk 2 (ptr b1 1) rfl rfl rfl (by kernel_rfl) (fun _ _ => WL.fieldAddr rfl fo48_1 rfl WL.ok) R16 (WA.tk 3 (U8 a.rd) rfl rfl rfl (by kernel_rfl) (fun _ hS => WL.load1 rfl ag5 (((B14.ext eft).ext hS).cell (j := 1) rfl) rfl WL.ok) R16 (WA.tk 4 (U32 (a.rd.setWidth 32)) rfl rfl rfl (by kernel_rfl) (fun _ _ => WL.conv rfl rfl (ConvR.u8u32 Tryz.underlying5 Tryz.underlying50) WL.ok) R16 (WA.tk 5 (ptr 0 0) rfl rfl rfl (by kernel_rfl) (fun _ _ => WL.fieldAddr rfl fo125_0 rfl WL.ok) R16 (WA.tk 6 (IN 7) rfl rfl rfl (by kernel_rfl) (fun wx hS => have E26 : Ext w wx := Mod.trans E15 hS; WL.load1 rfl ag3 ((hG.ext E26).rd 0 _ rfl) rfl WL.ok) R16 (WA.tk 7 (U32 (a.rd.setWidth 32 <<< 7)) rfl rfl rfl (by kernel_rfl) (fun _ _ => WL.bin rfl rfl rfl (BinR.shlU32 (s := 7)) WL.ok) R16 (WA.tk 8 (ptr b1 2) rfl rfl rfl (by kernel_rfl) (fun _ _ => WL.fieldAddr rfl fo48_2 rfl WL.ok) R16 (WA.tk 9 (U8 a.rs1) rfl rfl rfl (by kernel_rfl) (fun _ hS => WL.load1 rfl ag5 (((B14.ext eft).ext hS).cell (j := 2) rfl) rfl WL.ok) R16 ?_)))))))))
 refine WA.tk 10 (U32 (a.rs1.setWidth 32)) rfl rfl rfl (by kernel_rfl) (fun _ _ => WL.conv rfl rfl (ConvR.u8u32 Tryz.underlying5 Tryz.underlying50) WL.ok) R16 (WA.tk 11 (ptr 1 0) rfl rfl rfl (by kernel_rfl) (fun _ _ => WL.fieldAddr rfl fo125_0 rfl WL.ok) R16 (WA.tk 12 (IN 15) rfl rfl rfl (by kernel_rfl) (fun wx hS => have E33 : Ext w wx := Mod.trans E15 hS; WL.load1 rfl ag3 ((hG.ext E33).rs1 0 _ rfl) rfl WL.ok) R16 (WA.tk 13 (U32 (a.rs1.setWidth 32 <<< 15)) rfl rfl rfl (by kernel_rfl) (fun _ _ => WL.bin rfl rfl rfl (BinR.shlU32 (s := 15)) WL.ok) R16 (WA.tk 14 (ptr b1 3) rfl rfl rfl (by kernel_rfl) (fun _ _ => WL.fieldAddr rfl fo48_3 rfl WL.ok) R16 (WA.tk 15 (U8 a.rs2) rfl rfl rfl (by kernel_rfl) (fun _ hS => WL.load1 rfl ag5 (((B14.ext eft).ext hS).cell (j := 3) rfl) rfl WL.ok) R16 (WA.tk 16 (U32 (a.rs2.setWidth 32)) rfl rfl rfl (by kernel_rfl) (fun _ _ => WL.conv rfl rfl (ConvR.u8u32 Tryz.underlying5 Tryz.underlying50) WL.ok) R16 (WA.tk 17 (ptr 2 0) rfl rfl rfl (by kernel_rfl) (fun _ _ => WL.fieldAddr rfl fo125_0 rfl WL.ok) R16 (WA.tk 18 (IN 20) rfl rfl rfl (by kernel_rfl) (fun wx hS => have E40 : Ext w wx := Mod.trans E15 hS; WL.load1 rfl ag3 ((hG.ext E40).rs2 0 _ rfl) rfl WL.ok) R16 (WA.tk 19 (U32 (a.rs2.setWidth 32 <<< 20)) rfl rfl rfl (by kernel_rfl) (fun _ _ => WL.bin rfl rfl rfl (BinR.shlU32 (s := 20)) WL.ok) R16 ?_)))))))))
 refine Tk 20 (ptr b4 0) G G (fun _ _ => Fa G fo118_0 Ok) R16 (Tk 21 (.agg #[.bool ((formOf (rvAt a.op.toNat).k).rd), .bool ((formOf (rvAt a.op.toNat).k).rs1), .bool ((formOf (rvAt a.op.toNat).k).rs2), iv, IN ((formOf (rvAt a.op.toNat).k).noughts), .bool ((formOf (rvAt a.op.toNat).k).signed), U32 ((formOf (rvAt a.op.toNat).k).mask)]) G G (fun _ hS => Ls _ G ag116 sz116 (((B12.ext eft).ext hS)) Ok) R16 (Tk 22 (ptr b1 4) G G (fun _ _ => Fa G fo48_4 Ok) R16 (Tk 23 (I64 a.imm) G G (fun _ hS => Lo G ag2 (((B14.ext eft).ext hS).cell (j := 4) G) Ok) R16 (WA.one (i := 24) (m' := 33554431) (by kernel_rfl) G G ?_))))
 have S48 := (S13.ext' eft).ext' ed_7
 refine WL.call ca52 G G (spread_spec (formOf (rvAt a.op.toNat).k) iv a.imm _ S48 (formOf_fine _)) ?_
 rintro _ wsp ⟨rfl, esp⟩
 have R49 := Mt R16 esp
 have E50 := Mt E17 esp
 refine WL.behind R49 (WA.one (i := 25) (m' := 67108863) (by kernel_rfl) G G (WL.buildSlice (vs := [(0, U32 ((rvAt a.op.toNat).mtch)), (1, U32 (a.rd.setWidth 32 <<< 7)), (2, U32 (a.rs1.setWidth 32 <<< 15)), (3, U32 (a.rs2.setWidth 32 <<< 20)), (4, U32 (spreadF (formOf (rvAt a.op.toNat).k) a.imm))]) G (bls28_88o1 (rvAt a.op.toNat).mtch (a.rd.setWidth 32 <<< 7) (a.rs1.setWidth 32 <<< 15) (a.rs2.setWidth 32 <<< 20) (spreadF (formOf (rvAt a.op.toNat).k) a.imm)) G ?_))
 intro b88 w88 n88
 have R51 := Mt R49 n88.ext
 have E52 := Mt E50 n88.ext
 refine WL.behind R51 (WA.one (i := 26) (m' := 134217727) (by kernel_rfl) G G (WL.call ca51 G G (together_spec (.slice (some ⟨b88, 0, none⟩) 5 5) [(rvAt a.op.toNat).mtch, a.rd.setWidth 32 <<< 7, a.rs1.setWidth 32 <<< 15, a.rs2.setWidth 32 <<< 20, spreadF (formOf (rvAt a.op.toNat).k) a.imm] _ (Go.Proofs.M.Sl.ofCells (n := 5) n88.blk.cells G) (Nat.le_of_ble_eq_true G)) ?_))
 rintro _ wtg ⟨rfl, etg⟩
 have R53 := Mt R51 etg
 have E54 := Mt E52 etg
 refine WL.behind R53 (Tk 27 (U32 (tog [(rvAt a.op.toNat).mtch, a.rd.setWidth 32 <<< 7, a.rs1.setWidth 32 <<< 15, a.rs2.setWidth 32 <<< 20, spreadF (formOf (rvAt a.op.toNat).k) a.imm])) G G (fun _ _ => An _ G Ok) R53 (Tk 28 (IN 0) G G (fun _ _ => An _ G Ok) R53 (WA.done (by kernel_rfl) (WC.ret ?_))))
 exact ⟨_, Res.two (v := U32 (tog [(rvAt a.op.toNat).mtch, a.rd.setWidth 32 <<< 7, a.rs1.setWidth 32 <<< 15, a.rs2.setWidth 32 <<< 20, spreadF (formOf (rvAt a.op.toNat).k) a.imm])) (v' := IN 0) G G G, G, E54⟩
theorem enc_rangeFalse (a : RvInst) (w : World) (hG : Glob w) (ho1 : 1 ≤ a.op.toNat) (ho2 : a.op.toNat < 66) (m1 : mayF (formOf (rvAt a.op.toNat).k).rd a.rd = true) (m2 : mayF (formOf (rvAt a.op.toNat).k).rs1 a.rs1 = true) (m3 : mayF (formOf (rvAt a.op.toNat).k).rs2 a.rs2 = true) (hi : ((((formOf (rvAt a.op.toNat).k).imm.length : Nat) : Int) == (0 : Int)) = false) (hf : fitsF (formOf (rvAt a.op.toNat).k) a.imm = false) : CallsR Tryz.prog 28 #[.agg #[U8 a.op, U8 a.rd, U8 a.rs1, U8 a.rs2, I64 a.imm]] w (fun v w' => v = .tuple #[U32 0#32, .int .i64 101] ∧ Ext w w') := by
 refine callsR_of Tryz.func28 G G G ?_
 refine Sr (WL.box (v := .agg #[U8 a.op, U8 a.rd, U8 a.rs1, U8 a.rs2, I64 a.imm]) G G ?_)
 intro b1 w1 n1
 have E1 : Ext w w1 := n1.ext
 refine An (U32 (0#32)) G (An (IN 0) G (Ni (Sr (Fa G fo48_0 (Lo G ag5 (n1.blk.cell (j := 0) G) (WL.call ca48 G G (of_ok a.op _ (hG.ext E1) ho1 ho2) ?_))))))
 rintro _ wof ⟨iv, rfl, hIV, eof⟩
 have E2 := Mt E1 eof
 refine Mv (.tuple #[rowVal iv (rvAt a.op.toNat), .bool true]) G (Et G G (Et G G (WL.allocStore (v := .agg #[.bool ((formOf (rvAt a.op.toNat).k).rd), .bool ((formOf (rvAt a.op.toNat).k).rs1), .bool ((formOf (rvAt a.op.toNat).k).rs2), iv, IN ((formOf (rvAt a.op.toNat).k).noughts), .bool ((formOf (rvAt a.op.toNat).k).signed), U32 ((formOf (rvAt a.op.toNat).k).mask), St (rvAt a.op.toNat).name, U32 ((rvAt a.op.toNat).mtch)]) zt118 G sz118 G G (ones_row hIV.one _ _ _ _ _ _ _ _) G ?_)))
 intro b4 w4 n4
 have E3 := Mt E2 n4.ext
 refine An (.bool true) G (Ni (Sr (An (.func (.func 49) #[] #[]) G (Ni (Sq (Sr (Mv (.bool true) G ?_)))))))
 refine WL.un G G UnR.not (Mv (.bool false) G (Gt G (Mv (.func (.func 49) #[] #[]) G (Gt G (Fa G fo118_0 (Gt G (Fa G fo116_0 (Gt G (Lo G ag4 (n4.blk.cell (j := 0) G) ?_)))))))))
 refine Gt G (Fa G fo48_1 (Gt G ?_))
 have B4 := (n1.blk.ext eof).ext n4.ext
 refine Lo G ag5 (B4.cell (j := 1) G) (Gt G (WL.callV (fs := #[]) (cs := #[]) G ca49 G G (may_spec (formOf (rvAt a.op.toNat).k).rd a.rd _) ?_))
 rintro _ wm22 ⟨rfl, em22⟩
 rw [m1]
 have E5 := Mt E3 em22
 refine Gt G (WL.un G G UnR.not (Pk (b := false) G G (Mv (.bool false) G (Gt G (Mv (.func (.func 49) #[] #[]) G (Gt G (Fa G fo118_0 (Gt G (Fa G fo116_1 ?_)))))))))
 refine Gt G ?_
 have B6 := n4.blk.ext em22
 refine Lo G ag4 (B6.cell (j := 1) G) (Gt G (Fa G fo48_2 (Gt G ?_)))
 have B7 := B4.ext em22
 refine Lo G ag5 (B7.cell (j := 2) G) (Gt G (WL.callV (fs := #[]) (cs := #[]) G ca49 G G (may_spec (formOf (rvAt a.op.toNat).k).rs1 a.rs1 _) ?_))
 rintro _ wm32 ⟨rfl, em32⟩
 rw [m2]
 have E8 := Mt E5 em32
 refine Gt G (WL.un G G UnR.not (Pk (b := false) G G (Mv (.bool false) G (Gt G (Mv (.func (.func 49) #[] #[]) G (Gt G (Fa G fo118_0 (Gt G (Fa G fo116_2 ?_)))))))))
 refine Gt G ?_
 have B9 := B6.ext em32
 refine Lo G ag4 (B9.cell (j := 2) G) (Gt G (Fa G fo48_3 (Gt G ?_)))
 have B10 := B7.ext em32
 refine Lo G ag5 (B10.cell (j := 3) G) (Gt G (WL.callV (fs := #[]) (cs := #[]) G ca49 G G (may_spec (formOf (rvAt a.op.toNat).k).rs2 a.rs2 _) ?_))
 rintro _ wm42 ⟨rfl, em42⟩
 rw [m3]
 have E11 := Mt E8 em42
 refine Gt G (WL.un G G UnR.not (Pk (b := false) G G (Mv (.bool false) G (Gt G (Fa G fo118_0 (Gt G (Fa G fo116_3 (Gt G ?_))))))))
 have B12 := B9.ext em42
 refine Lo G ag114 (B12.cell (j := 3) G) (Gt G ?_)
 have S13 := (((hIV.ext' n4.ext).ext' em22).ext' em32).ext' em42
 refine WL.lenSl (sz := 2) (m := (formOf (rvAt a.op.toNat).k).imm.length) (xs := bitsCells (formOf (rvAt a.op.toNat).k).imm) el114 G S13 G (Gt G (Bn (v := .bool false) G G (BinR.toB BinR.eql hi) (Gt G (Mv (.bool false) G (Gf false G (Gf false G (Gf false G (Gt G (Pk (b := false) G G ?_)))))))))
 refine Pk (b := false) G G (Ni (Cf G (WC.skip (Sq (Sr (Fa G fo118_0 (Ls [.bool ((formOf (rvAt a.op.toNat).k).rd), .bool ((formOf (rvAt a.op.toNat).k).rs1), .bool ((formOf (rvAt a.op.toNat).k).rs2), iv, IN ((formOf (rvAt a.op.toNat).k).noughts), .bool ((formOf (rvAt a.op.toNat).k).signed), U32 ((formOf (rvAt a.op.toNat).k).mask)] G ag116 sz116 B12 (Fa G fo48_4 ?_))))))))
 have B14 := B10.ext em42
 refine Lo G ag2 (B14.cell (j := 4) G) (WL.call ca50 G G (fits_spec (formOf (rvAt a.op.toNat).k) iv a.imm _ S13 (formOf_fine _)) ?_)
 rintro _ wft ⟨rfl, eft⟩
 rw [hf]
 have E15 := Mt E11 eft
 refine WL.un G G UnR.not (Ni (Ct G (Sr (An (U32 (0#32)) G (An (IN 101) G (Ni (WC.ret ?_)))))))
 exact ⟨_, Res.two (v := U32 (0#32)) (v' := IN 101) G G G, G, E15⟩
theorem enc_okFalse (a : RvInst) (w : World) (hG : Glob w) (ho1 : 1 ≤ a.op.toNat) (ho2 : a.op.toNat < 66) (m1 : mayF (formOf (rvAt a.op.toNat).k).rd a.rd = true) (m2 : mayF (formOf (rvAt a.op.toNat).k).rs1 a.rs1 = true) (m3 : mayF (formOf (rvAt a.op.toNat).k).rs2 a.rs2 = true) (hi : ((((formOf (rvAt a.op.toNat).k).imm.length : Nat) : Int) == (0 : Int)) = false) (hf : fitsF (formOf (rvAt a.op.toNat).k) a.imm = true) : CallsR Tryz.prog 28 #[.agg #[U8 a.op, U8 a.rd, U8 a.rs1, U8 a.rs2, I64 a.imm]] w (fun v w' => v = .tuple #[U32 (encW a), .int .i64 0] ∧ Ext w w') := by
 refine callsR_of Tryz.func28 G G G ?_
 refine Sr (WL.box (v := .agg #[U8 a.op, U8 a.rd, U8 a.rs1, U8 a.rs2, I64 a.imm]) G G ?_)
 intro b1 w1 n1
 have E1 : Ext w w1 := n1.ext
 refine An (U32 (0#32)) G (An (IN 0) G (Ni (Sr (Fa G fo48_0 (Lo G ag5 (n1.blk.cell (j := 0) G) (WL.call ca48 G G (of_ok a.op _ (hG.ext E1) ho1 ho2) ?_))))))
 rintro _ wof ⟨iv, rfl, hIV, eof⟩
 have E2 := Mt E1 eof
 refine Mv (.tuple #[rowVal iv (rvAt a.op.toNat), .bool true]) G (Et G G (Et G G (WL.allocStore (v := .agg #[.bool ((formOf (rvAt a.op.toNat).k).rd), .bool ((formOf (rvAt a.op.toNat).k).rs1), .bool ((formOf (rvAt a.op.toNat).k).rs2), iv, IN ((formOf (rvAt a.op.toNat).k).noughts), .bool ((formOf (rvAt a.op.toNat).k).signed), U32 ((formOf (rvAt a.op.toNat).k).mask), St (rvAt a.op.toNat).name, U32 ((rvAt a.op.toNat).mtch)]) zt118 G sz118 G G (ones_row hIV.one _ _ _ _ _ _ _ _) G ?_)))
 intro b4 w4 n4
 have E3 := Mt E2 n4.ext
 refine An (.bool true) G (Ni (Sr (An (.func (.func 49) #[] #[]) G (Ni (Sq (Sr (Mv (.bool true) G ?_)))))))
 refine WL.un G G UnR.not (Mv (.bool false) G (Gt G (Mv (.func (.func 49) #[] #[]) G (Gt G (Fa G fo118_0 (Gt G (Fa G fo116_0 (Gt G (Lo G ag4 (n4.blk.cell (j := 0) G) ?_)))))))))
 refine Gt G (Fa G fo48_1 (Gt G ?_))
 have B4 := (n1.blk.ext eof).ext n4.ext
 refine Lo G ag5 (B4.cell (j := 1) G) (Gt G (WL.callV (fs := #[]) (cs := #[]) G ca49 G G (may_spec (formOf (rvAt a.op.toNat).k).rd a.rd _) ?_))
 rintro _ wm22 ⟨rfl, em22⟩
 rw [m1]
 have E5 := Mt E3 em22
 refine Gt G (WL.un G G UnR.not (Pk (b := false) G G (Mv (.bool false) G (Gt G (Mv (.func (.func 49) #[] #[]) G (Gt G (Fa G fo118_0 (Gt G (Fa G fo116_1 ?_)))))))))
 refine Gt G ?_
 have B6 := n4.blk.ext em22
 refine Lo G ag4 (B6.cell (j := 1) G) (Gt G (Fa G fo48_2 (Gt G ?_)))
 have B7 := B4.ext em22
 refine Lo G ag5 (B7.cell (j := 2) G) (Gt G (WL.callV (fs := #[]) (cs := #[]) G ca49 G G (may_spec (formOf (rvAt a.op.toNat).k).rs1 a.rs1 _) ?_))
 rintro _ wm32 ⟨rfl, em32⟩
 rw [m2]
 have E8 := Mt E5 em32
 refine Gt G (WL.un G G UnR.not (Pk (b := false) G G (Mv (.bool false) G (Gt G (Mv (.func (.func 49) #[] #[]) G (Gt G (Fa G fo118_0 (Gt G (Fa G fo116_2 ?_)))))))))
 refine Gt G ?_
 have B9 := B6.ext em32
 refine Lo G ag4 (B9.cell (j := 2) G) (Gt G (Fa G fo48_3 (Gt G ?_)))
 have B10 := B7.ext em32
 refine Lo G ag5 (B10.cell (j := 3) G) (Gt G (WL.callV (fs := #[]) (cs := #[]) G ca49 G G (may_spec (formOf (rvAt a.op.toNat).k).rs2 a.rs2 _) ?_))
 rintro _ wm42 ⟨rfl, em42⟩
 rw [m3]
 have E11 := Mt E8 em42
 refine Gt G (WL.un G G UnR.not (Pk (b := false) G G (Mv (.bool false) G (Gt G (Fa G fo118_0 (Gt G (Fa G fo116_3 (Gt G ?_))))))))
 have B12 := B9.ext em42
 refine Lo G ag114 (B12.cell (j := 3) G) (Gt G ?_)
 have S13 := (((hIV.ext' n4.ext).ext' em22).ext' em32).ext' em42
 refine WL.lenSl (sz := 2) (m := (formOf (rvAt a.op.toNat).k).imm.length) (xs := bitsCells (formOf (rvAt a.op.toNat).k).imm) el114 G S13 G (Gt G (Bn (v := .bool false) G G (BinR.toB BinR.eql hi) (Gt G (Mv (.bool false) G (Gf false G (Gf false G (Gf false G (Gt G (Pk (b := false) G G ?_)))))))))
 refine Pk (b := false) G G (Ni (Cf G (WC.skip (Sq (Sr (Fa G fo118_0 (Ls [.bool ((formOf (rvAt a.op.toNat).k).rd), .bool ((formOf (rvAt a.op.toNat).k).rs1), .bool ((formOf (rvAt a.op.toNat).k).rs2), iv, IN ((formOf (rvAt a.op.toNat).k).noughts), .bool ((formOf (rvAt a.op.toNat).k).signed), U32 ((formOf (rvAt a.op.toNat).k).mask)] G ag116 sz116 B12 (Fa G fo48_4 ?_))))))))
 have B14 := B10.ext em42
 refine Lo G ag2 (B14.cell (j := 4) G) (WL.call ca50 G G (fits_spec (formOf (rvAt a.op.toNat).k) iv a.imm _ S13 (formOf_fine _)) ?_)
 rintro _ wft ⟨rfl, eft⟩
 rw [hf]
 have E15 := Mt E11 eft
 refine WL.un G G UnR.not (Ni (Cf G (WC.skip (Sq (WC.draw (fun w_ => Ext wft w_) 29 G mixed ?_)))))
 intro wd_7 ed_7
 have R16 : Ext wft wd_7 := ed_7
 have E17 := Mt E15 ed_7
 refine WA.tk 0 (ptr b4 8) rfl rfl rfl (by kernel_rfl) (fun _ _ => WL.fieldAddr rfl fo118_2 rfl WL.ok) R16 (WA.tk 1 (U32 ((rvAt a.op.toNat).mtch)) rfl rfl rfl (by kernel_rfl) (fun _ hS => WL.load1 rfl ag50 (((B12.ext eft).ext hS).cell (j := 8) rfl) rfl WL.ok) R16 (WA.tk 2 (ptr b1 1) rfl rfl rfl (by kernel_rfl) (fun _ _ => WL.fieldAddr rfl fo48_1 rfl WL.ok) R16 (WA.tk 3 (U8 a.rd) rfl rfl rfl (by kernel_rfl) (fun _ hS => WL.load1 rfl ag5 (((B14.ext eft).ext hS).cell (j := 1) rfl) rfl WL.ok) R16 (WA.tk 4 (U32 (a.rd.setWidth 32)) rfl rfl rfl (by kernel_rfl) (fun _ _ => WL.conv rfl rfl (ConvR.u8u32 Tryz.underlying5 Tryz.underlying50) WL.ok) R16 (WA.tk 5 (ptr 0 0) rfl rfl rfl (by kernel_rfl) (fun _ _ => WL.fieldAddr rfl fo125_0 rfl WL.ok) R16 (WA.tk 6 (IN 7) rfl rfl rfl (by kernel_rfl) (fun wx hS => have E26 : Ext w wx := Mod.trans E15 hS; WL.load1 rfl ag3 ((hG.ext E26).rd 0 _ rfl) rfl WL.ok) R16 (WA.tk 7 (U32 (a.rd.setWidth 32 <<< 7)) rfl rfl rfl (by kernel_rfl) (fun _ _ => WL.bin rfl rfl rfl (BinR.shlU32 (s := 7)) WL.ok) R16 (WA.tk 8 (ptr b1 2) rfl rfl rfl (by kernel_rfl) (fun _ _ => WL.fieldAddr rfl fo48_2 rfl WL.ok) R16 (WA.tk 9 (U8 a.rs1) rfl rfl rfl (by kernel_rfl) (fun _ hS => WL.load1 rfl ag5 (((B14.ext eft).ext hS).cell (j := 2) rfl) rfl WL.ok) R16 ?_)))))))))
 refine WA.tk 10 (U32 (a.rs1.setWidth 32)) rfl rfl rfl (by kernel_rfl) (fun _ _ => WL.conv rfl rfl (ConvR.u8u32 Tryz.underlying5 Tryz.underlying50) WL.ok) R16 (WA.tk 11 (ptr 1 0) rfl rfl rfl (by kernel_rfl) (fun _ _ => WL.fieldAddr rfl fo125_0 rfl WL.ok) R16 (WA.tk 12 (IN 15) rfl rfl rfl (by kernel_rfl) (fun wx hS => have E33 : Ext w wx := Mod.trans E15 hS; WL.load1 rfl ag3 ((hG.ext E33).rs1 0 _ rfl) rfl WL.ok) R16 (WA.tk 13 (U32 (a.rs1.setWidth 32 <<< 15)) rfl rfl rfl (by kernel_rfl) (fun _ _ => WL.bin rfl rfl rfl (BinR.shlU32 (s := 15)) WL.ok) R16 (WA.tk 14 (ptr b1 3) rfl rfl rfl (by kernel_rfl) (fun _ _ => WL.fieldAddr rfl fo48_3 rfl WL.ok) R16 (WA.tk 15 (U8 a.rs2) rfl rfl rfl (by kernel_rfl) (fun _ hS => WL.load1 rfl ag5 (((B14.ext eft).ext hS).cell (j := 3) rfl) rfl WL.ok) R16 (WA.tk 16 (U32 (a.rs2.setWidth 32)) rfl rfl rfl (by kernel_rfl) (fun _ _ => WL.conv rfl rfl (ConvR.u8u32 Tryz.underlying5 Tryz.underlying50) WL.ok) R16 (WA.tk 17 (ptr 2 0) rfl rfl rfl (by kernel_rfl) (fun _ _ => WL.fieldAddr rfl fo125_0 rfl WL.ok) R16 (WA.tk 18 (IN 20) rfl rfl rfl (by kernel_rfl) (fun wx hS => have E40 : Ext w wx := Mod.trans E15 hS; WL.load1 rfl ag3 ((hG.ext E40).rs2 0 _ rfl) rfl WL.ok) R16 (WA.tk 19 (U32 (a.rs2.setWidth 32 <<< 20)) rfl rfl rfl (by kernel_rfl) (fun _ _ => WL.bin rfl rfl rfl (BinR.shlU32 (s := 20)) WL.ok) R16 ?_)))))))))
 refine Tk 20 (ptr b4 0) G G (fun _ _ => Fa G fo118_0 Ok) R16 (Tk 21 (.agg #[.bool ((formOf (rvAt a.op.toNat).k).rd), .bool ((formOf (rvAt a.op.toNat).k).rs1), .bool ((formOf (rvAt a.op.toNat).k).rs2), iv, IN ((formOf (rvAt a.op.toNat).k).noughts), .bool ((formOf (rvAt a.op.toNat).k).signed), U32 ((formOf (rvAt a.op.toNat).k).mask)]) G G (fun _ hS => Ls _ G ag116 sz116 (((B12.ext eft).ext hS)) Ok) R16 (Tk 22 (ptr b1 4) G G (fun _ _ => Fa G fo48_4 Ok) R16 (Tk 23 (I64 a.imm) G G (fun _ hS => Lo G ag2 (((B14.ext eft).ext hS).cell (j := 4) G) Ok) R16 (WA.one (i := 24) (m' := 33554431) (by kernel_rfl) G G ?_))))
 have S48 := (S13.ext' eft).ext' ed_7
 refine WL.call ca52 G G (spread_spec (formOf (rvAt a.op.toNat).k) iv a.imm _ S48 (formOf_fine _)) ?_
 rintro _ wsp ⟨rfl, esp⟩
 have R49 := Mt R16 esp
 have E50 := Mt E17 esp
 refine WL.behind R49 (WA.one (i := 25) (m' := 67108863) (by kernel_rfl) G G (WL.buildSlice (vs := [(0, U32 ((rvAt a.op.toNat).mtch)), (1, U32 (a.rd.setWidth 32 <<< 7)), (2, U32 (a.rs1.setWidth 32 <<< 15)), (3, U32 (a.rs2.setWidth 32 <<< 20)), (4, U32 (spreadF (formOf (rvAt a.op.toNat).k) a.imm))]) G (bls28_88o0 (rvAt a.op.toNat).mtch (a.rd.setWidth 32 <<< 7) (a.rs1.setWidth 32 <<< 15) (a.rs2.setWidth 32 <<< 20) (spreadF (formOf (rvAt a.op.toNat).k) a.imm)) G ?_))
 intro b88 w88 n88
 have R51 := Mt R49 n88.ext
 have E52 := Mt E50 n88.ext
 refine WL.behind R51 (WA.one (i := 26) (m' := 134217727) (by kernel_rfl) G G (WL.call ca51 G G (together_spec (.slice (some ⟨b88, 0, none⟩) 5 5) [(rvAt a.op.toNat).mtch, a.rd.setWidth 32 <<< 7, a.rs1.setWidth 32 <<< 15, a.rs2.setWidth 32 <<< 20, spreadF (formOf (rvAt a.op.toNat).k) a.imm] _ (Go.Proofs.M.Sl.ofCells (n := 5) n88.blk.cells G) (Nat.le_of_ble_eq_true G)) ?_))
 rintro _ wtg ⟨rfl, etg⟩
 have R53 := Mt R51 etg
 have E54 := Mt E52 etg
 refine WL.behind R53 (Tk 27 (U32 (tog [(rvAt a.op.toNat).mtch, a.rd.setWidth 32 <<< 7, a.rs1.setWidth 32 <<< 15, a.rs2.setWidth 32 <<< 20, spreadF (formOf (rvAt a.op.toNat).k) a.imm])) G G (fun _ _ => An _ G Ok) R53 (Tk 28 (IN 0) G G (fun _ _ => An _ G Ok) R53 (WA.done (by kernel_rfl) (WC.ret ?_))))
 exact ⟨_, Res.two (v := U32 (tog [(rvAt a.op.toNat).mtch, a.rd.setWidth 32 <<< 7, a.rs1.setWidth 32 <<< 15, a.rs2.setWidth 32 <<< 20, spreadF (formOf (rvAt a.op.toNat).k) a.imm])) (v' := IN 0) G G G, G, E54⟩
theorem encode_spec (a : RvInst) (w : World) (hG : Glob w) : CallsR Tryz.prog 28 #[instV a] w (fun v w' => v = .tuple #[U32 (encodeR a).1, IN (encodeR a).2] ∧ Ext w w') := by
 unfold encodeR
 by_cases ho : a.op.toNat < 1 ∨ 66 ≤ a.op.toNat
 ·rw [if_pos ho]; exact enc_no a w hG ho
 rw [if_neg ho]
 have ho1 : 1 ≤ a.op.toNat := by omega
 have ho2 : a.op.toNat < 66 := by omega
 rcases hb : encBad a with _ | _
 ·simp only [encBad, Bool.or_eq_false_iff, Bool.not_eq_false', Bool.and_eq_false_iff] at hb
  obtain ⟨m1, m2, m3, h4⟩ := hb
  rcases hf : fitsF (formOf (rvAt a.op.toNat).k) a.imm with _ | _
  ·rcases Bool.eq_false_or_eq_true ((((formOf (rvAt a.op.toNat).k).imm.length : Nat) : Int) == (0 : Int)) with hi | hi
   ·exact enc_rangeTrue a w hG ho1 ho2 m1 m2 m3 hi (h4.resolve_left (by rw [hi]; decide)) hf
   ·exact enc_rangeFalse a w hG ho1 ho2 m1 m2 m3 hi hf
  ·rcases Bool.eq_false_or_eq_true ((((formOf (rvAt a.op.toNat).k).imm.length : Nat) : Int) == (0 : Int)) with hi | hi
   ·exact enc_okTrue a w hG ho1 ho2 m1 m2 m3 hi (h4.resolve_left (by rw [hi]; decide)) hf
   ·exact enc_okFalse a w hG ho1 ho2 m1 m2 m3 hi hf
 ·rcases h1 : mayF (formOf (rvAt a.op.toNat).k).rd a.rd with _ | _
  ·exact enc_bad1 a w hG ho1 ho2 h1
  rcases h2 : mayF (formOf (rvAt a.op.toNat).k).rs1 a.rs1 with _ | _
  ·exact enc_bad2 a w hG ho1 ho2 h1 h2
  rcases h3 : mayF (formOf (rvAt a.op.toNat).k).rs2 a.rs2 with _ | _
  ·exact enc_bad3 a w hG ho1 ho2 h1 h2 h3
  ·simp only [encBad, h1, h2, h3, Bool.not_true, Bool.false_or, Bool.and_eq_true] at hb
   exact enc_bad4 a w hG ho1 ho2 h1 h2 h3 hb.1 hb.2
end Go.Proofs.S
end
section
set_option linter.unusedSimpArgs false
set_option linter.unusedVariables false
namespace Go.Proofs.N
open Go Go.Ux Go.Ux.Mach Go.Proofs
theorem ca107 : callable Tryz.prog 107 = true := by kernel_rfl
theorem ca132 : callable Tryz.prog 132 = true := by kernel_rfl
theorem ca125 : callable Tryz.prog 125 = true := by kernel_rfl
theorem ca124 : callable Tryz.prog 124 = true := by kernel_rfl
theorem mixed : Tryz.prog.follows .mixedOrders = true := by kernel_rfl
theorem add_spec (x y : BitVec 64) (w : World) : CallsR Tryz.prog 104 #[U64 x, U64 y] w (fun v w' => v = U64 (x + y) ∧ Ext w w') := by
 refine callsR_of Tryz.func104 G G G ?_
 refine Sr (An (U64 (0#64)) G (Ni (Sr (Mv (U64 x) G (Mv (U64 y) G (Bn G G BinR.addU64 (An (U64 ((x + y))) G ?_)))))))
 refine Ni (WC.ret ?_)
 exact ⟨_, Res.one (v := U64 ((x + y))) G G, G, Mod.refl _ _⟩
theorem sub_spec (x y : BitVec 64) (w : World) : CallsR Tryz.prog 105 #[U64 x, U64 y] w (fun v w' => v = U64 (x - y) ∧ Ext w w') := by
 refine callsR_of Tryz.func105 G G G ?_
 refine Sr (An (U64 (0#64)) G (Ni (Sr (Mv (U64 x) G (Mv (U64 y) G (Bn G G BinR.subU64 (An (U64 ((x - y))) G ?_)))))))
 refine Ni (WC.ret ?_)
 exact ⟨_, Res.one (v := U64 ((x - y))) G G, G, Mod.refl _ _⟩
theorem xor_spec (x y : BitVec 64) (w : World) : CallsR Tryz.prog 109 #[U64 x, U64 y] w (fun v w' => v = U64 (x ^^^ y) ∧ Ext w w') := by
 refine callsR_of Tryz.func109 G G G ?_
 refine Sr (An (U64 (0#64)) G (Ni (Sr (Mv (U64 x) G (Mv (U64 y) G (Bn G G BinR.xorU64 (An (U64 ((x ^^^ y))) G ?_)))))))
 refine Ni (WC.ret ?_)
 exact ⟨_, Res.one (v := U64 ((x ^^^ y))) G G, G, Mod.refl _ _⟩
theorem or_spec (x y : BitVec 64) (w : World) : CallsR Tryz.prog 110 #[U64 x, U64 y] w (fun v w' => v = U64 (x ||| y) ∧ Ext w w') := by
 refine callsR_of Tryz.func110 G G G ?_
 refine Sr (An (U64 (0#64)) G (Ni (Sr (Mv (U64 x) G (Mv (U64 y) G (Bn G G BinR.orU64 (An (U64 ((x ||| y))) G ?_)))))))
 refine Ni (WC.ret ?_)
 exact ⟨_, Res.one (v := U64 ((x ||| y))) G G, G, Mod.refl _ _⟩
theorem and_spec (x y : BitVec 64) (w : World) : CallsR Tryz.prog 111 #[U64 x, U64 y] w (fun v w' => v = U64 (x &&& y) ∧ Ext w w') := by
 refine callsR_of Tryz.func111 G G G ?_
 refine Sr (An (U64 (0#64)) G (Ni (Sr (Mv (U64 x) G (Mv (U64 y) G (Bn G G BinR.andU64 (An (U64 ((x &&& y))) G ?_)))))))
 refine Ni (WC.ret ?_)
 exact ⟨_, Res.one (v := U64 ((x &&& y))) G G, G, Mod.refl _ _⟩
theorem mul_spec (x y : BitVec 64) (w : World) : CallsR Tryz.prog 112 #[U64 x, U64 y] w (fun v w' => v = U64 (x * y) ∧ Ext w w') := by
 refine callsR_of Tryz.func112 G G G ?_
 refine Sr (An (U64 (0#64)) G (Ni (Sr (Mv (U64 x) G (Mv (U64 y) G (Bn G G BinR.mulU64 (An (U64 ((x * y))) G ?_)))))))
 refine Ni (WC.ret ?_)
 exact ⟨_, Res.one (v := U64 ((x * y))) G G, G, Mod.refl _ _⟩
theorem bit_spec (b : Bool) (w : World) : CallsR Tryz.prog 107 #[.bool b] w (fun v w' => v = U64 (bitW b) ∧ Ext w w') := by
 refine callsR_of Tryz.func107 G G G ?_
 refine Sr (An (U64 (0#64)) G (Ni (Sq (Sr (Mv (.bool b) G (Ni ?_))))))
 refine WC.cond G (fun hc3 => ?_) (fun hc3 => ?_)
 ·refine Sr (An (U64 (1#64)) G (Ni (WC.ret ?_)))
  exact ⟨_, Res.one (v := U64 (1#64)) G G, (by rw [hc3]; rfl), Mod.refl _ _⟩
 ·refine WC.skip (Sr (An (U64 (0#64)) G (Ni (WC.ret ?_))))
  exact ⟨_, Res.one (v := U64 (0#64)) G G, (by rw [hc3]; rfl), Mod.refl _ _⟩
theorem slt_spec (x y : BitVec 64) (w : World) : CallsR Tryz.prog 106 #[U64 x, U64 y] w (fun v w' => v = U64 (bitW (BitVec.slt x y)) ∧ Ext w w') := by
 refine callsR_of Tryz.func106 G G G ?_
 refine Sr (An (U64 (0#64)) G (Ni (Sr (Mv (U64 x) G (Cv G (ConvR.u64i64 Tryz.underlying39 Tryz.underlying2) (Mv (U64 y) G (Cv G (ConvR.u64i64 Tryz.underlying39 Tryz.underlying2) ?_)))))))
 refine Bn G G BinR.lss64 (WL.call ca107 G G (bit_spec (BitVec.slt x y) _) ?_)
 rintro _ wb10 ⟨rfl, eb10⟩
 have E1 : Ext w wb10 := eb10
 refine An (U64 (bitW (BitVec.slt x y))) G (Ni (WC.ret ?_))
 exact ⟨_, Res.one (v := U64 (bitW (BitVec.slt x y))) G G, G, E1⟩
theorem sltu_spec (x y : BitVec 64) (w : World) : CallsR Tryz.prog 108 #[U64 x, U64 y] w (fun v w' => v = U64 (bitW (BitVec.ult x y)) ∧ Ext w w') := by
 refine callsR_of Tryz.func108 G G G ?_
 refine Sr (An (U64 (0#64)) G (Ni (Sr (Mv (U64 x) G (Mv (U64 y) G (Bn G G BinR.lssU64 (WL.call ca107 G G (bit_spec (BitVec.ult x y) _) ?_)))))))
 rintro _ wb8 ⟨rfl, eb8⟩
 have E1 : Ext w wb8 := eb8
 refine An (U64 (bitW (BitVec.ult x y))) G (Ni (WC.ret ?_))
 exact ⟨_, Res.one (v := U64 (bitW (BitVec.ult x y))) G G, G, E1⟩
theorem sll_spec (x y : BitVec 64) (w : World) : CallsR Tryz.prog 115 #[U64 x, U64 y] w (fun v w' => v = U64 (sllW x y) ∧ Ext w w') := by
 refine callsR_of Tryz.func115 G G G ?_
 refine Sr (An (U64 (0#64)) G (Ni (Sr (Mv (U64 x) G (Mv (U64 y) G (Bn (vy := U64 (63#64)) G G BinR.andU64 (Bn G G (BinR.shlU64 (s := (y &&& 63#64).toNat)) ?_)))))))
 refine An (U64 (x <<< (y &&& 63#64).toNat)) G (Ni (WC.ret ?_))
 exact ⟨_, Res.one (v := U64 (x <<< (y &&& 63#64).toNat)) G G, G, Mod.refl _ _⟩
theorem srl_spec (x y : BitVec 64) (w : World) : CallsR Tryz.prog 117 #[U64 x, U64 y] w (fun v w' => v = U64 (srlW x y) ∧ Ext w w') := by
 refine callsR_of Tryz.func117 G G G ?_
 refine Sr (An (U64 (0#64)) G (Ni (Sr (Mv (U64 x) G (Mv (U64 y) G (Bn (vy := U64 (63#64)) G G BinR.andU64 (Bn G G (BinR.shrU64 (s := (y &&& 63#64).toNat)) ?_)))))))
 refine An (U64 (x >>> (y &&& 63#64).toNat)) G (Ni (WC.ret ?_))
 exact ⟨_, Res.one (v := U64 (x >>> (y &&& 63#64).toNat)) G G, G, Mod.refl _ _⟩
theorem sra_spec (x y : BitVec 64) (w : World) : CallsR Tryz.prog 118 #[U64 x, U64 y] w (fun v w' => v = U64 (sraW x y) ∧ Ext w w') := by
 refine callsR_of Tryz.func118 G G G ?_
 refine Sr (An (U64 (0#64)) G (Ni (Sr (Mv (U64 x) G (Cv G (ConvR.u64i64 Tryz.underlying39 Tryz.underlying2) (Mv (U64 y) G (Bn (vy := U64 (63#64)) G G BinR.andU64 ?_)))))))
 refine Bn G G (BinR.shr64 (s := (y &&& 63#64).toNat)) (Cv G (ConvR.i64u64 Tryz.underlying2 Tryz.underlying39) (An (U64 (BitVec.sshiftRight x (y &&& 63#64).toNat)) G (Ni (WC.ret ?_))))
 exact ⟨_, Res.one (v := U64 (BitVec.sshiftRight x (y &&& 63#64).toNat)) G G, G, Mod.refl _ _⟩
theorem div_spec (x y : BitVec 64) (w : World) : CallsR Tryz.prog 119 #[U64 x, U64 y] w (fun v w' => v = U64 (divW x y) ∧ Ext w w') := by
 refine callsR_of Tryz.func119 G G G ?_
 refine Sr (An (U64 (0#64)) G (Ni (Sr (Mv (U64 x) G (Cv G (ConvR.u64i64 Tryz.underlying39 Tryz.underlying2) (Mv (U64 y) G (Cv G (ConvR.u64i64 Tryz.underlying39 Tryz.underlying2) ?_)))))))
 refine An (I64 x) G (An (I64 y) G (Ni (Sq (Bk (Sr (Mv (I64 y) G (Bn (vy := I64 (0#64)) G G BinR.eql64 (An (.bool ((y == 0#64))) G ?_))))))))
 refine Ni ?_
 refine WC.cond G (fun hc11 => ?_) (fun hc11 => ?_)
 ·refine Sr (An (U64 (18446744073709551615#64)) G (Ni (WC.ret ?_)))
  have hfin : ((U64 (18446744073709551615#64)) : Value) = U64 (divW x y) := congrArg U64 (by unfold divW; simp only [*, Bool.false_eq_true, if_false, if_true])
  exact ⟨_, Res.one (v := U64 (18446744073709551615#64)) G G, hfin, Mod.refl _ _⟩
 ·have hy0 : y ≠ 0#64 := by simpa using hc11
  refine Sr (Mv (I64 y) G (Bn (vy := I64 (BitVec.ofInt 64 (-1))) G (cI64 _ (by decide)) BinR.eql64 (An (.bool ((y == BitVec.ofInt 64 (-1)))) G (Ni ?_))))
  refine WC.cond G (fun hc14 => ?_) (fun hc14 => ?_)
  ·refine Sr (Mv (U64 x) G (WL.un G G UnR.negU64 (An (U64 (-x)) G (Ni (WC.ret ?_)))))
   have hfin : ((U64 (-x)) : Value) = U64 (divW x y) := congrArg U64 (by unfold divW; simp only [*, Bool.false_eq_true, if_false, if_true])
   exact ⟨_, Res.one (v := U64 (-x)) G G, hfin, Mod.refl _ _⟩
  ·refine WC.skip (Sr (Mv (I64 x) G (Mv (I64 y) G (Bn G G (BinR.quo64 hy0) (Cv G (ConvR.i64u64 Tryz.underlying2 Tryz.underlying39) (An (U64 (x.sdiv y)) G (Ni (WC.ret ?_))))))))
   have hfin : ((U64 (x.sdiv y)) : Value) = U64 (divW x y) := congrArg U64 (by unfold divW; simp only [*, Bool.false_eq_true, if_false, if_true])
   exact ⟨_, Res.one (v := U64 (x.sdiv y)) G G, hfin, Mod.refl _ _⟩
theorem rem_spec (x y : BitVec 64) (w : World) : CallsR Tryz.prog 121 #[U64 x, U64 y] w (fun v w' => v = U64 (remW x y) ∧ Ext w w') := by
 refine callsR_of Tryz.func121 G G G ?_
 refine Sr (An (U64 (0#64)) G (Ni (Sr (Mv (U64 x) G (Cv G (ConvR.u64i64 Tryz.underlying39 Tryz.underlying2) (Mv (U64 y) G (Cv G (ConvR.u64i64 Tryz.underlying39 Tryz.underlying2) ?_)))))))
 refine An (I64 x) G (An (I64 y) G (Ni (Sq (Bk (Sr (Mv (I64 y) G (Bn (vy := I64 (0#64)) G G BinR.eql64 (An (.bool ((y == 0#64))) G ?_))))))))
 refine Ni ?_
 refine WC.cond G (fun hc11 => ?_) (fun hc11 => ?_)
 ·refine Sr (Mv (U64 x) G (An (U64 x) G (Ni (WC.ret ?_))))
  have hfin : ((U64 x) : Value) = U64 (remW x y) := congrArg U64 (by unfold remW; simp only [*, Bool.false_eq_true, if_false, if_true])
  exact ⟨_, Res.one (v := U64 x) G G, hfin, Mod.refl _ _⟩
 ·have hy0 : y ≠ 0#64 := by simpa using hc11
  refine Sr (Mv (I64 y) G (Bn (vy := I64 (BitVec.ofInt 64 (-1))) G (cI64 _ (by decide)) BinR.eql64 (An (.bool ((y == BitVec.ofInt 64 (-1)))) G (Ni ?_))))
  refine WC.cond G (fun hc15 => ?_) (fun hc15 => ?_)
  ·refine Sr (An (U64 (0#64)) G (Ni (WC.ret ?_)))
   have hfin : ((U64 (0#64)) : Value) = U64 (remW x y) := congrArg U64 (by unfold remW; simp only [*, Bool.false_eq_true, if_false, if_true])
   exact ⟨_, Res.one (v := U64 (0#64)) G G, hfin, Mod.refl _ _⟩
  ·refine WC.skip (Sr (Mv (I64 x) G (Mv (I64 y) G (Bn G G (BinR.rem64 hy0) (Cv G (ConvR.i64u64 Tryz.underlying2 Tryz.underlying39) (An (U64 (x.srem y)) G (Ni (WC.ret ?_))))))))
   have hfin : ((U64 (x.srem y)) : Value) = U64 (remW x y) := congrArg U64 (by unfold remW; simp only [*, Bool.false_eq_true, if_false, if_true])
   exact ⟨_, Res.one (v := U64 (x.srem y)) G G, hfin, Mod.refl _ _⟩
theorem divu_spec (x y : BitVec 64) (w : World) : CallsR Tryz.prog 120 #[U64 x, U64 y] w (fun v w' => v = U64 (divuW x y) ∧ Ext w w') := by
 refine callsR_of Tryz.func120 G G G ?_
 refine Sr (An (U64 (0#64)) G (Ni (Sq (Sr (Mv (U64 y) G (Bn (vy := U64 (0#64)) G G BinR.eqlU64 (Ni ?_)))))))
 refine WC.cond G (fun hc6 => ?_) (fun hc6 => ?_)
 ·refine Sr (An (U64 (18446744073709551615#64)) G (Ni (WC.ret ?_)))
  have hfin : ((U64 (18446744073709551615#64)) : Value) = U64 (divuW x y) := congrArg U64 (by unfold divuW; simp only [*, Bool.false_eq_true, if_false, if_true])
  exact ⟨_, Res.one (v := U64 (18446744073709551615#64)) G G, hfin, Mod.refl _ _⟩
 ·have hy0 : y ≠ 0#64 := by simpa using hc6
  refine WC.skip (Sr (Mv (U64 x) G (Mv (U64 y) G (Bn G G (BinR.quoU64 hy0) (An (U64 (x / y)) G (Ni (WC.ret ?_)))))))
  have hfin : ((U64 (x / y)) : Value) = U64 (divuW x y) := congrArg U64 (by unfold divuW; simp only [*, Bool.false_eq_true, if_false, if_true])
  exact ⟨_, Res.one (v := U64 (x / y)) G G, hfin, Mod.refl _ _⟩
theorem remu_spec (x y : BitVec 64) (w : World) : CallsR Tryz.prog 122 #[U64 x, U64 y] w (fun v w' => v = U64 (remuW x y) ∧ Ext w w') := by
 refine callsR_of Tryz.func122 G G G ?_
 refine Sr (An (U64 (0#64)) G (Ni (Sq (Sr (Mv (U64 y) G (Bn (vy := U64 (0#64)) G G BinR.eqlU64 (Ni ?_)))))))
 refine WC.cond G (fun hc6 => ?_) (fun hc6 => ?_)
 ·refine Sr (Mv (U64 x) G (An (U64 x) G (Ni (WC.ret ?_))))
  have hfin : ((U64 x) : Value) = U64 (remuW x y) := congrArg U64 (by unfold remuW; simp only [*, Bool.false_eq_true, if_false, if_true])
  exact ⟨_, Res.one (v := U64 x) G G, hfin, Mod.refl _ _⟩
 ·have hy0 : y ≠ 0#64 := by simpa using hc6
  refine WC.skip (Sr (Mv (U64 x) G (Mv (U64 y) G (Bn G G (BinR.remU64 hy0) (An (U64 (x % y)) G (Ni (WC.ret ?_)))))))
  have hfin : ((U64 (x % y)) : Value) = U64 (remuW x y) := congrArg U64 (by unfold remuW; simp only [*, Bool.false_eq_true, if_false, if_true])
  exact ⟨_, Res.one (v := U64 (x % y)) G G, hfin, Mod.refl _ _⟩
theorem mul64_spec (x y : BitVec 64) (w : World) : CallsR Tryz.prog 132 #[U64 x, U64 y] w (fun v w' => v = .tuple #[U64 (hiW x y), U64 (x * y)] ∧ Ext w w') := by
 refine callsR_of Tryz.func132 G G G ?_
 refine Sr (An (U64 (0#64)) G (An (U64 (0#64)) G (Ni (Sr (Mv (U64 x) G (Bn (vy := U64 (4294967295#64)) G G BinR.andU64 (An (U64 ((x &&& 4294967295#64))) G ?_)))))))
 refine Ni (Sr (Mv (U64 x) G (Bn (vy := .int .u64 ((32 : Nat) : Int)) G G BinR.shrU64 (An (U64 ((x >>> 32))) G (Ni (Sr (Mv (U64 y) G ?_)))))))
 refine Bn (vy := U64 (4294967295#64)) G G BinR.andU64 (An (U64 ((y &&& 4294967295#64))) G (Ni (Sr (Mv (U64 y) G (Bn (vy := .int .u64 ((32 : Nat) : Int)) G G BinR.shrU64 (An (U64 ((y >>> 32))) G (Ni (Sq ?_))))))))
 refine Rg (Mv (U64 ((x &&& 4294967295#64))) G (Mv (U64 ((y &&& 4294967295#64))) G (Bn G G BinR.mulU64 (An (U64 (((x &&& 4294967295#64) * (y &&& 4294967295#64)))) G (Ni (Sr (Mv (U64 ((x >>> 32))) G (Mv (U64 ((y &&& 4294967295#64))) G ?_))))))))
 refine Bn G G BinR.mulU64 (Mv (U64 (((x &&& 4294967295#64) * (y &&& 4294967295#64)))) G (Bn (vy := .int .u64 ((32 : Nat) : Int)) G G BinR.shrU64 (Bn G G BinR.addU64 (An (U64 ((((x >>> 32) * (y &&& 4294967295#64)) + (((x &&& 4294967295#64) * (y &&& 4294967295#64)) >>> 32)))) G (Ni (Sr (Mv (U64 ((((x >>> 32) * (y &&& 4294967295#64)) + (((x &&& 4294967295#64) * (y &&& 4294967295#64)) >>> 32)))) G (Bn (vy := U64 (4294967295#64)) G G BinR.andU64 ?_))))))))
 refine An (U64 (((((x >>> 32) * (y &&& 4294967295#64)) + (((x &&& 4294967295#64) * (y &&& 4294967295#64)) >>> 32)) &&& 4294967295#64))) G (Ni (Sr (Mv (U64 ((((x >>> 32) * (y &&& 4294967295#64)) + (((x &&& 4294967295#64) * (y &&& 4294967295#64)) >>> 32)))) G (Bn (vy := .int .u64 ((32 : Nat) : Int)) G G BinR.shrU64 (An (U64 (((((x >>> 32) * (y &&& 4294967295#64)) + (((x &&& 4294967295#64) * (y &&& 4294967295#64)) >>> 32)) >>> 32))) G (Ni (Sr ?_)))))))
 refine Mv (U64 (((((x >>> 32) * (y &&& 4294967295#64)) + (((x &&& 4294967295#64) * (y &&& 4294967295#64)) >>> 32)) &&& 4294967295#64))) G (Mv (U64 ((x &&& 4294967295#64))) G (Mv (U64 ((y >>> 32))) G (Bn G G BinR.mulU64 (Bn G G BinR.addU64 (An (U64 ((((((x >>> 32) * (y &&& 4294967295#64)) + (((x &&& 4294967295#64) * (y &&& 4294967295#64)) >>> 32)) &&& 4294967295#64) + ((x &&& 4294967295#64) * (y >>> 32))))) G (Ni (Sr (Mv (U64 ((x >>> 32))) G ?_))))))))
 refine Mv (U64 ((y >>> 32))) G (Bn G G BinR.mulU64 (Mv (U64 (((((x >>> 32) * (y &&& 4294967295#64)) + (((x &&& 4294967295#64) * (y &&& 4294967295#64)) >>> 32)) >>> 32))) G (Bn G G BinR.addU64 (Mv (U64 ((((((x >>> 32) * (y &&& 4294967295#64)) + (((x &&& 4294967295#64) * (y &&& 4294967295#64)) >>> 32)) &&& 4294967295#64) + ((x &&& 4294967295#64) * (y >>> 32))))) G (Bn (vy := .int .u64 ((32 : Nat) : Int)) G G BinR.shrU64 (Bn G G BinR.addU64 (An (U64 (((((x >>> 32) * (y >>> 32)) + ((((x >>> 32) * (y &&& 4294967295#64)) + (((x &&& 4294967295#64) * (y &&& 4294967295#64)) >>> 32)) >>> 32)) + ((((((x >>> 32) * (y &&& 4294967295#64)) + (((x &&& 4294967295#64) * (y &&& 4294967295#64)) >>> 32)) &&& 4294967295#64) + ((x &&& 4294967295#64) * (y >>> 32))) >>> 32)))) G (Ni (Sq ?_)))))))))
 refine Rg (Mv (U64 x) G (Mv (U64 y) G (Bn G G BinR.mulU64 (An (U64 ((x * y))) G (Ni (WC.ret ?_))))))
 exact ⟨_, Res.two (v := U64 (((((x >>> 32) * (y >>> 32)) + ((((x >>> 32) * (y &&& 4294967295#64)) + (((x &&& 4294967295#64) * (y &&& 4294967295#64)) >>> 32)) >>> 32)) + ((((((x >>> 32) * (y &&& 4294967295#64)) + (((x &&& 4294967295#64) * (y &&& 4294967295#64)) >>> 32)) &&& 4294967295#64) + ((x &&& 4294967295#64) * (y >>> 32))) >>> 32)))) (v' := U64 ((x * y))) G G G, G, Mod.refl _ _⟩
theorem mulhu_spec (x y : BitVec 64) (w : World) : CallsR Tryz.prog 125 #[U64 x, U64 y] w (fun v w' => v = U64 (hiW x y) ∧ Ext w w') := by
 refine callsR_of Tryz.func125 G G G ?_
 refine Sr (An (U64 (0#64)) G (Ni (Sr (Mv (U64 x) G (Mv (U64 y) G (WL.call ca132 G G (mul64_spec x y _) ?_))))))
 rintro _ wb ⟨rfl, eb⟩
 have E1 : Ext w wb := eb
 refine Mv (.tuple #[U64 (hiW x y), U64 (x * y)]) G (Et G G (Et G G (An (U64 (hiW x y)) G (An (U64 (x * y)) G (Ni (Sr (Mv (U64 (hiW x y)) G (An (U64 (hiW x y)) G ?_))))))))
 refine Ni (WC.ret ?_)
 exact ⟨_, Res.one (v := U64 (hiW x y)) G G, G, E1⟩
theorem mulhsu_spec (x y : BitVec 64) (w : World) : CallsR Tryz.prog 124 #[U64 x, U64 y] w (fun v w' => v = U64 (mulhsuW x y) ∧ Ext w w') := by
 refine callsR_of Tryz.func124 G G G ?_
 refine Sr (An (U64 (0#64)) G (Ni (Sr (Mv (U64 x) G (Mv (U64 y) G (WL.call ca125 G G (mulhu_spec x y _) ?_))))))
 rintro _ wb ⟨rfl, eb⟩
 have E1 : Ext w wb := eb
 refine Mv (U64 y) G (Mv (U64 x) G (Cv G (ConvR.u64i64 Tryz.underlying39 Tryz.underlying2) (Bn (vy := I64 (0#64)) G G BinR.lss64 (WL.call ca107 G G (bit_spec (BitVec.slt x 0#64) _) ?_))))
 rintro _ wb12 ⟨rfl, eb12⟩
 have E2 := Mt E1 eb12
 refine Bn G G BinR.mulU64 (Bn G G BinR.subU64 (An (U64 ((hiW x y - (y * bitW (BitVec.slt x 0#64))))) G (Ni (WC.ret ?_))))
 exact ⟨_, Res.one (v := U64 ((hiW x y - (y * bitW (BitVec.slt x 0#64))))) G G, G, E2⟩
theorem mulh_spec (x y : BitVec 64) (w : World) : CallsR Tryz.prog 123 #[U64 x, U64 y] w (fun v w' => v = U64 (mulhW x y) ∧ Ext w w') := by
 refine callsR_of Tryz.func123 G G G ?_
 refine Sr (An (U64 (0#64)) G (Ni (Sr (Mv (U64 x) G (Mv (U64 y) G (WL.call ca124 G G (mulhsu_spec x y _) ?_))))))
 rintro _ wb ⟨rfl, eb⟩
 have E1 : Ext w wb := eb
 refine Mv (U64 x) G (Mv (U64 y) G (Cv G (ConvR.u64i64 Tryz.underlying39 Tryz.underlying2) (Bn (vy := I64 (0#64)) G G BinR.lss64 (WL.call ca107 G G (bit_spec (BitVec.slt y 0#64) _) ?_))))
 rintro _ wb12 ⟨rfl, eb12⟩
 have E2 := Mt E1 eb12
 refine Bn G G BinR.mulU64 (Bn G G BinR.subU64 (An (U64 ((mulhsuW x y - (x * bitW (BitVec.slt y 0#64))))) G (Ni (WC.ret ?_))))
 exact ⟨_, Res.one (v := U64 ((mulhsuW x y - (x * bitW (BitVec.slt y 0#64))))) G G, G, E2⟩
theorem sign_spec (x : BitVec 64) (m : Nat) (w : World) (hm : m ≤ 64) : CallsR Tryz.prog 74 #[U64 x, IN m] w (fun v w' => v = U64 (signW x m) ∧ Ext w w') := by
 refine callsR_of Tryz.func74 G G G ?_
 refine Sr (An (U64 (0#64)) G (Ni (Sr (Mv (U64 x) G (Mv (IN m) G (Bn G G (BinR.subN (a := 64) (b := m) (by omega) (by omega)) (Bn G G (BinR.shlU64 (s := 64 - m)) ?_)))))))
 refine Cv G (ConvR.u64i64 Tryz.underlying39 Tryz.underlying2) (Mv (IN m) G (Bn G G (BinR.subN (a := 64) (b := m) (by omega) (by omega)) (Bn G G (BinR.shr64 (s := 64 - m)) (Cv G (ConvR.i64u64 Tryz.underlying2 Tryz.underlying39) (An (U64 (BitVec.sshiftRight (x <<< (64 - m)) (64 - m))) G (Ni (WC.ret ?_)))))))
 exact ⟨_, Res.one (v := U64 (BitVec.sshiftRight (x <<< (64 - m)) (64 - m))) G G, G, Mod.refl _ _⟩
end Go.Proofs.N
end
section
set_option linter.unusedSimpArgs false
set_option linter.unusedVariables false
namespace Go.Proofs.N
open Go Go.Ux Go.Ux.Mach Go.Proofs
theorem ca104 : callable Tryz.prog 104 = true := by kernel_rfl
theorem ca105 : callable Tryz.prog 105 = true := by kernel_rfl
theorem ca106 : callable Tryz.prog 106 = true := by kernel_rfl
theorem ca108 : callable Tryz.prog 108 = true := by kernel_rfl
theorem ca109 : callable Tryz.prog 109 = true := by kernel_rfl
theorem ca110 : callable Tryz.prog 110 = true := by kernel_rfl
theorem ca111 : callable Tryz.prog 111 = true := by kernel_rfl
theorem ca112 : callable Tryz.prog 112 = true := by kernel_rfl
theorem ca115 : callable Tryz.prog 115 = true := by kernel_rfl
theorem ca117 : callable Tryz.prog 117 = true := by kernel_rfl
theorem ca118 : callable Tryz.prog 118 = true := by kernel_rfl
theorem ca119 : callable Tryz.prog 119 = true := by kernel_rfl
theorem ca120 : callable Tryz.prog 120 = true := by kernel_rfl
theorem ca121 : callable Tryz.prog 121 = true := by kernel_rfl
theorem ca122 : callable Tryz.prog 122 = true := by kernel_rfl
theorem ca123 : callable Tryz.prog 123 = true := by kernel_rfl
theorem ag178 : isAggT Tryz.prog 178 = some false := by kernel_rfl
theorem ca74 : callable Tryz.prog 74 = true := by kernel_rfl
theorem ca129 : callable Tryz.prog 129 = true := by kernel_rfl
theorem ca130 : callable Tryz.prog 130 = true := by kernel_rfl
theorem ca131 : callable Tryz.prog 131 = true := by kernel_rfl
def FunOk (w : World) (fv : Value) (F : BitVec 64 → BitVec 64 → BitVec 64) : Prop :=
 ∃ g cs, fv = .func (.func g) #[] cs ∧ callable Tryz.prog g = true ∧ ∀ w', Ext w w' → ∀ x y, CallsR Tryz.prog g (U64 x :: U64 y :: cs.toList).toArray w' (fun v w'' => v = U64 (F x y) ∧ Ext w' w'')
theorem FunOk.ext {w w' : World} {fv : Value} {F : BitVec 64 → BitVec 64 → BitVec 64} (h : FunOk w fv F) (m : Ext w w') : FunOk w' fv F := by
 obtain ⟨g, cs, e, hc, h⟩ := h
 exact ⟨g, cs, e, hc, fun w2 m2 => h w2 (m.trans m2)⟩
theorem FunOk.one {w : World} {fv : Value} {F : BitVec 64 → BitVec 64 → BitVec 64} (h : FunOk w fv F) : fv.oneCell' = true := by obtain ⟨g, cs, rfl, _⟩ := h; rfl
theorem add_fun (w : World) : FunOk w (.func (.func 104) #[] #[]) (fun x y => x + y) := ⟨104, #[], rfl, ca104, fun w' _ x y => add_spec x y w'⟩
theorem sub_fun (w : World) : FunOk w (.func (.func 105) #[] #[]) (fun x y => x - y) := ⟨105, #[], rfl, ca105, fun w' _ x y => sub_spec x y w'⟩
theorem slt_fun (w : World) : FunOk w (.func (.func 106) #[] #[]) (fun x y => bitW (BitVec.slt x y)) := ⟨106, #[], rfl, ca106, fun w' _ x y => slt_spec x y w'⟩
theorem sltu_fun (w : World) : FunOk w (.func (.func 108) #[] #[]) (fun x y => bitW (BitVec.ult x y)) := ⟨108, #[], rfl, ca108, fun w' _ x y => sltu_spec x y w'⟩
theorem xor_fun (w : World) : FunOk w (.func (.func 109) #[] #[]) (fun x y => x ^^^ y) := ⟨109, #[], rfl, ca109, fun w' _ x y => xor_spec x y w'⟩
theorem or_fun (w : World) : FunOk w (.func (.func 110) #[] #[]) (fun x y => x ||| y) := ⟨110, #[], rfl, ca110, fun w' _ x y => or_spec x y w'⟩
theorem and_fun (w : World) : FunOk w (.func (.func 111) #[] #[]) (fun x y => x &&& y) := ⟨111, #[], rfl, ca111, fun w' _ x y => and_spec x y w'⟩
theorem mul_fun (w : World) : FunOk w (.func (.func 112) #[] #[]) (fun x y => x * y) := ⟨112, #[], rfl, ca112, fun w' _ x y => mul_spec x y w'⟩
theorem sll_fun (w : World) : FunOk w (.func (.func 115) #[] #[]) sllW := ⟨115, #[], rfl, ca115, fun w' _ x y => sll_spec x y w'⟩
theorem srl_fun (w : World) : FunOk w (.func (.func 117) #[] #[]) srlW := ⟨117, #[], rfl, ca117, fun w' _ x y => srl_spec x y w'⟩
theorem sra_fun (w : World) : FunOk w (.func (.func 118) #[] #[]) sraW := ⟨118, #[], rfl, ca118, fun w' _ x y => sra_spec x y w'⟩
theorem div_fun (w : World) : FunOk w (.func (.func 119) #[] #[]) divW := ⟨119, #[], rfl, ca119, fun w' _ x y => div_spec x y w'⟩
theorem divu_fun (w : World) : FunOk w (.func (.func 120) #[] #[]) divuW := ⟨120, #[], rfl, ca120, fun w' _ x y => divu_spec x y w'⟩
theorem rem_fun (w : World) : FunOk w (.func (.func 121) #[] #[]) remW := ⟨121, #[], rfl, ca121, fun w' _ x y => rem_spec x y w'⟩
theorem remu_fun (w : World) : FunOk w (.func (.func 122) #[] #[]) remuW := ⟨122, #[], rfl, ca122, fun w' _ x y => remu_spec x y w'⟩
theorem mulh_fun (w : World) : FunOk w (.func (.func 123) #[] #[]) mulhW := ⟨123, #[], rfl, ca123, fun w' _ x y => mulh_spec x y w'⟩
theorem mulhsu_fun (w : World) : FunOk w (.func (.func 124) #[] #[]) mulhsuW := ⟨124, #[], rfl, ca124, fun w' _ x y => mulhsu_spec x y w'⟩
theorem mulhu_fun (w : World) : FunOk w (.func (.func 125) #[] #[]) hiW := ⟨125, #[], rfl, ca125, fun w' _ x y => mulhu_spec x y w'⟩
theorem signed1_spec (bf : Nat) (fv : Value) (F : BitVec 64 → BitVec 64 → BitVec 64) (x y : BitVec 64) (w : World) (hB : Blk w bf #[fv] 178) (hF : FunOk w fv F) : CallsR Tryz.prog 129 #[U64 x, U64 y, ptr bf 0] w (fun v w' => v = U64 (signedF F x y) ∧ Ext w w') := by
 obtain ⟨g, cs, rfl, hcal, hcl⟩ := hF
 refine callsR_of Tryz.func129 G G G ?_
 refine Sr (An (U64 (0#64)) G (Ni (Sq (WC.draw (fun w_ => Ext w w_) 8 G mixed ?_))))
 intro wd_1 ed_1
 have R1 : Ext w wd_1 := ed_1
 have E2 : Ext w wd_1 := ed_1
 refine Tk 0 (.func (.func g) #[] cs) G G (fun _ hS => Lo G ag178 ((hB.ext hS).cell (j := 0) G) Ok) R1 (Tk 1 (U64 x) G G (fun _ _ => Mv _ G Ok) R1 (Tk 3 (U64 y) G G (fun _ _ => Mv _ G Ok) R1 (WA.one (i := 2) (m' := 15) (by kernel_rfl) G G (WL.call ca74 G G (sign_spec x 32 _ (by decide)) ?_))))
 rintro _ wg8 ⟨rfl, eg8⟩
 have R7 := Mt R1 eg8
 have E8 := Mt E2 eg8
 refine WL.behind R7 (WA.one (i := 4) (m' := 31) (by kernel_rfl) G G (WL.call ca74 G G (sign_spec y 32 _ (by decide)) ?_))
 rintro _ wg10 ⟨rfl, eg10⟩
 have R9 := Mt R7 eg10
 have E10 := Mt E8 eg10
 refine WL.behind R9 (WA.one (i := 5) (m' := 63) (by kernel_rfl) G G (WL.callV (fs := #[]) (cs := cs) G hcal G G (hcl _ E10 (signW x 32) (signW y 32)) ?_))
 rintro _ wc11 ⟨rfl, ec11⟩
 have R11 := Mt R9 ec11
 have E12 := Mt E10 ec11
 refine WL.behind R11 (WA.one (i := 6) (m' := 127) (by kernel_rfl) G G (WL.call ca74 G G (sign_spec (F (signW x 32) (signW y 32)) 32 _ (by decide)) ?_))
 rintro _ wg12 ⟨rfl, eg12⟩
 have R13 := Mt R11 eg12
 have E14 := Mt E12 eg12
 refine WL.behind R13 (Tk 7 (U64 (signW (F (signW x 32) (signW y 32)) 32)) G G (fun _ _ => An _ G Ok) R13 (WA.done (by kernel_rfl) (WC.ret ?_)))
 exact ⟨_, Res.one (v := U64 (signW (F (signW x 32) (signW y 32)) 32)) G G, G, E14⟩
theorem moved1_spec (bf : Nat) (fv : Value) (F : BitVec 64 → BitVec 64 → BitVec 64) (x y : BitVec 64) (w : World) (hB : Blk w bf #[fv] 178) (hF : FunOk w fv F) : CallsR Tryz.prog 130 #[U64 x, U64 y, ptr bf 0] w (fun v w' => v = U64 (movedF F x y) ∧ Ext w w') := by
 obtain ⟨g, cs, rfl, hcal, hcl⟩ := hF
 refine callsR_of Tryz.func130 G G G ?_
 refine Sr (An (U64 (0#64)) G (Ni (Sr (Lo G ag178 (hB.cell (j := 0) G) (Mv (U64 x) G (Mv (U64 y) G (Bn (vy := U64 (31#64)) G G BinR.andU64 ?_)))))))
 refine WL.callV (fs := #[]) (cs := cs) G hcal G G (hcl _ (Mod.refl _ _) x (y &&& 31#64)) ?_
 rintro _ wc10 ⟨rfl, ec10⟩
 have E1 : Ext w wc10 := ec10
 refine An (U64 (F x (y &&& 31#64))) G (Ni (WC.ret ?_))
 exact ⟨_, Res.one (v := U64 (F x (y &&& 31#64))) G G, G, E1⟩
theorem unsigned1_spec (bf : Nat) (fv : Value) (F : BitVec 64 → BitVec 64 → BitVec 64) (x y : BitVec 64) (w : World) (hB : Blk w bf #[fv] 178) (hF : FunOk w fv F) : CallsR Tryz.prog 131 #[U64 x, U64 y, ptr bf 0] w (fun v w' => v = U64 (unsignedF F x y) ∧ Ext w w') := by
 obtain ⟨g, cs, rfl, hcal, hcl⟩ := hF
 refine callsR_of Tryz.func131 G G G ?_
 refine Sr (An (U64 (0#64)) G (Ni (Sr (Lo G ag178 (hB.cell (j := 0) G) (Mv (U64 x) G (Bn (vy := U64 (4294967295#64)) G G BinR.andU64 (Mv (U64 y) G ?_)))))))
 refine Bn (vy := U64 (4294967295#64)) G G BinR.andU64 (WL.callV (fs := #[]) (cs := cs) G hcal G G (hcl _ (Mod.refl _ _) (x &&& 4294967295#64) (y &&& 4294967295#64)) ?_)
 rintro _ wc11 ⟨rfl, ec11⟩
 have E1 : Ext w wc11 := ec11
 refine WL.call ca74 G G (sign_spec (F (x &&& 4294967295#64) (y &&& 4294967295#64)) 32 _ (by decide)) ?_
 rintro _ wg12 ⟨rfl, eg12⟩
 have E2 := Mt E1 eg12
 refine An (U64 (signW (F (x &&& 4294967295#64) (y &&& 4294967295#64)) 32)) G (Ni (WC.ret ?_))
 exact ⟨_, Res.one (v := U64 (signW (F (x &&& 4294967295#64) (y &&& 4294967295#64)) 32)) G G, G, E2⟩
theorem signed0 (fv : Value) (hv : fv.oneCell' = true) (w : World) : CallsR Tryz.prog 113 #[fv] w (fun v w' => ∃ bf, v = .func (.func 129) #[] #[ptr bf 0] ∧ Blk w' bf #[fv] 178 ∧ Ext w w') := by
 refine callsR_of Tryz.func113 G G G ?_
 refine Sr (WL.box (v := fv) G G ?_)
 intro b1 w1 n1
 have E1 : Ext w w1 := n1.ext
 have n1b : Blk w1 b1 #[fv] 178 := by have h := n1.blk; rwa [cells_of_one hv] at h
 refine An .nilFunc G (Ni (Sr (WL.makeFunc (vs := []) (us := [ptr b1 0]) G G G (An (.func (.func 129) #[] #[ptr b1 0]) G (Ni (WC.ret ?_))))))
 exact ⟨_, Res.one (v := .func (.func 129) #[] #[ptr b1 0]) G G, b1, G, n1b, E1⟩
theorem signed_spec (fv : Value) (F : BitVec 64 → BitVec 64 → BitVec 64) (w : World) (hF : FunOk w fv F) : CallsR Tryz.prog 113 #[fv] w (fun v w' => FunOk w' v (signedF F) ∧ Ext w w') := by
 refine (signed0 fv hF.one w).mono ?_
 rintro v w' ⟨bf, rfl, hB, he⟩
 exact ⟨⟨129, #[ptr bf 0], G, ca129, fun w2 m x y => signed1_spec bf fv F x y w2 (hB.ext m) ((hF.ext he).ext m)⟩, he⟩
theorem moved0 (fv : Value) (hv : fv.oneCell' = true) (w : World) : CallsR Tryz.prog 114 #[fv] w (fun v w' => ∃ bf, v = .func (.func 130) #[] #[ptr bf 0] ∧ Blk w' bf #[fv] 178 ∧ Ext w w') := by
 refine callsR_of Tryz.func114 G G G ?_
 refine Sr (WL.box (v := fv) G G ?_)
 intro b1 w1 n1
 have E1 : Ext w w1 := n1.ext
 have n1b : Blk w1 b1 #[fv] 178 := by have h := n1.blk; rwa [cells_of_one hv] at h
 refine An .nilFunc G (Ni (Sr (WL.makeFunc (vs := []) (us := [ptr b1 0]) G G G (An (.func (.func 130) #[] #[ptr b1 0]) G (Ni (WC.ret ?_))))))
 exact ⟨_, Res.one (v := .func (.func 130) #[] #[ptr b1 0]) G G, b1, G, n1b, E1⟩
theorem moved_spec (fv : Value) (F : BitVec 64 → BitVec 64 → BitVec 64) (w : World) (hF : FunOk w fv F) : CallsR Tryz.prog 114 #[fv] w (fun v w' => FunOk w' v (movedF F) ∧ Ext w w') := by
 refine (moved0 fv hF.one w).mono ?_
 rintro v w' ⟨bf, rfl, hB, he⟩
 exact ⟨⟨130, #[ptr bf 0], G, ca130, fun w2 m x y => moved1_spec bf fv F x y w2 (hB.ext m) ((hF.ext he).ext m)⟩, he⟩
theorem unsigned0 (fv : Value) (hv : fv.oneCell' = true) (w : World) : CallsR Tryz.prog 116 #[fv] w (fun v w' => ∃ bf, v = .func (.func 131) #[] #[ptr bf 0] ∧ Blk w' bf #[fv] 178 ∧ Ext w w') := by
 refine callsR_of Tryz.func116 G G G ?_
 refine Sr (WL.box (v := fv) G G ?_)
 intro b1 w1 n1
 have E1 : Ext w w1 := n1.ext
 have n1b : Blk w1 b1 #[fv] 178 := by have h := n1.blk; rwa [cells_of_one hv] at h
 refine An .nilFunc G (Ni (Sr (WL.makeFunc (vs := []) (us := [ptr b1 0]) G G G (An (.func (.func 131) #[] #[ptr b1 0]) G (Ni (WC.ret ?_))))))
 exact ⟨_, Res.one (v := .func (.func 131) #[] #[ptr b1 0]) G G, b1, G, n1b, E1⟩
theorem unsigned_spec (fv : Value) (F : BitVec 64 → BitVec 64 → BitVec 64) (w : World) (hF : FunOk w fv F) : CallsR Tryz.prog 116 #[fv] w (fun v w' => FunOk w' v (unsignedF F) ∧ Ext w w') := by
 refine (unsigned0 fv hF.one w).mono ?_
 rintro v w' ⟨bf, rfl, hB, he⟩
 exact ⟨⟨131, #[ptr bf 0], G, ca131, fun w2 m x y => unsigned1_spec bf fv F x y w2 (hB.ext m) ((hF.ext he).ext m)⟩, he⟩
end Go.Proofs.N
end
section
namespace Go.Ux
open Go
def getF (l : List (Nat × Nat)) (k : Nat) : Option Nat := match l with
 | [] => none
 | (a, g) :: r => if a == k then some g else getF r k
abbrev KB (k : Nat) : Value := .int .u8 ((k : Nat) : Int)
abbrev FV (g : Nat) : Value := .func (.func g) #[] #[]
def MapF (w : World) (r : Nat) (l : List (Nat × Nat)) : Prop :=
 ∃ es clock, w.heap[r]? = some (.map es clock) ∧ es.toList.map (fun e => (e.key, e.val)) = l.map fun p => (KB p.1, FV p.2)
theorem findNow_F (k : Nat) : ∀ (es : List MapEntry) (l : List (Nat × Nat)) (i : Nat), es.map (fun e => (e.key, e.val)) = l.map (fun p => (KB p.1, FV p.2)) →
  (Instr.findNow (.int .u8) (KB k) es i = some none ∧ getF l k = none) ∨ ∃ j g, Instr.findNow (.int .u8) (KB k) es i = some (some (j, FV g)) ∧ getF l k = some g
 | [], [], _, _ => .inl ⟨rfl, rfl⟩
 | [], _ :: _, _, h => by cases h
 | _ :: _, [], _, h => by cases h
 | e :: es, (a, c) :: l, i, h => by
  simp only [List.map_cons, List.cons.injEq, Prod.mk.injEq] at h
  obtain ⟨⟨hk, hv⟩, hr⟩ := h
  have hs : Instr.sameNow (.int .u8) (KB k) e.key = some (k == a) := by
   rw [hk]
   have : (((k : Nat) : Int) == ((a : Nat) : Int)) = (k == a) := by
    rw [Bool.eq_iff_iff, beq_iff_eq, beq_iff_eq]; omega
   simp only [Instr.sameNow, if_true, this]
  by_cases hka : k = a
  ·subst hka
   exact .inr ⟨i, c, by simp only [Instr.findNow, hs, beq_self_eq_true, hv], by simp [getF]⟩
  ·have hne : (a == k) = false := by rw [beq_eq_false_iff_ne]; exact fun e => hka e.symm
   have hne' : (k == a) = false := by rw [beq_eq_false_iff_ne]; exact hka
   have hf : Instr.findNow (.int .u8) (KB k) (e :: es) i = Instr.findNow (.int .u8) (KB k) es (i + 1) := by simp only [Instr.findNow, hs, hne']
   rcases findNow_F k es l (i + 1) hr with ⟨h1, h2⟩ | ⟨j, g, h1, h2⟩
   ·exact .inl ⟨hf.trans h1, by simp [getF, hne, h2]⟩
   ·exact .inr ⟨j, g, hf.trans h1, by simp [getF, hne, h2]⟩
section ops
variable {P : Program} {ops : Array Oper} {l : List Oper} {n : Nat} {f : Fr} {w : World} {Q : Exit → Fr → World → Prop}
variable {d : Nat} {ty : TypeId} {pos : String} {aft : Array Edge}
theorem isKey_KB (k : Nat) : MapKept.IsKey (.int .u8) (KB k) := by simp [MapKept.IsKey]
theorem WL.lookupF {t kt et r k : Nat} {x y : Operand} {ls : List (Nat × Nat)} {v : Value} (ht : P.underlying t = some (.map kt et)) (hk : P.underlying kt = some (.int .u8)) (hz : ∀ w : World, (zeroValue et).run P w = .ok .nilFunc w)
  (hx : ev f x = .map (some r)) (hy : ev f y = KB k) (hm : MapF w r ls) (hv : (match getF ls k with | some g => FV g | none => .nilFunc) = v) (hd : decide (d < n) = true) (kk : WL P ops l n (upd f d v) w Q) :
  WL P ops (⟨some d, .lookup t x y false, ty, pos, aft, none⟩ :: l) n f w Q := by
 obtain ⟨es, clock, hb, he⟩ := hm
 refine WL.val G hd (v := v) (w' := w) ?_ kk
 have hc := MapKept.run_checkKey (P := P) (w := w) hk (isKey_KB k) es.isEmpty 9999
 have hrun : (Instr.lookup t (.map (some r)) (KB k) false).run P w = .ok v w := by
  rcases findNow_F k es.toList ls 0 he with ⟨h1, h2⟩ | ⟨j, g, h1, h2⟩
  ·rw [h2] at hv; subst hv
   simp [Instr.lookup, run_underlying ht, MapKept.run_getObj_map hb, hc, MapKept.run_findKey hk h1, hz, Result.andThen]
  ·rw [h2] at hv; subst hv
   simp [Instr.lookup, run_underlying ht, MapKept.run_getObj_map hb, hc, MapKept.run_findKey hk h1, Result.andThen]
 simp only [execOp, hx, hy]
 rw [Sem.run_bind, hrun]; simp [Result.andThen]
theorem WL.insertF {t kt et r k g : Nat} {x y z : Operand} {ls : List (Nat × Nat)} (ht : P.underlying t = some (.map kt et)) (hk : P.underlying kt = some (.int .u8))
  (hx : ev f x = .map (some r)) (hy : ev f y = KB k) (hz : ev f z = FV g) (hm : MapF w r ls) (hn : getF ls k = none) (kk : ∀ w', MapF w' r (ls ++ [(k, g)]) → Mod (· = r) w w' → WL P ops l n f w' Q) :
  WL P ops (⟨none, .insert t x y z, ty, pos, aft, none⟩ :: l) n f w Q := by
 obtain ⟨es, clock, hb, he⟩ := hm
 have hc := MapKept.run_checkKey (P := P) (w := w) hk (isKey_KB k) false 9999
 rcases findNow_F k es.toList ls 0 he with ⟨h1, _⟩ | ⟨j, g', h1, h2⟩
 ·refine WL.skp (w' := { w with heap := w.heap.setIfInBounds r (.map (es.push { key := KB k, val := FV g, born := clock }) (clock + 1)) }) G G ?_
   (kk _ ⟨_, _, (MapKept.heap_set hb).1, by simp [he]⟩ (setObj_mod hb))
  have : (Instr.mapUpdate t (.map (some r)) (KB k) (FV g)).run P w = .ok () { w with heap := w.heap.setIfInBounds r (.map (es.push { key := KB k, val := FV g, born := clock }) (clock + 1)) } := by
   simp [Instr.mapUpdate, run_underlying ht, MapKept.run_getObj_map hb, hc, MapKept.run_findKey hk h1, MapKept.run_setObj_map _ hb, Result.andThen]
  simp only [execOp, hx, hy, hz]
  rw [Sem.run_bind, this]; simp [Result.andThen]
 ·rw [hn] at h2; cases h2
theorem WL.makeMapF {t : Nat} (hd : decide (d < n) = true) (kk : ∀ r w', MapF w' r [] → Ext w w' → r = w.heap.size → WL P ops l n (upd f d (.map (some r))) w' Q) :
  WL P ops (⟨some d, .makeMap t none, ty, pos, aft, none⟩ :: l) n f w Q := by
 refine WL.val G hd (v := .map (some w.heap.size)) (w' := w.alloc (.map #[] 0)) ?_ (kk _ _ ⟨#[], 0, heap_alloc_new w _, G⟩ (alloc_ext w _) G)
 simp only [execOp, Option.map_none]
 rw [Sem.run_bind, run_makeMap_plain]; simp [Result.andThen]
end ops
end Go.Ux
end
section
set_option linter.unusedSimpArgs false
set_option linter.unusedVariables false
namespace Go.Proofs.N
open Go Go.Ux Go.Ux.Mach Go.Proofs
theorem ca88 : callable Tryz.prog 88 = true := by kernel_rfl
theorem ca113 : callable Tryz.prog 113 = true := by kernel_rfl
theorem ca114 : callable Tryz.prog 114 = true := by kernel_rfl
theorem ca116 : callable Tryz.prog 116 = true := by kernel_rfl
theorem zf178 : ∀ w : World, (zeroValue 178).run Tryz.prog w = .ok .nilFunc w := fun _ => by kernel_rfl
def lookM (k : Nat) : Value := match getF [(33, 115), (28, 115), (37, 117), (29, 117), (38, 118), (30, 118), (51, 123), (52, 124), (53, 125), (54, 119), (55, 120), (56, 121), (57, 122)] k with | some g => FV g | none => .nilFunc
theorem reckons_z (z : BitVec 8) (hz : ∀ c ∈ [22#8, 23#8, 24#8, 25#8, 26#8, 27#8, 31#8, 32#8, 34#8, 35#8, 36#8, 39#8, 40#8, 41#8, 42#8, 43#8, 44#8, 45#8, 46#8, 47#8, 48#8, 49#8, 50#8, 58#8, 59#8, 60#8, 61#8, 62#8], (z == c) = false) (w : World) : CallsR Tryz.prog 88 #[U8 z] w (fun v w' => v = lookM z.toNat ∧ Ext w w') := by
 refine callsR_of Tryz.func88 G G G ?_
 refine Sr (An .nilFunc G (Ni (Sq (Sr (Mv (U8 z) G (Ni (Bk ?_)))))))
 refine Sq (Sq (WC.neU (c := 31#8) G G G G G G (hz _ (by decide)) (WC.neU (c := 22#8) G G G G G G (hz _ (by decide)) (Sq (WC.neU (c := 32#8) G G G G G G (hz _ (by decide)) (Sq (Sq (WC.neU (c := 34#8) G G G G G G (hz _ (by decide)) (WC.neU (c := 23#8) G G G G G G (hz _ (by decide)) ?_)))))))))
 refine Sq (Sq (WC.neU (c := 35#8) G G G G G G (hz _ (by decide)) (WC.neU (c := 24#8) G G G G G G (hz _ (by decide)) (Sq (Sq (WC.neU (c := 36#8) G G G G G G (hz _ (by decide)) (WC.neU (c := 25#8) G G G G G G (hz _ (by decide)) (Sq (Sq ?_)))))))))
 refine WC.neU (c := 39#8) G G G G G G (hz _ (by decide)) (WC.neU (c := 26#8) G G G G G G (hz _ (by decide)) (Sq (Sq (WC.neU (c := 40#8) G G G G G G (hz _ (by decide)) (WC.neU (c := 27#8) G G G G G G (hz _ (by decide)) (Sq (WC.neU (c := 50#8) G G G G G G (hz _ (by decide)) (Sq (Sq ?_)))))))))
 refine WC.neU (c := 45#8) G G G G G G (hz _ (by decide)) (WC.neU (c := 41#8) G G G G G G (hz _ (by decide)) (Sq (WC.neU (c := 46#8) G G G G G G (hz _ (by decide)) (Sq (WC.neU (c := 58#8) G G G G G G (hz _ (by decide)) (Sq (Sq (WC.neU (c := 47#8) G G G G G G (hz _ (by decide)) (WC.neU (c := 42#8) G G G G G G (hz _ (by decide)) ?_)))))))))
 refine Sq (Sq (WC.neU (c := 48#8) G G G G G G (hz _ (by decide)) (WC.neU (c := 43#8) G G G G G G (hz _ (by decide)) (Sq (Sq (WC.neU (c := 49#8) G G G G G G (hz _ (by decide)) (WC.neU (c := 44#8) G G G G G G (hz _ (by decide)) (Sq (WC.neU (c := 59#8) G G G G G G (hz _ (by decide)) ?_)))))))))
 refine Sq (WC.neU (c := 60#8) G G G G G G (hz _ (by decide)) (Sq (WC.neU (c := 61#8) G G G G G G (hz _ (by decide)) (Sq (WC.neU (c := 62#8) G G G G G G (hz _ (by decide)) (WC.skip (Sr (WL.makeMapF G ?_))))))))
 intro r wm hM0 e67 hr
 have hrw : w.heap.size ≤ r := by have := Mod.size (Mod.refl (fun _ => False) w); omega
 have E1 : Ext w wm := e67
 refine WL.insertF (k := 33) (g := 115) (ls := []) Tryz.underlying204 Tryz.underlying5 G G G hM0 (by decide) ?_
 intro wi0 hM1 mi0
 have Ei0 : Ext w wi0 := Mod.then E1 mi0 (fun i hi (e : i = r) => absurd hi (by omega))
 refine WL.insertF (k := 28) (g := 115) (ls := [(33, 115)]) Tryz.underlying204 Tryz.underlying5 G G G hM1 (by decide) ?_
 intro wi1 hM2 mi1
 have Ei1 : Ext w wi1 := Mod.then Ei0 mi1 (fun i hi (e : i = r) => absurd hi (by omega))
 refine WL.insertF (k := 37) (g := 117) (ls := [(33, 115), (28, 115)]) Tryz.underlying204 Tryz.underlying5 G G G hM2 (by decide) ?_
 intro wi2 hM3 mi2
 have Ei2 : Ext w wi2 := Mod.then Ei1 mi2 (fun i hi (e : i = r) => absurd hi (by omega))
 refine WL.insertF (k := 29) (g := 117) (ls := [(33, 115), (28, 115), (37, 117)]) Tryz.underlying204 Tryz.underlying5 G G G hM3 (by decide) ?_
 intro wi3 hM4 mi3
 have Ei3 : Ext w wi3 := Mod.then Ei2 mi3 (fun i hi (e : i = r) => absurd hi (by omega))
 refine WL.insertF (k := 38) (g := 118) (ls := [(33, 115), (28, 115), (37, 117), (29, 117)]) Tryz.underlying204 Tryz.underlying5 G G G hM4 (by decide) ?_
 intro wi4 hM5 mi4
 have Ei4 : Ext w wi4 := Mod.then Ei3 mi4 (fun i hi (e : i = r) => absurd hi (by omega))
 refine WL.insertF (k := 30) (g := 118) (ls := [(33, 115), (28, 115), (37, 117), (29, 117), (38, 118)]) Tryz.underlying204 Tryz.underlying5 G G G hM5 (by decide) ?_
 intro wi5 hM6 mi5
 have Ei5 : Ext w wi5 := Mod.then Ei4 mi5 (fun i hi (e : i = r) => absurd hi (by omega))
 refine WL.insertF (k := 51) (g := 123) (ls := [(33, 115), (28, 115), (37, 117), (29, 117), (38, 118), (30, 118)]) Tryz.underlying204 Tryz.underlying5 G G G hM6 (by decide) ?_
 intro wi6 hM7 mi6
 have Ei6 : Ext w wi6 := Mod.then Ei5 mi6 (fun i hi (e : i = r) => absurd hi (by omega))
 refine WL.insertF (k := 52) (g := 124) (ls := [(33, 115), (28, 115), (37, 117), (29, 117), (38, 118), (30, 118), (51, 123)]) Tryz.underlying204 Tryz.underlying5 G G G hM7 (by decide) ?_
 intro wi7 hM8 mi7
 have Ei7 : Ext w wi7 := Mod.then Ei6 mi7 (fun i hi (e : i = r) => absurd hi (by omega))
 refine WL.insertF (k := 53) (g := 125) (ls := [(33, 115), (28, 115), (37, 117), (29, 117), (38, 118), (30, 118), (51, 123), (52, 124)]) Tryz.underlying204 Tryz.underlying5 G G G hM8 (by decide) ?_
 intro wi8 hM9 mi8
 have Ei8 : Ext w wi8 := Mod.then Ei7 mi8 (fun i hi (e : i = r) => absurd hi (by omega))
 refine WL.insertF (k := 54) (g := 119) (ls := [(33, 115), (28, 115), (37, 117), (29, 117), (38, 118), (30, 118), (51, 123), (52, 124), (53, 125)]) Tryz.underlying204 Tryz.underlying5 G G G hM9 (by decide) ?_
 intro wi9 hM10 mi9
 have Ei9 : Ext w wi9 := Mod.then Ei8 mi9 (fun i hi (e : i = r) => absurd hi (by omega))
 refine WL.insertF (k := 55) (g := 120) (ls := [(33, 115), (28, 115), (37, 117), (29, 117), (38, 118), (30, 118), (51, 123), (52, 124), (53, 125), (54, 119)]) Tryz.underlying204 Tryz.underlying5 G G G hM10 (by decide) ?_
 intro wi10 hM11 mi10
 have Ei10 : Ext w wi10 := Mod.then Ei9 mi10 (fun i hi (e : i = r) => absurd hi (by omega))
 refine WL.insertF (k := 56) (g := 121) (ls := [(33, 115), (28, 115), (37, 117), (29, 117), (38, 118), (30, 118), (51, 123), (52, 124), (53, 125), (54, 119), (55, 120)]) Tryz.underlying204 Tryz.underlying5 G G G hM11 (by decide) ?_
 intro wi11 hM12 mi11
 have Ei11 : Ext w wi11 := Mod.then Ei10 mi11 (fun i hi (e : i = r) => absurd hi (by omega))
 refine WL.insertF (k := 57) (g := 122) (ls := [(33, 115), (28, 115), (37, 117), (29, 117), (38, 118), (30, 118), (51, 123), (52, 124), (53, 125), (54, 119), (55, 120), (56, 121)]) Tryz.underlying204 Tryz.underlying5 G G G hM12 (by decide) ?_
 intro wi12 hM13 mi12
 have Ei12 : Ext w wi12 := Mod.then Ei11 mi12 (fun i hi (e : i = r) => absurd hi (by omega))
 refine Mv (.map (some r)) G (An (.map (some r)) G (Ni (Sr (Mv (.map (some r)) G (Mv (U8 z) G (WL.lookupF (k := z.toNat) (ls := [(33, 115), (28, 115), (37, 117), (29, 117), (38, 118), (30, 118), (51, 123), (52, 124), (53, 125), (54, 119), (55, 120), (56, 121), (57, 122)]) (v := lookM z.toNat) Tryz.underlying204 Tryz.underlying5 zf178 G G hM13 G G (An (lookM z.toNat) G (Ni ?_))))))))
 refine WC.ret ?_
 exact ⟨_, Res.one (v := lookM z.toNat) G G, G, Ei12⟩
theorem reckons_31 (w : World) : CallsR Tryz.prog 88 #[U8 (31#8)] w (fun v w' => FunOk w' v (fun x y => x + y) ∧ Ext w w') := by
 refine callsR_of Tryz.func88 G G G ?_
 refine Sr (An .nilFunc G (Ni (Sq (Sr (Mv (U8 (31#8)) G (Ni (Bk ?_)))))))
 refine Sq (Sr (Bn (v := .bool true) (vy := U8 (31#8)) G G (BinR.toB BinR.eqlU8 (by decide)) (An (.bool true) G (Ni (Ct G (WC.skip (Ct G (Sq ?_))))))))
 refine Rg (An (.func (.func 104) #[] #[]) G (Ni (WC.ret ?_)))
 exact ⟨_, Res.one (v := .func (.func 104) #[] #[]) G G, add_fun _, Mod.refl _ _⟩
theorem reckons_32 (w : World) : CallsR Tryz.prog 88 #[U8 (32#8)] w (fun v w' => FunOk w' v (fun x y => x - y) ∧ Ext w w') := by
 refine callsR_of Tryz.func88 G G G ?_
 refine Sr (An .nilFunc G (Ni (Sq (Sr (Mv (U8 (32#8)) G (Ni (Bk ?_)))))))
 refine Sq (Sq (Nu 31 (Nu 22 (Sr (Bn (v := .bool true) (vy := U8 (32#8)) G G (BinR.toB BinR.eqlU8 (by decide)) (An (.bool true) G (Ni (Ct G ?_))))))))
 refine Sr (An (.func (.func 105) #[] #[]) G (Ni (WC.ret ?_)))
 exact ⟨_, Res.one (v := .func (.func 105) #[] #[]) G G, sub_fun _, Mod.refl _ _⟩
theorem reckons_50 (w : World) : CallsR Tryz.prog 88 #[U8 (50#8)] w (fun v w' => FunOk w' v (fun x y => x * y) ∧ Ext w w') := by
 refine callsR_of Tryz.func88 G G G ?_
 refine Sr (An .nilFunc G (Ni (Sq (Sr (Mv (U8 (50#8)) G (Ni (Bk ?_)))))))
 refine Sq (Sq (Nu 31 (Nu 22 (Sq (Nu 32 (Sq (Sq (Nu 34 (Nu 23 ?_)))))))))
 refine Sq (Sq (Nu 35 (Nu 24 (Sq (Sq (Nu 36 (Nu 25 (Sq (Sq ?_)))))))))
 refine Nu 39 (Nu 26 (Sq (Sq (Nu 40 (Nu 27 (Sr (Bn (v := .bool true) (vy := U8 (50#8)) G G (BinR.toB BinR.eqlU8 (by decide)) (An (.bool true) G ?_))))))))
 refine Ni (Ct G (Sr (An (.func (.func 112) #[] #[]) G (Ni (WC.ret ?_)))))
 exact ⟨_, Res.one (v := .func (.func 112) #[] #[]) G G, mul_fun _, Mod.refl _ _⟩
theorem reckons_11 (w : World) : CallsR Tryz.prog 88 #[U8 (11#8)] w (fun v w' => v = .nilFunc ∧ Ext w w') := (reckons_z (11#8) (by decide) w).mono fun _ _ h => ⟨h.1, h.2⟩
theorem reckons_12 (w : World) : CallsR Tryz.prog 88 #[U8 (12#8)] w (fun v w' => v = .nilFunc ∧ Ext w w') := (reckons_z (12#8) (by decide) w).mono fun _ _ h => ⟨h.1, h.2⟩
theorem reckons_13 (w : World) : CallsR Tryz.prog 88 #[U8 (13#8)] w (fun v w' => v = .nilFunc ∧ Ext w w') := (reckons_z (13#8) (by decide) w).mono fun _ _ h => ⟨h.1, h.2⟩
theorem reckons_14 (w : World) : CallsR Tryz.prog 88 #[U8 (14#8)] w (fun v w' => v = .nilFunc ∧ Ext w w') := (reckons_z (14#8) (by decide) w).mono fun _ _ h => ⟨h.1, h.2⟩
theorem reckons_15 (w : World) : CallsR Tryz.prog 88 #[U8 (15#8)] w (fun v w' => v = .nilFunc ∧ Ext w w') := (reckons_z (15#8) (by decide) w).mono fun _ _ h => ⟨h.1, h.2⟩
theorem reckons_16 (w : World) : CallsR Tryz.prog 88 #[U8 (16#8)] w (fun v w' => v = .nilFunc ∧ Ext w w') := (reckons_z (16#8) (by decide) w).mono fun _ _ h => ⟨h.1, h.2⟩
theorem reckons_17 (w : World) : CallsR Tryz.prog 88 #[U8 (17#8)] w (fun v w' => v = .nilFunc ∧ Ext w w') := (reckons_z (17#8) (by decide) w).mono fun _ _ h => ⟨h.1, h.2⟩
theorem reckons_18 (w : World) : CallsR Tryz.prog 88 #[U8 (18#8)] w (fun v w' => v = .nilFunc ∧ Ext w w') := (reckons_z (18#8) (by decide) w).mono fun _ _ h => ⟨h.1, h.2⟩
theorem reckons_19 (w : World) : CallsR Tryz.prog 88 #[U8 (19#8)] w (fun v w' => v = .nilFunc ∧ Ext w w') := (reckons_z (19#8) (by decide) w).mono fun _ _ h => ⟨h.1, h.2⟩
theorem reckons_20 (w : World) : CallsR Tryz.prog 88 #[U8 (20#8)] w (fun v w' => v = .nilFunc ∧ Ext w w') := (reckons_z (20#8) (by decide) w).mono fun _ _ h => ⟨h.1, h.2⟩
theorem reckons_21 (w : World) : CallsR Tryz.prog 88 #[U8 (21#8)] w (fun v w' => v = .nilFunc ∧ Ext w w') := (reckons_z (21#8) (by decide) w).mono fun _ _ h => ⟨h.1, h.2⟩
theorem reckons_22 (w : World) : CallsR Tryz.prog 88 #[U8 (22#8)] w (fun v w' => FunOk w' v (fun x y => x + y) ∧ Ext w w') := by
 refine callsR_of Tryz.func88 G G G ?_
 refine Sr (An .nilFunc G (Ni (Sq (Sr (Mv (U8 (22#8)) G (Ni (Bk ?_)))))))
 refine Sq (Sq (Nu 31 (Rg (Bn (v := .bool true) (vy := U8 (22#8)) G G (BinR.toB BinR.eqlU8 (by decide)) (An (.bool true) G (Ni (Ct G (Sr ?_))))))))
 refine An (.func (.func 104) #[] #[]) G (Ni (WC.ret ?_))
 exact ⟨_, Res.one (v := .func (.func 104) #[] #[]) G G, add_fun _, Mod.refl _ _⟩
theorem reckons_23 (w : World) : CallsR Tryz.prog 88 #[U8 (23#8)] w (fun v w' => FunOk w' v (fun x y => bitW (BitVec.slt x y)) ∧ Ext w w') := by
 refine callsR_of Tryz.func88 G G G ?_
 refine Sr (An .nilFunc G (Ni (Sq (Sr (Mv (U8 (23#8)) G (Ni (Bk ?_)))))))
 refine Sq (Sq (Nu 31 (Nu 22 (Sq (Nu 32 (Sq (Sq (Nu 34 (Rg ?_)))))))))
 refine Bn (v := .bool true) (vy := U8 (23#8)) G G (BinR.toB BinR.eqlU8 (by decide)) (An (.bool true) G (Ni (Ct G (Sr (An (.func (.func 106) #[] #[]) G (Ni (WC.ret ?_)))))))
 exact ⟨_, Res.one (v := .func (.func 106) #[] #[]) G G, slt_fun _, Mod.refl _ _⟩
theorem reckons_24 (w : World) : CallsR Tryz.prog 88 #[U8 (24#8)] w (fun v w' => FunOk w' v (fun x y => bitW (BitVec.ult x y)) ∧ Ext w w') := by
 refine callsR_of Tryz.func88 G G G ?_
 refine Sr (An .nilFunc G (Ni (Sq (Sr (Mv (U8 (24#8)) G (Ni (Bk ?_)))))))
 refine Sq (Sq (Nu 31 (Nu 22 (Sq (Nu 32 (Sq (Sq (Nu 34 (Nu 23 ?_)))))))))
 refine Sq (Sq (Nu 35 (Rg (Bn (v := .bool true) (vy := U8 (24#8)) G G (BinR.toB BinR.eqlU8 (by decide)) (An (.bool true) G (Ni (Ct G (Sr ?_))))))))
 refine An (.func (.func 108) #[] #[]) G (Ni (WC.ret ?_))
 exact ⟨_, Res.one (v := .func (.func 108) #[] #[]) G G, sltu_fun _, Mod.refl _ _⟩
theorem reckons_25 (w : World) : CallsR Tryz.prog 88 #[U8 (25#8)] w (fun v w' => FunOk w' v (fun x y => x ^^^ y) ∧ Ext w w') := by
 refine callsR_of Tryz.func88 G G G ?_
 refine Sr (An .nilFunc G (Ni (Sq (Sr (Mv (U8 (25#8)) G (Ni (Bk ?_)))))))
 refine Sq (Sq (Nu 31 (Nu 22 (Sq (Nu 32 (Sq (Sq (Nu 34 (Nu 23 ?_)))))))))
 refine Sq (Sq (Nu 35 (Nu 24 (Sq (Sq (Nu 36 (Rg (Bn (v := .bool true) (vy := U8 (25#8)) G G (BinR.toB BinR.eqlU8 (by decide)) (An (.bool true) G ?_)))))))))
 refine Ni (Ct G (Sr (An (.func (.func 109) #[] #[]) G (Ni (WC.ret ?_)))))
 exact ⟨_, Res.one (v := .func (.func 109) #[] #[]) G G, xor_fun _, Mod.refl _ _⟩
theorem reckons_26 (w : World) : CallsR Tryz.prog 88 #[U8 (26#8)] w (fun v w' => FunOk w' v (fun x y => x ||| y) ∧ Ext w w') := by
 refine callsR_of Tryz.func88 G G G ?_
 refine Sr (An .nilFunc G (Ni (Sq (Sr (Mv (U8 (26#8)) G (Ni (Bk ?_)))))))
 refine Sq (Sq (Nu 31 (Nu 22 (Sq (Nu 32 (Sq (Sq (Nu 34 (Nu 23 ?_)))))))))
 refine Sq (Sq (Nu 35 (Nu 24 (Sq (Sq (Nu 36 (Nu 25 (Sq (Sq ?_)))))))))
 refine Nu 39 (Rg (Bn (v := .bool true) (vy := U8 (26#8)) G G (BinR.toB BinR.eqlU8 (by decide)) (An (.bool true) G (Ni (Ct G (Sr (An (.func (.func 110) #[] #[]) G (Ni ?_))))))))
 refine WC.ret ?_
 exact ⟨_, Res.one (v := .func (.func 110) #[] #[]) G G, or_fun _, Mod.refl _ _⟩
theorem reckons_27 (w : World) : CallsR Tryz.prog 88 #[U8 (27#8)] w (fun v w' => FunOk w' v (fun x y => x &&& y) ∧ Ext w w') := by
 refine callsR_of Tryz.func88 G G G ?_
 refine Sr (An .nilFunc G (Ni (Sq (Sr (Mv (U8 (27#8)) G (Ni (Bk ?_)))))))
 refine Sq (Sq (Nu 31 (Nu 22 (Sq (Nu 32 (Sq (Sq (Nu 34 (Nu 23 ?_)))))))))
 refine Sq (Sq (Nu 35 (Nu 24 (Sq (Sq (Nu 36 (Nu 25 (Sq (Sq ?_)))))))))
 refine Nu 39 (Nu 26 (Sq (Sq (Nu 40 (Rg (Bn (v := .bool true) (vy := U8 (27#8)) G G (BinR.toB BinR.eqlU8 (by decide)) (An (.bool true) G (Ni (Ct G ?_)))))))))
 refine Sr (An (.func (.func 111) #[] #[]) G (Ni (WC.ret ?_)))
 exact ⟨_, Res.one (v := .func (.func 111) #[] #[]) G G, and_fun _, Mod.refl _ _⟩
theorem reckons_28 (w : World) : CallsR Tryz.prog 88 #[U8 (28#8)] w (fun v w' => FunOk w' v sllW ∧ Ext w w') := (reckons_z (28#8) (by decide) w).mono fun _ _ h => ⟨h.1 ▸ sll_fun _, h.2⟩
theorem reckons_29 (w : World) : CallsR Tryz.prog 88 #[U8 (29#8)] w (fun v w' => FunOk w' v srlW ∧ Ext w w') := (reckons_z (29#8) (by decide) w).mono fun _ _ h => ⟨h.1 ▸ srl_fun _, h.2⟩
theorem reckons_30 (w : World) : CallsR Tryz.prog 88 #[U8 (30#8)] w (fun v w' => FunOk w' v sraW ∧ Ext w w') := (reckons_z (30#8) (by decide) w).mono fun _ _ h => ⟨h.1 ▸ sra_fun _, h.2⟩
theorem reckons_33 (w : World) : CallsR Tryz.prog 88 #[U8 (33#8)] w (fun v w' => FunOk w' v sllW ∧ Ext w w') := (reckons_z (33#8) (by decide) w).mono fun _ _ h => ⟨h.1 ▸ sll_fun _, h.2⟩
theorem reckons_34 (w : World) : CallsR Tryz.prog 88 #[U8 (34#8)] w (fun v w' => FunOk w' v (fun x y => bitW (BitVec.slt x y)) ∧ Ext w w') := by
 refine callsR_of Tryz.func88 G G G ?_
 refine Sr (An .nilFunc G (Ni (Sq (Sr (Mv (U8 (34#8)) G (Ni (Bk ?_)))))))
 refine Sq (Sq (Nu 31 (Nu 22 (Sq (Nu 32 (Sq (Sr (Bn (v := .bool true) (vy := U8 (34#8)) G G (BinR.toB BinR.eqlU8 (by decide)) ?_))))))))
 refine An (.bool true) G (Ni (Ct G (WC.skip (Ct G (Sr (An (.func (.func 106) #[] #[]) G (Ni (WC.ret ?_))))))))
 exact ⟨_, Res.one (v := .func (.func 106) #[] #[]) G G, slt_fun _, Mod.refl _ _⟩
theorem reckons_35 (w : World) : CallsR Tryz.prog 88 #[U8 (35#8)] w (fun v w' => FunOk w' v (fun x y => bitW (BitVec.ult x y)) ∧ Ext w w') := by
 refine callsR_of Tryz.func88 G G G ?_
 refine Sr (An .nilFunc G (Ni (Sq (Sr (Mv (U8 (35#8)) G (Ni (Bk ?_)))))))
 refine Sq (Sq (Nu 31 (Nu 22 (Sq (Nu 32 (Sq (Sq (Nu 34 (Nu 23 ?_)))))))))
 refine Sq (Sr (Bn (v := .bool true) (vy := U8 (35#8)) G G (BinR.toB BinR.eqlU8 (by decide)) (An (.bool true) G (Ni (Ct G (WC.skip (Ct G (Sq ?_))))))))
 refine Rg (An (.func (.func 108) #[] #[]) G (Ni (WC.ret ?_)))
 exact ⟨_, Res.one (v := .func (.func 108) #[] #[]) G G, sltu_fun _, Mod.refl _ _⟩
theorem reckons_36 (w : World) : CallsR Tryz.prog 88 #[U8 (36#8)] w (fun v w' => FunOk w' v (fun x y => x ^^^ y) ∧ Ext w w') := by
 refine callsR_of Tryz.func88 G G G ?_
 refine Sr (An .nilFunc G (Ni (Sq (Sr (Mv (U8 (36#8)) G (Ni (Bk ?_)))))))
 refine Sq (Sq (Nu 31 (Nu 22 (Sq (Nu 32 (Sq (Sq (Nu 34 (Nu 23 ?_)))))))))
 refine Sq (Sq (Nu 35 (Nu 24 (Sq (Sr (Bn (v := .bool true) (vy := U8 (36#8)) G G (BinR.toB BinR.eqlU8 (by decide)) (An (.bool true) G (Ni ?_))))))))
 refine Ct G (WC.skip (Ct G (Sr (An (.func (.func 109) #[] #[]) G (Ni (WC.ret ?_))))))
 exact ⟨_, Res.one (v := .func (.func 109) #[] #[]) G G, xor_fun _, Mod.refl _ _⟩
theorem reckons_37 (w : World) : CallsR Tryz.prog 88 #[U8 (37#8)] w (fun v w' => FunOk w' v srlW ∧ Ext w w') := (reckons_z (37#8) (by decide) w).mono fun _ _ h => ⟨h.1 ▸ srl_fun _, h.2⟩
theorem reckons_38 (w : World) : CallsR Tryz.prog 88 #[U8 (38#8)] w (fun v w' => FunOk w' v sraW ∧ Ext w w') := (reckons_z (38#8) (by decide) w).mono fun _ _ h => ⟨h.1 ▸ sra_fun _, h.2⟩
theorem reckons_39 (w : World) : CallsR Tryz.prog 88 #[U8 (39#8)] w (fun v w' => FunOk w' v (fun x y => x ||| y) ∧ Ext w w') := by
 refine callsR_of Tryz.func88 G G G ?_
 refine Sr (An .nilFunc G (Ni (Sq (Sr (Mv (U8 (39#8)) G (Ni (Bk ?_)))))))
 refine Sq (Sq (Nu 31 (Nu 22 (Sq (Nu 32 (Sq (Sq (Nu 34 (Nu 23 ?_)))))))))
 refine Sq (Sq (Nu 35 (Nu 24 (Sq (Sq (Nu 36 (Nu 25 (Sq (Sq ?_)))))))))
 refine Rg (Bn (v := .bool true) (vy := U8 (39#8)) G G (BinR.toB BinR.eqlU8 (by decide)) (An (.bool true) G (Ni (Ct G (WC.skip (Ct G (Sr (An (.func (.func 110) #[] #[]) G ?_))))))))
 refine Ni (WC.ret ?_)
 exact ⟨_, Res.one (v := .func (.func 110) #[] #[]) G G, or_fun _, Mod.refl _ _⟩
theorem reckons_40 (w : World) : CallsR Tryz.prog 88 #[U8 (40#8)] w (fun v w' => FunOk w' v (fun x y => x &&& y) ∧ Ext w w') := by
 refine callsR_of Tryz.func88 G G G ?_
 refine Sr (An .nilFunc G (Ni (Sq (Sr (Mv (U8 (40#8)) G (Ni (Bk ?_)))))))
 refine Sq (Sq (Nu 31 (Nu 22 (Sq (Nu 32 (Sq (Sq (Nu 34 (Nu 23 ?_)))))))))
 refine Sq (Sq (Nu 35 (Nu 24 (Sq (Sq (Nu 36 (Nu 25 (Sq (Sq ?_)))))))))
 refine Nu 39 (Nu 26 (Sq (Sr (Bn (v := .bool true) (vy := U8 (40#8)) G G (BinR.toB BinR.eqlU8 (by decide)) (An (.bool true) G (Ni (Ct G (WC.skip ?_))))))))
 refine Ct G (Sr (An (.func (.func 111) #[] #[]) G (Ni (WC.ret ?_))))
 exact ⟨_, Res.one (v := .func (.func 111) #[] #[]) G G, and_fun _, Mod.refl _ _⟩
theorem reckons_41 (w : World) : CallsR Tryz.prog 88 #[U8 (41#8)] w (fun v w' => FunOk w' v (signedF (fun x y => x + y)) ∧ Ext w w') := by
 refine callsR_of Tryz.func88 G G G ?_
 refine Sr (An .nilFunc G (Ni (Sq (Sr (Mv (U8 (41#8)) G (Ni (Bk ?_)))))))
 refine Sq (Sq (Nu 31 (Nu 22 (Sq (Nu 32 (Sq (Sq (Nu 34 (Nu 23 ?_)))))))))
 refine Sq (Sq (Nu 35 (Nu 24 (Sq (Sq (Nu 36 (Nu 25 (Sq (Sq ?_)))))))))
 refine Nu 39 (Nu 26 (Sq (Sq (Nu 40 (Nu 27 (Sq (Nu 50 (Sq (Sq ?_)))))))))
 refine Nu 45 (Rg (Bn (v := .bool true) (vy := U8 (41#8)) G G (BinR.toB BinR.eqlU8 (by decide)) (An (.bool true) G (Ni (Ct G (Sr (WL.call ca88 G G (reckons_31 _) ?_)))))))
 rintro v30 w30 ⟨k30, e30⟩
 have E1 : Ext w w30 := e30
 refine WL.call ca113 G G (signed_spec v30 (fun x y => x + y) _ k30) ?_
 rintro v31 w31 ⟨k31, e31⟩
 have E2 := Mt E1 e31
 refine An v31 G (Ni (WC.ret ?_))
 exact ⟨_, Res.one (v := v31) G G, k31, E2⟩
theorem reckons_42 (w : World) : CallsR Tryz.prog 88 #[U8 (42#8)] w (fun v w' => FunOk w' v (movedF (signedF sllW)) ∧ Ext w w') := by
 refine callsR_of Tryz.func88 G G G ?_
 refine Sr (An .nilFunc G (Ni (Sq (Sr (Mv (U8 (42#8)) G (Ni (Bk ?_)))))))
 refine Sq (Sq (Nu 31 (Nu 22 (Sq (Nu 32 (Sq (Sq (Nu 34 (Nu 23 ?_)))))))))
 refine Sq (Sq (Nu 35 (Nu 24 (Sq (Sq (Nu 36 (Nu 25 (Sq (Sq ?_)))))))))
 refine Nu 39 (Nu 26 (Sq (Sq (Nu 40 (Nu 27 (Sq (Nu 50 (Sq (Sq ?_)))))))))
 refine Nu 45 (Nu 41 (Sq (Nu 46 (Sq (Nu 58 (Sq (Sq (Nu 47 (Rg ?_)))))))))
 refine Bn (v := .bool true) (vy := U8 (42#8)) G G (BinR.toB BinR.eqlU8 (by decide)) (An (.bool true) G (Ni (Ct G (Sr (WL.call ca113 G G (signed_spec (.func (.func 115) #[] #[]) sllW _ (sll_fun _)) ?_)))))
 rintro v43 w43 ⟨k43, e43⟩
 have E1 : Ext w w43 := e43
 refine WL.call ca114 G G (moved_spec v43 (signedF sllW) _ k43) ?_
 rintro v44 w44 ⟨k44, e44⟩
 have E2 := Mt E1 e44
 refine An v44 G (Ni (WC.ret ?_))
 exact ⟨_, Res.one (v := v44) G G, k44, E2⟩
theorem reckons_43 (w : World) : CallsR Tryz.prog 88 #[U8 (43#8)] w (fun v w' => FunOk w' v (movedF (unsignedF srlW)) ∧ Ext w w') := by
 refine callsR_of Tryz.func88 G G G ?_
 refine Sr (An .nilFunc G (Ni (Sq (Sr (Mv (U8 (43#8)) G (Ni (Bk ?_)))))))
 refine Sq (Sq (Nu 31 (Nu 22 (Sq (Nu 32 (Sq (Sq (Nu 34 (Nu 23 ?_)))))))))
 refine Sq (Sq (Nu 35 (Nu 24 (Sq (Sq (Nu 36 (Nu 25 (Sq (Sq ?_)))))))))
 refine Nu 39 (Nu 26 (Sq (Sq (Nu 40 (Nu 27 (Sq (Nu 50 (Sq (Sq ?_)))))))))
 refine Nu 45 (Nu 41 (Sq (Nu 46 (Sq (Nu 58 (Sq (Sq (Nu 47 (Nu 42 ?_)))))))))
 refine Sq (Sq (Nu 48 (Rg (Bn (v := .bool true) (vy := U8 (43#8)) G G (BinR.toB BinR.eqlU8 (by decide)) (An (.bool true) G (Ni (Ct G (Sr ?_))))))))
 refine WL.call ca116 G G (unsigned_spec (.func (.func 117) #[] #[]) srlW _ (srl_fun _)) ?_
 rintro v48 w48 ⟨k48, e48⟩
 have E1 : Ext w w48 := e48
 refine WL.call ca114 G G (moved_spec v48 (unsignedF srlW) _ k48) ?_
 rintro v49 w49 ⟨k49, e49⟩
 have E2 := Mt E1 e49
 refine An v49 G (Ni (WC.ret ?_))
 exact ⟨_, Res.one (v := v49) G G, k49, E2⟩
theorem reckons_44 (w : World) : CallsR Tryz.prog 88 #[U8 (44#8)] w (fun v w' => FunOk w' v (movedF (signedF sraW)) ∧ Ext w w') := by
 refine callsR_of Tryz.func88 G G G ?_
 refine Sr (An .nilFunc G (Ni (Sq (Sr (Mv (U8 (44#8)) G (Ni (Bk ?_)))))))
 refine Sq (Sq (Nu 31 (Nu 22 (Sq (Nu 32 (Sq (Sq (Nu 34 (Nu 23 ?_)))))))))
 refine Sq (Sq (Nu 35 (Nu 24 (Sq (Sq (Nu 36 (Nu 25 (Sq (Sq ?_)))))))))
 refine Nu 39 (Nu 26 (Sq (Sq (Nu 40 (Nu 27 (Sq (Nu 50 (Sq (Sq ?_)))))))))
 refine Nu 45 (Nu 41 (Sq (Nu 46 (Sq (Nu 58 (Sq (Sq (Nu 47 (Nu 42 ?_)))))))))
 refine Sq (Sq (Nu 48 (Nu 43 (Sq (Sq (Nu 49 (Rg (Bn (v := .bool true) (vy := U8 (44#8)) G G (BinR.toB BinR.eqlU8 (by decide)) (An (.bool true) G ?_)))))))))
 refine Ni (Ct G (Sr (WL.call ca113 G G (signed_spec (.func (.func 118) #[] #[]) sraW _ (sra_fun _)) ?_)))
 rintro v53 w53 ⟨k53, e53⟩
 have E1 : Ext w w53 := e53
 refine WL.call ca114 G G (moved_spec v53 (signedF sraW) _ k53) ?_
 rintro v54 w54 ⟨k54, e54⟩
 have E2 := Mt E1 e54
 refine An v54 G (Ni (WC.ret ?_))
 exact ⟨_, Res.one (v := v54) G G, k54, E2⟩
theorem reckons_45 (w : World) : CallsR Tryz.prog 88 #[U8 (45#8)] w (fun v w' => FunOk w' v (signedF (fun x y => x + y)) ∧ Ext w w') := by
 refine callsR_of Tryz.func88 G G G ?_
 refine Sr (An .nilFunc G (Ni (Sq (Sr (Mv (U8 (45#8)) G (Ni (Bk ?_)))))))
 refine Sq (Sq (Nu 31 (Nu 22 (Sq (Nu 32 (Sq (Sq (Nu 34 (Nu 23 ?_)))))))))
 refine Sq (Sq (Nu 35 (Nu 24 (Sq (Sq (Nu 36 (Nu 25 (Sq (Sq ?_)))))))))
 refine Nu 39 (Nu 26 (Sq (Sq (Nu 40 (Nu 27 (Sq (Nu 50 (Sq (Sq ?_)))))))))
 refine Rg (Bn (v := .bool true) (vy := U8 (45#8)) G G (BinR.toB BinR.eqlU8 (by decide)) (An (.bool true) G (Ni (Ct G (WC.skip (Ct G (Sr (WL.call ca88 G G (reckons_31 _) ?_))))))))
 rintro v30 w30 ⟨k30, e30⟩
 have E1 : Ext w w30 := e30
 refine WL.call ca113 G G (signed_spec v30 (fun x y => x + y) _ k30) ?_
 rintro v31 w31 ⟨k31, e31⟩
 have E2 := Mt E1 e31
 refine An v31 G (Ni (WC.ret ?_))
 exact ⟨_, Res.one (v := v31) G G, k31, E2⟩
theorem reckons_46 (w : World) : CallsR Tryz.prog 88 #[U8 (46#8)] w (fun v w' => FunOk w' v (signedF (fun x y => x - y)) ∧ Ext w w') := by
 refine callsR_of Tryz.func88 G G G ?_
 refine Sr (An .nilFunc G (Ni (Sq (Sr (Mv (U8 (46#8)) G (Ni (Bk ?_)))))))
 refine Sq (Sq (Nu 31 (Nu 22 (Sq (Nu 32 (Sq (Sq (Nu 34 (Nu 23 ?_)))))))))
 refine Sq (Sq (Nu 35 (Nu 24 (Sq (Sq (Nu 36 (Nu 25 (Sq (Sq ?_)))))))))
 refine Nu 39 (Nu 26 (Sq (Sq (Nu 40 (Nu 27 (Sq (Nu 50 (Sq (Sq ?_)))))))))
 refine Nu 45 (Nu 41 (Sr (Bn (v := .bool true) (vy := U8 (46#8)) G G (BinR.toB BinR.eqlU8 (by decide)) (An (.bool true) G (Ni (Ct G (Sr ?_)))))))
 refine WL.call ca88 G G (reckons_32 _) ?_
 rintro v34 w34 ⟨k34, e34⟩
 have E1 : Ext w w34 := e34
 refine WL.call ca113 G G (signed_spec v34 (fun x y => x - y) _ k34) ?_
 rintro v35 w35 ⟨k35, e35⟩
 have E2 := Mt E1 e35
 refine An v35 G (Ni (WC.ret ?_))
 exact ⟨_, Res.one (v := v35) G G, k35, E2⟩
theorem reckons_47 (w : World) : CallsR Tryz.prog 88 #[U8 (47#8)] w (fun v w' => FunOk w' v (movedF (signedF sllW)) ∧ Ext w w') := by
 refine callsR_of Tryz.func88 G G G ?_
 refine Sr (An .nilFunc G (Ni (Sq (Sr (Mv (U8 (47#8)) G (Ni (Bk ?_)))))))
 refine Sq (Sq (Nu 31 (Nu 22 (Sq (Nu 32 (Sq (Sq (Nu 34 (Nu 23 ?_)))))))))
 refine Sq (Sq (Nu 35 (Nu 24 (Sq (Sq (Nu 36 (Nu 25 (Sq (Sq ?_)))))))))
 refine Nu 39 (Nu 26 (Sq (Sq (Nu 40 (Nu 27 (Sq (Nu 50 (Sq (Sq ?_)))))))))
 refine Nu 45 (Nu 41 (Sq (Nu 46 (Sq (Nu 58 (Sq (Sr (Bn (v := .bool true) (vy := U8 (47#8)) G G (BinR.toB BinR.eqlU8 (by decide)) ?_))))))))
 refine An (.bool true) G (Ni (Ct G (WC.skip (Ct G (Sr (WL.call ca113 G G (signed_spec (.func (.func 115) #[] #[]) sllW _ (sll_fun _)) ?_))))))
 rintro v43 w43 ⟨k43, e43⟩
 have E1 : Ext w w43 := e43
 refine WL.call ca114 G G (moved_spec v43 (signedF sllW) _ k43) ?_
 rintro v44 w44 ⟨k44, e44⟩
 have E2 := Mt E1 e44
 refine An v44 G (Ni (WC.ret ?_))
 exact ⟨_, Res.one (v := v44) G G, k44, E2⟩
theorem reckons_48 (w : World) : CallsR Tryz.prog 88 #[U8 (48#8)] w (fun v w' => FunOk w' v (movedF (unsignedF srlW)) ∧ Ext w w') := by
 refine callsR_of Tryz.func88 G G G ?_
 refine Sr (An .nilFunc G (Ni (Sq (Sr (Mv (U8 (48#8)) G (Ni (Bk ?_)))))))
 refine Sq (Sq (Nu 31 (Nu 22 (Sq (Nu 32 (Sq (Sq (Nu 34 (Nu 23 ?_)))))))))
 refine Sq (Sq (Nu 35 (Nu 24 (Sq (Sq (Nu 36 (Nu 25 (Sq (Sq ?_)))))))))
 refine Nu 39 (Nu 26 (Sq (Sq (Nu 40 (Nu 27 (Sq (Nu 50 (Sq (Sq ?_)))))))))
 refine Nu 45 (Nu 41 (Sq (Nu 46 (Sq (Nu 58 (Sq (Sq (Nu 47 (Nu 42 ?_)))))))))
 refine Sq (Sr (Bn (v := .bool true) (vy := U8 (48#8)) G G (BinR.toB BinR.eqlU8 (by decide)) (An (.bool true) G (Ni (Ct G (WC.skip (Ct G (Sq ?_))))))))
 refine Rg (WL.call ca116 G G (unsigned_spec (.func (.func 117) #[] #[]) srlW _ (srl_fun _)) ?_)
 rintro v48 w48 ⟨k48, e48⟩
 have E1 : Ext w w48 := e48
 refine WL.call ca114 G G (moved_spec v48 (unsignedF srlW) _ k48) ?_
 rintro v49 w49 ⟨k49, e49⟩
 have E2 := Mt E1 e49
 refine An v49 G (Ni (WC.ret ?_))
 exact ⟨_, Res.one (v := v49) G G, k49, E2⟩
theorem reckons_49 (w : World) : CallsR Tryz.prog 88 #[U8 (49#8)] w (fun v w' => FunOk w' v (movedF (signedF sraW)) ∧ Ext w w') := by
 refine callsR_of Tryz.func88 G G G ?_
 refine Sr (An .nilFunc G (Ni (Sq (Sr (Mv (U8 (49#8)) G (Ni (Bk ?_)))))))
 refine Sq (Sq (Nu 31 (Nu 22 (Sq (Nu 32 (Sq (Sq (Nu 34 (Nu 23 ?_)))))))))
 refine Sq (Sq (Nu 35 (Nu 24 (Sq (Sq (Nu 36 (Nu 25 (Sq (Sq ?_)))))))))
 refine Nu 39 (Nu 26 (Sq (Sq (Nu 40 (Nu 27 (Sq (Nu 50 (Sq (Sq ?_)))))))))
 refine Nu 45 (Nu 41 (Sq (Nu 46 (Sq (Nu 58 (Sq (Sq (Nu 47 (Nu 42 ?_)))))))))
 refine Sq (Sq (Nu 48 (Nu 43 (Sq (Sr (Bn (v := .bool true) (vy := U8 (49#8)) G G (BinR.toB BinR.eqlU8 (by decide)) (An (.bool true) G (Ni ?_))))))))
 refine Ct G (WC.skip (Ct G (Sr (WL.call ca113 G G (signed_spec (.func (.func 118) #[] #[]) sraW _ (sra_fun _)) ?_))))
 rintro v53 w53 ⟨k53, e53⟩
 have E1 : Ext w w53 := e53
 refine WL.call ca114 G G (moved_spec v53 (signedF sraW) _ k53) ?_
 rintro v54 w54 ⟨k54, e54⟩
 have E2 := Mt E1 e54
 refine An v54 G (Ni (WC.ret ?_))
 exact ⟨_, Res.one (v := v54) G G, k54, E2⟩
theorem reckons_51 (w : World) : CallsR Tryz.prog 88 #[U8 (51#8)] w (fun v w' => FunOk w' v mulhW ∧ Ext w w') := (reckons_z (51#8) (by decide) w).mono fun _ _ h => ⟨h.1 ▸ mulh_fun _, h.2⟩
theorem reckons_52 (w : World) : CallsR Tryz.prog 88 #[U8 (52#8)] w (fun v w' => FunOk w' v mulhsuW ∧ Ext w w') := (reckons_z (52#8) (by decide) w).mono fun _ _ h => ⟨h.1 ▸ mulhsu_fun _, h.2⟩
theorem reckons_53 (w : World) : CallsR Tryz.prog 88 #[U8 (53#8)] w (fun v w' => FunOk w' v hiW ∧ Ext w w') := (reckons_z (53#8) (by decide) w).mono fun _ _ h => ⟨h.1 ▸ mulhu_fun _, h.2⟩
theorem reckons_54 (w : World) : CallsR Tryz.prog 88 #[U8 (54#8)] w (fun v w' => FunOk w' v divW ∧ Ext w w') := (reckons_z (54#8) (by decide) w).mono fun _ _ h => ⟨h.1 ▸ div_fun _, h.2⟩
theorem reckons_55 (w : World) : CallsR Tryz.prog 88 #[U8 (55#8)] w (fun v w' => FunOk w' v divuW ∧ Ext w w') := (reckons_z (55#8) (by decide) w).mono fun _ _ h => ⟨h.1 ▸ divu_fun _, h.2⟩
theorem reckons_56 (w : World) : CallsR Tryz.prog 88 #[U8 (56#8)] w (fun v w' => FunOk w' v remW ∧ Ext w w') := (reckons_z (56#8) (by decide) w).mono fun _ _ h => ⟨h.1 ▸ rem_fun _, h.2⟩
theorem reckons_57 (w : World) : CallsR Tryz.prog 88 #[U8 (57#8)] w (fun v w' => FunOk w' v remuW ∧ Ext w w') := (reckons_z (57#8) (by decide) w).mono fun _ _ h => ⟨h.1 ▸ remu_fun _, h.2⟩
theorem reckons_58 (w : World) : CallsR Tryz.prog 88 #[U8 (58#8)] w (fun v w' => FunOk w' v (signedF (fun x y => x * y)) ∧ Ext w w') := by
 refine callsR_of Tryz.func88 G G G ?_
 refine Sr (An .nilFunc G (Ni (Sq (Sr (Mv (U8 (58#8)) G (Ni (Bk ?_)))))))
 refine Sq (Sq (Nu 31 (Nu 22 (Sq (Nu 32 (Sq (Sq (Nu 34 (Nu 23 ?_)))))))))
 refine Sq (Sq (Nu 35 (Nu 24 (Sq (Sq (Nu 36 (Nu 25 (Sq (Sq ?_)))))))))
 refine Nu 39 (Nu 26 (Sq (Sq (Nu 40 (Nu 27 (Sq (Nu 50 (Sq (Sq ?_)))))))))
 refine Nu 45 (Nu 41 (Sq (Nu 46 (Sr (Bn (v := .bool true) (vy := U8 (58#8)) G G (BinR.toB BinR.eqlU8 (by decide)) (An (.bool true) G (Ni (Ct G ?_))))))))
 refine Sr (WL.call ca88 G G (reckons_50 _) ?_)
 rintro v38 w38 ⟨k38, e38⟩
 have E1 : Ext w w38 := e38
 refine WL.call ca113 G G (signed_spec v38 (fun x y => x * y) _ k38) ?_
 rintro v39 w39 ⟨k39, e39⟩
 have E2 := Mt E1 e39
 refine An v39 G (Ni (WC.ret ?_))
 exact ⟨_, Res.one (v := v39) G G, k39, E2⟩
theorem reckons_59 (w : World) : CallsR Tryz.prog 88 #[U8 (59#8)] w (fun v w' => FunOk w' v (signedF divW) ∧ Ext w w') := by
 refine callsR_of Tryz.func88 G G G ?_
 refine Sr (An .nilFunc G (Ni (Sq (Sr (Mv (U8 (59#8)) G (Ni (Bk ?_)))))))
 refine Sq (Sq (Nu 31 (Nu 22 (Sq (Nu 32 (Sq (Sq (Nu 34 (Nu 23 ?_)))))))))
 refine Sq (Sq (Nu 35 (Nu 24 (Sq (Sq (Nu 36 (Nu 25 (Sq (Sq ?_)))))))))
 refine Nu 39 (Nu 26 (Sq (Sq (Nu 40 (Nu 27 (Sq (Nu 50 (Sq (Sq ?_)))))))))
 refine Nu 45 (Nu 41 (Sq (Nu 46 (Sq (Nu 58 (Sq (Sq (Nu 47 (Nu 42 ?_)))))))))
 refine Sq (Sq (Nu 48 (Nu 43 (Sq (Sq (Nu 49 (Nu 44 (Sr ?_))))))))
 refine Bn (v := .bool true) (vy := U8 (59#8)) G G (BinR.toB BinR.eqlU8 (by decide)) (An (.bool true) G (Ni (Ct G (Sr (WL.call ca113 G G (signed_spec (.func (.func 119) #[] #[]) divW _ (div_fun _)) ?_)))))
 rintro v57 w57 ⟨k57, e57⟩
 have E1 : Ext w w57 := e57
 refine An v57 G (Ni (WC.ret ?_))
 exact ⟨_, Res.one (v := v57) G G, k57, E1⟩
theorem reckons_60 (w : World) : CallsR Tryz.prog 88 #[U8 (60#8)] w (fun v w' => FunOk w' v (unsignedF divuW) ∧ Ext w w') := by
 refine callsR_of Tryz.func88 G G G ?_
 refine Sr (An .nilFunc G (Ni (Sq (Sr (Mv (U8 (60#8)) G (Ni (Bk ?_)))))))
 refine Sq (Sq (Nu 31 (Nu 22 (Sq (Nu 32 (Sq (Sq (Nu 34 (Nu 23 ?_)))))))))
 refine Sq (Sq (Nu 35 (Nu 24 (Sq (Sq (Nu 36 (Nu 25 (Sq (Sq ?_)))))))))
 refine Nu 39 (Nu 26 (Sq (Sq (Nu 40 (Nu 27 (Sq (Nu 50 (Sq (Sq ?_)))))))))
 refine Nu 45 (Nu 41 (Sq (Nu 46 (Sq (Nu 58 (Sq (Sq (Nu 47 (Nu 42 ?_)))))))))
 refine Sq (Sq (Nu 48 (Nu 43 (Sq (Sq (Nu 49 (Nu 44 (Sq (Nu 59 ?_)))))))))
 refine Sr (Bn (v := .bool true) (vy := U8 (60#8)) G G (BinR.toB BinR.eqlU8 (by decide)) (An (.bool true) G (Ni (Ct G (Sr (WL.call ca116 G G (unsigned_spec (.func (.func 120) #[] #[]) divuW _ (divu_fun _)) ?_))))))
 rintro v60 w60 ⟨k60, e60⟩
 have E1 : Ext w w60 := e60
 refine An v60 G (Ni (WC.ret ?_))
 exact ⟨_, Res.one (v := v60) G G, k60, E1⟩
theorem reckons_61 (w : World) : CallsR Tryz.prog 88 #[U8 (61#8)] w (fun v w' => FunOk w' v (signedF remW) ∧ Ext w w') := by
 refine callsR_of Tryz.func88 G G G ?_
 refine Sr (An .nilFunc G (Ni (Sq (Sr (Mv (U8 (61#8)) G (Ni (Bk ?_)))))))
 refine Sq (Sq (Nu 31 (Nu 22 (Sq (Nu 32 (Sq (Sq (Nu 34 (Nu 23 ?_)))))))))
 refine Sq (Sq (Nu 35 (Nu 24 (Sq (Sq (Nu 36 (Nu 25 (Sq (Sq ?_)))))))))
 refine Nu 39 (Nu 26 (Sq (Sq (Nu 40 (Nu 27 (Sq (Nu 50 (Sq (Sq ?_)))))))))
 refine Nu 45 (Nu 41 (Sq (Nu 46 (Sq (Nu 58 (Sq (Sq (Nu 47 (Nu 42 ?_)))))))))
 refine Sq (Sq (Nu 48 (Nu 43 (Sq (Sq (Nu 49 (Nu 44 (Sq (Nu 59 ?_)))))))))
 refine Sq (Nu 60 (Sr (Bn (v := .bool true) (vy := U8 (61#8)) G G (BinR.toB BinR.eqlU8 (by decide)) (An (.bool true) G (Ni (Ct G (Sr ?_)))))))
 refine WL.call ca113 G G (signed_spec (.func (.func 121) #[] #[]) remW _ (rem_fun _)) ?_
 rintro v63 w63 ⟨k63, e63⟩
 have E1 : Ext w w63 := e63
 refine An v63 G (Ni (WC.ret ?_))
 exact ⟨_, Res.one (v := v63) G G, k63, E1⟩
theorem reckons_62 (w : World) : CallsR Tryz.prog 88 #[U8 (62#8)] w (fun v w' => FunOk w' v (unsignedF remuW) ∧ Ext w w') := by
 refine callsR_of Tryz.func88 G G G ?_
 refine Sr (An .nilFunc G (Ni (Sq (Sr (Mv (U8 (62#8)) G (Ni (Bk ?_)))))))
 refine Sq (Sq (Nu 31 (Nu 22 (Sq (Nu 32 (Sq (Sq (Nu 34 (Nu 23 ?_)))))))))
 refine Sq (Sq (Nu 35 (Nu 24 (Sq (Sq (Nu 36 (Nu 25 (Sq (Sq ?_)))))))))
 refine Nu 39 (Nu 26 (Sq (Sq (Nu 40 (Nu 27 (Sq (Nu 50 (Sq (Sq ?_)))))))))
 refine Nu 45 (Nu 41 (Sq (Nu 46 (Sq (Nu 58 (Sq (Sq (Nu 47 (Nu 42 ?_)))))))))
 refine Sq (Sq (Nu 48 (Nu 43 (Sq (Sq (Nu 49 (Nu 44 (Sq (Nu 59 ?_)))))))))
 refine Sq (Nu 60 (Sq (Nu 61 (Sr (Bn (v := .bool true) (vy := U8 (62#8)) G G (BinR.toB BinR.eqlU8 (by decide)) (An (.bool true) G (Ni (Ct G ?_))))))))
 refine Sr (WL.call ca116 G G (unsigned_spec (.func (.func 122) #[] #[]) remuW _ (remu_fun _)) ?_)
 rintro v66 w66 ⟨k66, e66⟩
 have E1 : Ext w w66 := e66
 refine An v66 G (Ni (WC.ret ?_))
 exact ⟨_, Res.one (v := v66) G G, k66, E1⟩
theorem reckons_63 (w : World) : CallsR Tryz.prog 88 #[U8 (63#8)] w (fun v w' => v = .nilFunc ∧ Ext w w') := (reckons_z (63#8) (by decide) w).mono fun _ _ h => ⟨h.1, h.2⟩
theorem reckons_64 (w : World) : CallsR Tryz.prog 88 #[U8 (64#8)] w (fun v w' => v = .nilFunc ∧ Ext w w') := (reckons_z (64#8) (by decide) w).mono fun _ _ h => ⟨h.1, h.2⟩
theorem reckons_65 (w : World) : CallsR Tryz.prog 88 #[U8 (65#8)] w (fun v w' => v = .nilFunc ∧ Ext w w') := (reckons_z (65#8) (by decide) w).mono fun _ _ h => ⟨h.1, h.2⟩
end Go.Proofs.N
end
