/- Steps of the proof, packed by program: McW9 McS8 McA1. -/
import Derived.Test.YtlabgjcjccdjfaaGreatDoorRows
import Derived.Test.YtlabgjcjccdjfaaGreatDoorMpackQ02
import Derived.Test.YtlabgjcjccdjfaaGreatDoorMpackQ05
set_option linter.unusedVariables false
set_option linter.unusedSimpArgs false
set_option linter.unnecessarySimpa false
section
set_option linter.unusedSimpArgs false
set_option linter.unusedVariables false
namespace Go.Proofs.M
open Go Go.Ux Go.Ux.Mach Go.Proofs
def overW (f : RvForm) : BitVec 64 := 1#64 <<< width f
def fitsF (f : RvForm) (n : BitVec 64) : Bool :=
  let least := if f.signed then (-(overW f)).sdiv 2#64 else 0#64
  let over := if f.signed then (overW f).sdiv 2#64 else overW f
  BitVec.sle least n && BitVec.slt n over && ((n &&& ((1#64 <<< f.noughts) - 1#64)) == 0#64)
theorem fits_spec (fm : RvForm) (iv : Value) (x : BitVec 64) (w : World) (hI : Sl w iv 2 fm.imm.length (bitsCells fm.imm)) (hf : Fine fm) : CallsR Tryz.prog 50 #[.agg #[.bool (fm.rd), .bool (fm.rs1), .bool (fm.rs2), iv, IN (fm.noughts), .bool (fm.signed), U32 (fm.mask)], I64 (x)] w (fun v w' => v = .bool (fitsF fm x) ∧ Ext w w') := by
  have hf0 := hf
  obtain ⟨hf1, hf2, hf3, hf4⟩ := hf0
  refine callsR_of Tryz.func50 rfl rfl rfl ?_
  refine WC.seq (WC.region (WL.box (v := .agg #[.bool (fm.rd), .bool (fm.rs1), .bool (fm.rs2), iv, IN (fm.noughts), .bool (fm.signed), U32 (fm.mask)]) rfl rfl ?_))
  intro b2 w2 n2
  have E1 : Ext w w2 := Mod.trans (Mod.refl _ _) (n2.ext)
  refine WL.assign (v := .bool (false)) rfl rfl (WL.nil (WC.seq (WC.draw (fun w_ => Ext w2 w_) 5 rfl mixed ?_)))
  intro wd_1 ed_1
  have R2 : Ext w2 wd_1 := Mod.trans (Mod.refl _ _) (ed_1)
  have E3 : Ext w wd_1 := Mod.trans (E1) (ed_1)
  refine WA.take (i := 0) (m' := 1) (v := .agg #[.bool (fm.rd), .bool (fm.rs1), .bool (fm.rs2), iv, IN (fm.noughts), .bool (fm.signed), U32 (fm.mask)]) rfl rfl rfl rfl (by kernel_rfl) rfl (fun _ _ _ h => h) (fun wx hS => ?_) (R2) ?_
  · have B5 := (n2.blk).ext (hS)
    exact WL.loadS [.bool (fm.rd), .bool (fm.rs1), .bool (fm.rs2), iv, IN (fm.noughts), .bool (fm.signed), U32 (fm.mask)] rfl ag116 sz116 rfl (B5.sub (o := 0) (vs := [.bool (fm.rd), .bool (fm.rs1), .bool (fm.rs2), iv, IN (fm.noughts), .bool (fm.signed), U32 (fm.mask)]) rfl) rfl (WL.nil ⟨rfl, rfl, rfl⟩)
  refine WA.one (i := 1) (m' := 3) (by kernel_rfl) rfl rfl ?_
  refine WL.call ca85 (rfl) rfl (width_spec fm iv _ ((hI).ext' (E3)) hf) ?_
  rintro _ wd8 ⟨rfl, ed8⟩
  have R6 : Ext w2 wd8 := Mod.trans (R2) (ed8)
  have E7 : Ext w wd8 := Mod.trans (E3) (ed8)
  refine WL.behind (R6) ?_
  refine WA.take (i := 2) (m' := 7) (v := I64 (1#64 <<< width fm)) rfl rfl rfl rfl (by kernel_rfl) rfl (fun _ _ _ h => h) (fun wx hS => ?_) (R6) ?_
  · exact WL.bin (vx := I64 1#64) rfl rfl rfl (BinR.shl64 (s := width fm)) (WL.nil ⟨rfl, rfl, rfl⟩)
  refine WA.take (i := 3) (m' := 15) (v := I64 (0#64)) rfl rfl rfl rfl (by kernel_rfl) rfl (fun _ _ _ h => h) (fun wx hS => ?_) (R6) ?_
  · exact WL.assign (v := I64 (0#64)) rfl rfl (WL.nil ⟨rfl, rfl, rfl⟩)
  refine WA.take (i := 4) (m' := 31) (v := I64 (1#64 <<< width fm)) rfl rfl rfl rfl (by kernel_rfl) rfl (fun _ _ _ h => h) (fun wx hS => ?_) (R6) ?_
  · exact WL.assign (v := I64 (1#64 <<< width fm)) rfl rfl (WL.nil ⟨rfl, rfl, rfl⟩)
  refine WA.done (by kernel_rfl) ?_
  refine WC.seq (WC.seq (WC.region (WL.fieldAddr rfl fo116_5 rfl ?_)))
  have B11 := ((n2.blk).ext (ed_1)).ext (ed8)
  refine WL.load1 rfl ag4 (B11.cell (j := 5) rfl) rfl (WL.nil ?_)
  refine WC.cond rfl (fun hc11 => ?_) (fun hc11 => ?_)
  · refine WC.region (WL.move (v := I64 (1#64 <<< width fm)) rfl rfl (WL.un rfl rfl UnR.neg64 (WL.bin rfl (vy := I64 (2#64)) rfl rfl (BinR.quo64 (by decide)) (WL.move (v := I64 (1#64 <<< width fm)) rfl rfl (WL.bin rfl (vy := I64 (2#64)) rfl rfl (BinR.quo64 (by decide)) (WL.assign (v := I64 ((-(1#64 <<< width fm)).sdiv 2#64)) rfl rfl (WL.assign (v := I64 ((1#64 <<< width fm).sdiv 2#64)) rfl rfl (WL.nil (WC.seq ?_)))))))))
    refine WC.region (WL.move (v := I64 (x)) rfl rfl (WL.move (v := I64 ((-(1#64 <<< width fm)).sdiv 2#64)) rfl rfl (WL.bin rfl rfl rfl (BinR.geq64) (WL.move (v := .bool (BitVec.sle ((-(1#64 <<< width fm)).sdiv 2#64) (x))) rfl rfl ?_))))
    rcases Bool.eq_false_or_eq_true (BitVec.sle ((-(1#64 <<< width fm)).sdiv 2#64) (x)) with hg20 | hg20
    · refine WL.guardT (yf_bool rfl rfl hg20) (WL.move (v := I64 (x)) rfl rfl (WL.guardT (yf_bool rfl rfl hg20) (WL.move (v := I64 ((1#64 <<< width fm).sdiv 2#64)) rfl rfl (WL.guardT (yf_bool rfl rfl hg20) (WL.bin rfl rfl rfl (BinR.lss64) (WL.pick (b := true) (congrArg Value.bool hg20) rfl rfl (WL.move (v := .bool (BitVec.slt (x) ((1#64 <<< width fm).sdiv 2#64))) rfl rfl ?_)))))))
      rcases Bool.eq_false_or_eq_true (BitVec.slt (x) ((1#64 <<< width fm).sdiv 2#64)) with hg25 | hg25
      · refine WL.guardT (yf_bool rfl rfl hg25) (WL.move (v := I64 (x)) rfl rfl (WL.guardT (yf_bool rfl rfl hg25) (WL.fieldAddr rfl fo116_4 rfl (WL.guardT (yf_bool rfl rfl hg25) (WL.load1 rfl ag3 (B11.cell (j := 4) rfl) rfl (WL.guardT (yf_bool rfl rfl hg25) (WL.bin (vx := I64 1#64) rfl rfl rfl (BinR.shl64 (s := fm.noughts)) (WL.guardT (yf_bool rfl rfl hg25) (WL.bin rfl (vy := I64 (1#64)) rfl rfl (BinR.sub64) ?_)))))))))
        refine WL.guardT (yf_bool rfl rfl hg25) (WL.bin rfl rfl rfl (BinR.and64) (WL.guardT (yf_bool rfl rfl hg25) (WL.bin rfl (vy := I64 (0#64)) rfl rfl (BinR.eql64) (WL.pick (b := true) (congrArg Value.bool hg25) rfl rfl (WL.assign (v := .bool (((x &&& (1#64 <<< fm.noughts - 1#64)) == 0#64))) rfl rfl (WL.nil (WC.ret ?_)))))))
        have hfin : ((.bool (((x &&& (1#64 <<< fm.noughts - 1#64)) == 0#64))) : Value) = Value.bool (fitsF fm x) := congrArg Value.bool (by simp only [fitsF, overW, *, if_true, if_false, Bool.false_eq_true, Bool.true_or, Bool.or_true, Bool.false_or, Bool.or_false, Bool.true_and, Bool.and_true, Bool.false_and, Bool.and_false])
        exact ⟨_, Res.one (v := .bool (((x &&& (1#64 <<< fm.noughts - 1#64)) == 0#64))) rfl rfl, hfin, E7⟩
      · refine WL.guardF (b' := false) (yf_bool rfl rfl hg25) rfl rfl (WL.guardF (b' := false) (yf_bool rfl rfl hg25) rfl rfl (WL.guardF (b' := false) (yf_bool rfl rfl hg25) rfl rfl (WL.guardF (b' := false) (yf_bool rfl rfl hg25) rfl rfl (WL.guardF (b' := false) (yf_bool rfl rfl hg25) rfl rfl (WL.guardF (b' := false) (yf_bool rfl rfl hg25) rfl rfl (WL.guardF (b' := false) (yf_bool rfl rfl hg25) rfl rfl (WL.pick (b := false) (congrArg Value.bool hg25) rfl rfl (WL.assign (v := .bool (false)) rfl rfl (WL.nil ?_)))))))))
        refine WC.ret ?_
        have hfin : ((.bool (false)) : Value) = Value.bool (fitsF fm x) := congrArg Value.bool (by simp only [fitsF, overW, *, if_true, if_false, Bool.false_eq_true, Bool.true_or, Bool.or_true, Bool.false_or, Bool.or_false, Bool.true_and, Bool.and_true, Bool.false_and, Bool.and_false])
        exact ⟨_, Res.one (v := .bool (false)) rfl rfl, hfin, E7⟩
    · refine WL.guardF (b' := false) (yf_bool rfl rfl hg20) rfl rfl (WL.guardF (b' := false) (yf_bool rfl rfl hg20) rfl rfl (WL.guardF (b' := false) (yf_bool rfl rfl hg20) rfl rfl (WL.pick (b := false) (congrArg Value.bool hg20) rfl rfl (WL.move (v := .bool (false)) rfl rfl (WL.guardF (b' := false) (rfl) rfl rfl (WL.guardF (b' := false) (rfl) rfl rfl (WL.guardF (b' := false) (rfl) rfl rfl (WL.guardF (b' := false) (rfl) rfl rfl (WL.guardF (b' := false) (rfl) rfl rfl ?_)))))))))
      refine WL.guardF (b' := false) (rfl) rfl rfl (WL.guardF (b' := false) (rfl) rfl rfl (WL.pick (b := false) rfl rfl rfl (WL.assign (v := .bool (false)) rfl rfl (WL.nil (WC.ret ?_)))))
      have hfin : ((.bool (false)) : Value) = Value.bool (fitsF fm x) := congrArg Value.bool (by simp only [fitsF, overW, *, if_true, if_false, Bool.false_eq_true, Bool.true_or, Bool.or_true, Bool.false_or, Bool.or_false, Bool.true_and, Bool.and_true, Bool.false_and, Bool.and_false])
      exact ⟨_, Res.one (v := .bool (false)) rfl rfl, hfin, E7⟩
  · refine WC.skip (WC.seq (WC.region (WL.move (v := I64 (x)) rfl rfl (WL.move (v := I64 (0#64)) rfl rfl (WL.bin rfl rfl rfl (BinR.geq64) (WL.move (v := .bool (BitVec.sle (0#64) (x))) rfl rfl ?_))))))
    rcases Bool.eq_false_or_eq_true (BitVec.sle (0#64) (x)) with hg20 | hg20
    · refine WL.guardT (yf_bool rfl rfl hg20) (WL.move (v := I64 (x)) rfl rfl (WL.guardT (yf_bool rfl rfl hg20) (WL.move (v := I64 (1#64 <<< width fm)) rfl rfl (WL.guardT (yf_bool rfl rfl hg20) (WL.bin rfl rfl rfl (BinR.lss64) (WL.pick (b := true) (congrArg Value.bool hg20) rfl rfl (WL.move (v := .bool (BitVec.slt (x) (1#64 <<< width fm))) rfl rfl ?_)))))))
      rcases Bool.eq_false_or_eq_true (BitVec.slt (x) (1#64 <<< width fm)) with hg25 | hg25
      · refine WL.guardT (yf_bool rfl rfl hg25) (WL.move (v := I64 (x)) rfl rfl (WL.guardT (yf_bool rfl rfl hg25) (WL.fieldAddr rfl fo116_4 rfl (WL.guardT (yf_bool rfl rfl hg25) (WL.load1 rfl ag3 (B11.cell (j := 4) rfl) rfl (WL.guardT (yf_bool rfl rfl hg25) (WL.bin (vx := I64 1#64) rfl rfl rfl (BinR.shl64 (s := fm.noughts)) (WL.guardT (yf_bool rfl rfl hg25) (WL.bin rfl (vy := I64 (1#64)) rfl rfl (BinR.sub64) ?_)))))))))
        refine WL.guardT (yf_bool rfl rfl hg25) (WL.bin rfl rfl rfl (BinR.and64) (WL.guardT (yf_bool rfl rfl hg25) (WL.bin rfl (vy := I64 (0#64)) rfl rfl (BinR.eql64) (WL.pick (b := true) (congrArg Value.bool hg25) rfl rfl (WL.assign (v := .bool (((x &&& (1#64 <<< fm.noughts - 1#64)) == 0#64))) rfl rfl (WL.nil (WC.ret ?_)))))))
        have hfin : ((.bool (((x &&& (1#64 <<< fm.noughts - 1#64)) == 0#64))) : Value) = Value.bool (fitsF fm x) := congrArg Value.bool (by simp only [fitsF, overW, *, if_true, if_false, Bool.false_eq_true, Bool.true_or, Bool.or_true, Bool.false_or, Bool.or_false, Bool.true_and, Bool.and_true, Bool.false_and, Bool.and_false])
        exact ⟨_, Res.one (v := .bool (((x &&& (1#64 <<< fm.noughts - 1#64)) == 0#64))) rfl rfl, hfin, E7⟩
      · refine WL.guardF (b' := false) (yf_bool rfl rfl hg25) rfl rfl (WL.guardF (b' := false) (yf_bool rfl rfl hg25) rfl rfl (WL.guardF (b' := false) (yf_bool rfl rfl hg25) rfl rfl (WL.guardF (b' := false) (yf_bool rfl rfl hg25) rfl rfl (WL.guardF (b' := false) (yf_bool rfl rfl hg25) rfl rfl (WL.guardF (b' := false) (yf_bool rfl rfl hg25) rfl rfl (WL.guardF (b' := false) (yf_bool rfl rfl hg25) rfl rfl (WL.pick (b := false) (congrArg Value.bool hg25) rfl rfl (WL.assign (v := .bool (false)) rfl rfl (WL.nil ?_)))))))))
        refine WC.ret ?_
        have hfin : ((.bool (false)) : Value) = Value.bool (fitsF fm x) := congrArg Value.bool (by simp only [fitsF, overW, *, if_true, if_false, Bool.false_eq_true, Bool.true_or, Bool.or_true, Bool.false_or, Bool.or_false, Bool.true_and, Bool.and_true, Bool.false_and, Bool.and_false])
        exact ⟨_, Res.one (v := .bool (false)) rfl rfl, hfin, E7⟩
    · refine WL.guardF (b' := false) (yf_bool rfl rfl hg20) rfl rfl (WL.guardF (b' := false) (yf_bool rfl rfl hg20) rfl rfl (WL.guardF (b' := false) (yf_bool rfl rfl hg20) rfl rfl (WL.pick (b := false) (congrArg Value.bool hg20) rfl rfl (WL.move (v := .bool (false)) rfl rfl (WL.guardF (b' := false) (rfl) rfl rfl (WL.guardF (b' := false) (rfl) rfl rfl (WL.guardF (b' := false) (rfl) rfl rfl (WL.guardF (b' := false) (rfl) rfl rfl (WL.guardF (b' := false) (rfl) rfl rfl ?_)))))))))
      refine WL.guardF (b' := false) (rfl) rfl rfl (WL.guardF (b' := false) (rfl) rfl rfl (WL.pick (b := false) rfl rfl rfl (WL.assign (v := .bool (false)) rfl rfl (WL.nil (WC.ret ?_)))))
      have hfin : ((.bool (false)) : Value) = Value.bool (fitsF fm x) := congrArg Value.bool (by simp only [fitsF, overW, *, if_true, if_false, Bool.false_eq_true, Bool.true_or, Bool.or_true, Bool.false_or, Bool.or_false, Bool.true_and, Bool.and_true, Bool.false_and, Bool.and_false])
      exact ⟨_, Res.one (v := .bool (false)) rfl rfl, hfin, E7⟩
end Go.Proofs.M
end
section
set_option linter.unusedSimpArgs false
set_option linter.unusedVariables false
namespace Go.Proofs.S
open Go Go.Ux Go.Ux.Mach Go.Proofs
theorem fo48_0 : fieldOff Tryz.prog 48 0 = some 0 := by kernel_rfl
theorem ag5 : isAggT Tryz.prog 5 = some false := by kernel_rfl
theorem ca48 : callable Tryz.prog 48 = true := by kernel_rfl
theorem zt118 : zeroT Tryz.prog 118 = some #[.bool false, .bool false, .bool false, .slice none 0 0, .int .i64 0, .bool false, .int .u32 0, .string ⟨#[]⟩, .int .u32 0] := by kernel_rfl
theorem sz118 : sizeT Tryz.prog 118 = some 9 := by kernel_rfl
theorem fo118_0 : fieldOff Tryz.prog 118 0 = some 0 := by kernel_rfl
theorem fo116_0 : fieldOff Tryz.prog 116 0 = some 0 := by kernel_rfl
theorem fo48_1 : fieldOff Tryz.prog 48 1 = some 1 := by kernel_rfl
theorem ca49 : callable Tryz.prog 49 = true := by kernel_rfl
theorem fo116_1 : fieldOff Tryz.prog 116 1 = some 1 := by kernel_rfl
theorem fo48_2 : fieldOff Tryz.prog 48 2 = some 2 := by kernel_rfl
theorem fo116_2 : fieldOff Tryz.prog 116 2 = some 2 := by kernel_rfl
theorem fo48_3 : fieldOff Tryz.prog 48 3 = some 3 := by kernel_rfl
theorem fo116_3 : fieldOff Tryz.prog 116 3 = some 3 := by kernel_rfl
theorem ag114 : isAggT Tryz.prog 114 = some false := by kernel_rfl
theorem el114 : elemT Tryz.prog 114 = some 125 := by kernel_rfl
theorem fo48_4 : fieldOff Tryz.prog 48 4 = some 4 := by kernel_rfl
theorem ag116 : isAggT Tryz.prog 116 = some true := by kernel_rfl
theorem sz116 : sizeT Tryz.prog 116 = some 7 := by kernel_rfl
theorem ca50 : callable Tryz.prog 50 = true := by kernel_rfl
theorem fo118_2 : fieldOff Tryz.prog 118 2 = some 8 := by kernel_rfl
theorem ca52 : callable Tryz.prog 52 = true := by kernel_rfl
theorem bls28_88o1 (p q r s t : BitVec 32) : ∀ w : World, (Instr.buildSlice 23 5 #[(0, U32 (p)), (1, U32 (q)), (2, U32 (r)), (3, U32 (s)), (4, U32 (t))]).run Tryz.prog w = .ok (.slice (some ⟨w.heap.size, 0, none⟩) 5 5) (w.alloc (.cells #[U32 (p), U32 (q), U32 (r), U32 (s), U32 (t)] 50)) := fun _ => by kernel_rfl
theorem ca51 : callable Tryz.prog 51 = true := by kernel_rfl
theorem bls28_88o0 (p q r s t : BitVec 32) : ∀ w : World, (Instr.buildSlice 23 5 #[(0, U32 (p)), (1, U32 (q)), (2, U32 (r)), (3, U32 (s)), (4, U32 (t))]).run Tryz.prog w = .ok (.slice (some ⟨w.heap.size, 0, none⟩) 5 5) (w.alloc (.cells #[U32 (p), U32 (q), U32 (r), U32 (s), U32 (t)] 50)) := fun _ => by kernel_rfl
open Go.Proofs.M (instV Glob mayF may_spec of_no of_ok fitsF fits_spec together_spec)
def encBad (a : RvInst) : Bool := !(mayF (formOf (rvAt a.op.toNat).k).rd a.rd) || (!(mayF (formOf (rvAt a.op.toNat).k).rs1 a.rs1) || (!(mayF (formOf (rvAt a.op.toNat).k).rs2 a.rs2) || (((((formOf (rvAt a.op.toNat).k).imm.length : Nat) : Int) == (0 : Int)) && (a.imm != 0#64))))
def encW (a : RvInst) : BitVec 32 := tog [(rvAt a.op.toNat).mtch, a.rd.setWidth 32 <<< 7, a.rs1.setWidth 32 <<< 15, a.rs2.setWidth 32 <<< 20, spreadF (formOf (rvAt a.op.toNat).k) a.imm]
def encodeR (a : RvInst) : BitVec 32 × Nat :=
  if a.op.toNat < 1 ∨ 66 ≤ a.op.toNat then (0#32, 100)
  else if encBad a then (0#32, 100)
  else if !(fitsF (formOf (rvAt a.op.toNat).k) a.imm) then (0#32, 101)
  else (encW a, 0)
set_option maxRecDepth 100000 in
theorem enc_no (a : RvInst) (w : World) (hG : Glob w) (ho : a.op.toNat < 1 ∨ 66 ≤ a.op.toNat) : CallsR Tryz.prog 28 #[.agg #[U8 (a.op), U8 (a.rd), U8 (a.rs1), U8 (a.rs2), I64 (a.imm)]] w (fun v w' => v = .tuple #[U32 0#32, .int .i64 100] ∧ Ext w w') := by
  refine callsR_of Tryz.func28 rfl rfl rfl ?_
  refine WC.seq (WC.region (WL.box (v := .agg #[U8 (a.op), U8 (a.rd), U8 (a.rs1), U8 (a.rs2), I64 (a.imm)]) rfl rfl ?_))
  intro b1 w1 n1
  have E1 : Ext w w1 := Mod.trans (Mod.refl _ _) (n1.ext)
  refine WL.assign (v := U32 (0#32)) rfl rfl (WL.assign (v := IN (0)) rfl rfl (WL.nil (WC.seq (WC.region (WL.fieldAddr rfl fo48_0 rfl (WL.load1 rfl ag5 (n1.blk.cell (j := 0) rfl) rfl (WL.call ca48 (rfl) rfl (of_no a.op _ (hG.ext (E1)) ho) ?_)))))))
  rintro _ wof ⟨rfl, eof⟩
  have E2 : Ext w wof := Mod.trans (E1) (eof)
  refine WL.move (v := .tuple #[rowVal (.slice none 0 0) zeroRow, .bool false]) rfl rfl (WL.extract rfl rfl rfl (WL.extract rfl rfl rfl (WL.allocStore (v := .agg #[.bool ((formOf zeroRow.k).rd), .bool ((formOf zeroRow.k).rs1), .bool ((formOf zeroRow.k).rs2), (.slice none 0 0), IN ((formOf zeroRow.k).noughts), .bool ((formOf zeroRow.k).signed), U32 ((formOf zeroRow.k).mask), St zeroRow.name, U32 (zeroRow.mtch)]) zt118 rfl sz118 rfl rfl rfl rfl ?_)))
  intro b4 w4 n4
  have E3 : Ext w w4 := Mod.trans (E2) (n4.ext)
  refine WL.assign (v := .bool (false)) rfl rfl (WL.nil (WC.seq (WC.region (WL.assign (v := .func (.func 49) #[] #[]) rfl rfl (WL.nil (WC.seq (WC.seq (WC.region (WL.move (v := .bool (false)) rfl rfl ?_)))))))))
  refine WL.un rfl rfl UnR.not (WL.move (v := .bool (true)) rfl rfl (WL.guardF (b' := true) (rfl) rfl rfl (WL.guardF (b' := true) (rfl) rfl rfl (WL.guardF (b' := true) (rfl) rfl rfl (WL.guardF (b' := true) (rfl) rfl rfl (WL.guardF (b' := true) (rfl) rfl rfl (WL.guardF (b' := true) (rfl) rfl rfl (WL.guardF (b' := true) (rfl) rfl rfl (WL.guardF (b' := true) (rfl) rfl rfl ?_)))))))))
  refine WL.pick (b := true) rfl rfl rfl (WL.move (v := .bool (true)) rfl rfl (WL.guardF (b' := true) (rfl) rfl rfl (WL.guardF (b' := true) (rfl) rfl rfl (WL.guardF (b' := true) (rfl) rfl rfl (WL.guardF (b' := true) (rfl) rfl rfl (WL.guardF (b' := true) (rfl) rfl rfl (WL.guardF (b' := true) (rfl) rfl rfl (WL.guardF (b' := true) (rfl) rfl rfl (WL.guardF (b' := true) (rfl) rfl rfl ?_)))))))))
  refine WL.pick (b := true) rfl rfl rfl (WL.move (v := .bool (true)) rfl rfl (WL.guardF (b' := true) (rfl) rfl rfl (WL.guardF (b' := true) (rfl) rfl rfl (WL.guardF (b' := true) (rfl) rfl rfl (WL.guardF (b' := true) (rfl) rfl rfl (WL.guardF (b' := true) (rfl) rfl rfl (WL.guardF (b' := true) (rfl) rfl rfl (WL.guardF (b' := true) (rfl) rfl rfl (WL.guardF (b' := true) (rfl) rfl rfl ?_)))))))))
  refine WL.pick (b := true) rfl rfl rfl (WL.move (v := .bool (true)) rfl rfl (WL.guardF (b' := true) (rfl) rfl rfl (WL.guardF (b' := true) (rfl) rfl rfl (WL.guardF (b' := true) (rfl) rfl rfl (WL.guardF (b' := true) (rfl) rfl rfl (WL.guardF (b' := true) (rfl) rfl rfl (WL.guardF (b' := true) (rfl) rfl rfl (WL.guardU rfl rfl (WL.guardU rfl rfl ?_)))))))))
  refine WL.guardU rfl rfl (WL.guardF (b' := true) (rfl) rfl rfl (WL.pick (b := true) rfl rfl rfl (WL.nil (WC.condT rfl (WC.seq (WC.region (WL.assign (v := U32 (0#32)) rfl rfl (WL.assign (v := IN (100)) rfl rfl (WL.nil ?_)))))))))
  refine WC.ret ?_
  exact ⟨_, Res.two (v := U32 (0#32)) (v' := IN (100)) rfl rfl rfl, rfl, E3⟩
set_option maxRecDepth 100000 in
theorem enc_bad1 (a : RvInst) (w : World) (hG : Glob w) (ho1 : 1 ≤ a.op.toNat) (ho2 : a.op.toNat < 66) (m1 : mayF (formOf (rvAt a.op.toNat).k).rd a.rd = false) : CallsR Tryz.prog 28 #[.agg #[U8 (a.op), U8 (a.rd), U8 (a.rs1), U8 (a.rs2), I64 (a.imm)]] w (fun v w' => v = .tuple #[U32 0#32, .int .i64 100] ∧ Ext w w') := by
  refine callsR_of Tryz.func28 rfl rfl rfl ?_
  refine WC.seq (WC.region (WL.box (v := .agg #[U8 (a.op), U8 (a.rd), U8 (a.rs1), U8 (a.rs2), I64 (a.imm)]) rfl rfl ?_))
  intro b1 w1 n1
  have E1 : Ext w w1 := Mod.trans (Mod.refl _ _) (n1.ext)
  refine WL.assign (v := U32 (0#32)) rfl rfl (WL.assign (v := IN (0)) rfl rfl (WL.nil (WC.seq (WC.region (WL.fieldAddr rfl fo48_0 rfl (WL.load1 rfl ag5 (n1.blk.cell (j := 0) rfl) rfl (WL.call ca48 (rfl) rfl (of_ok a.op _ (hG.ext (E1)) ho1 ho2) ?_)))))))
  rintro _ wof ⟨iv, rfl, hIV, eof⟩
  have E2 : Ext w wof := Mod.trans (E1) (eof)
  refine WL.move (v := .tuple #[rowVal iv (rvAt a.op.toNat), .bool true]) rfl rfl (WL.extract rfl rfl rfl (WL.extract rfl rfl rfl (WL.allocStore (v := .agg #[.bool ((formOf (rvAt a.op.toNat).k).rd), .bool ((formOf (rvAt a.op.toNat).k).rs1), .bool ((formOf (rvAt a.op.toNat).k).rs2), iv, IN ((formOf (rvAt a.op.toNat).k).noughts), .bool ((formOf (rvAt a.op.toNat).k).signed), U32 ((formOf (rvAt a.op.toNat).k).mask), St (rvAt a.op.toNat).name, U32 ((rvAt a.op.toNat).mtch)]) zt118 rfl sz118 rfl rfl (ones_row hIV.one _ _ _ _ _ _ _ _) rfl ?_)))
  intro b4 w4 n4
  have E3 : Ext w w4 := Mod.trans (E2) (n4.ext)
  refine WL.assign (v := .bool (true)) rfl rfl (WL.nil (WC.seq (WC.region (WL.assign (v := .func (.func 49) #[] #[]) rfl rfl (WL.nil (WC.seq (WC.seq (WC.region (WL.move (v := .bool (true)) rfl rfl ?_)))))))))
  refine WL.un rfl rfl UnR.not (WL.move (v := .bool (false)) rfl rfl (WL.guardT (rfl) (WL.move (v := .func (.func 49) #[] #[]) rfl rfl (WL.guardT (rfl) (WL.fieldAddr rfl fo118_0 rfl (WL.guardT (rfl) (WL.fieldAddr rfl fo116_0 rfl (WL.guardT (rfl) (WL.load1 rfl ag4 (n4.blk.cell (j := 0) rfl) rfl ?_)))))))))
  refine WL.guardT (rfl) (WL.fieldAddr rfl fo48_1 rfl (WL.guardT (rfl) ?_))
  have B4 := ((n1.blk).ext (eof)).ext (n4.ext)
  refine WL.load1 rfl ag5 (B4.cell (j := 1) rfl) rfl (WL.guardT (rfl) (WL.callV (fs := #[]) (cs := #[]) rfl ca49 (rfl) rfl (may_spec (formOf (rvAt a.op.toNat).k).rd a.rd _) ?_))
  rintro _ wm22 ⟨rfl, em22⟩
  rw [m1]
  have E5 : Ext w wm22 := Mod.trans (E3) (em22)
  refine WL.guardT (rfl) (WL.un rfl rfl UnR.not (WL.pick (b := false) rfl rfl rfl (WL.move (v := .bool (true)) rfl rfl (WL.guardF (b' := true) (rfl) rfl rfl (WL.guardF (b' := true) (rfl) rfl rfl (WL.guardF (b' := true) (rfl) rfl rfl (WL.guardF (b' := true) (rfl) rfl rfl (WL.guardF (b' := true) (rfl) rfl rfl (WL.guardF (b' := true) (rfl) rfl rfl ?_)))))))))
  refine WL.guardF (b' := true) (rfl) rfl rfl (WL.guardF (b' := true) (rfl) rfl rfl (WL.pick (b := true) rfl rfl rfl (WL.move (v := .bool (true)) rfl rfl (WL.guardF (b' := true) (rfl) rfl rfl (WL.guardF (b' := true) (rfl) rfl rfl (WL.guardF (b' := true) (rfl) rfl rfl (WL.guardF (b' := true) (rfl) rfl rfl (WL.guardF (b' := true) (rfl) rfl rfl (WL.guardF (b' := true) (rfl) rfl rfl ?_)))))))))
  refine WL.guardF (b' := true) (rfl) rfl rfl (WL.guardF (b' := true) (rfl) rfl rfl (WL.pick (b := true) rfl rfl rfl (WL.move (v := .bool (true)) rfl rfl (WL.guardF (b' := true) (rfl) rfl rfl (WL.guardF (b' := true) (rfl) rfl rfl (WL.guardF (b' := true) (rfl) rfl rfl (WL.guardF (b' := true) (rfl) rfl rfl (WL.guardF (b' := true) (rfl) rfl rfl (WL.guardF (b' := true) (rfl) rfl rfl ?_)))))))))
  refine WL.guardU rfl rfl (WL.guardU rfl rfl (WL.guardU rfl rfl (WL.guardF (b' := true) (rfl) rfl rfl (WL.pick (b := true) rfl rfl rfl (WL.nil (WC.condT rfl (WC.seq (WC.region (WL.assign (v := U32 (0#32)) rfl rfl ?_)))))))))
  refine WL.assign (v := IN (100)) rfl rfl (WL.nil (WC.ret ?_))
  exact ⟨_, Res.two (v := U32 (0#32)) (v' := IN (100)) rfl rfl rfl, rfl, E5⟩
set_option maxRecDepth 100000 in
theorem enc_bad2 (a : RvInst) (w : World) (hG : Glob w) (ho1 : 1 ≤ a.op.toNat) (ho2 : a.op.toNat < 66) (m1 : mayF (formOf (rvAt a.op.toNat).k).rd a.rd = true) (m2 : mayF (formOf (rvAt a.op.toNat).k).rs1 a.rs1 = false) : CallsR Tryz.prog 28 #[.agg #[U8 (a.op), U8 (a.rd), U8 (a.rs1), U8 (a.rs2), I64 (a.imm)]] w (fun v w' => v = .tuple #[U32 0#32, .int .i64 100] ∧ Ext w w') := by
  refine callsR_of Tryz.func28 rfl rfl rfl ?_
  refine WC.seq (WC.region (WL.box (v := .agg #[U8 (a.op), U8 (a.rd), U8 (a.rs1), U8 (a.rs2), I64 (a.imm)]) rfl rfl ?_))
  intro b1 w1 n1
  have E1 : Ext w w1 := Mod.trans (Mod.refl _ _) (n1.ext)
  refine WL.assign (v := U32 (0#32)) rfl rfl (WL.assign (v := IN (0)) rfl rfl (WL.nil (WC.seq (WC.region (WL.fieldAddr rfl fo48_0 rfl (WL.load1 rfl ag5 (n1.blk.cell (j := 0) rfl) rfl (WL.call ca48 (rfl) rfl (of_ok a.op _ (hG.ext (E1)) ho1 ho2) ?_)))))))
  rintro _ wof ⟨iv, rfl, hIV, eof⟩
  have E2 : Ext w wof := Mod.trans (E1) (eof)
  refine WL.move (v := .tuple #[rowVal iv (rvAt a.op.toNat), .bool true]) rfl rfl (WL.extract rfl rfl rfl (WL.extract rfl rfl rfl (WL.allocStore (v := .agg #[.bool ((formOf (rvAt a.op.toNat).k).rd), .bool ((formOf (rvAt a.op.toNat).k).rs1), .bool ((formOf (rvAt a.op.toNat).k).rs2), iv, IN ((formOf (rvAt a.op.toNat).k).noughts), .bool ((formOf (rvAt a.op.toNat).k).signed), U32 ((formOf (rvAt a.op.toNat).k).mask), St (rvAt a.op.toNat).name, U32 ((rvAt a.op.toNat).mtch)]) zt118 rfl sz118 rfl rfl (ones_row hIV.one _ _ _ _ _ _ _ _) rfl ?_)))
  intro b4 w4 n4
  have E3 : Ext w w4 := Mod.trans (E2) (n4.ext)
  refine WL.assign (v := .bool (true)) rfl rfl (WL.nil (WC.seq (WC.region (WL.assign (v := .func (.func 49) #[] #[]) rfl rfl (WL.nil (WC.seq (WC.seq (WC.region (WL.move (v := .bool (true)) rfl rfl ?_)))))))))
  refine WL.un rfl rfl UnR.not (WL.move (v := .bool (false)) rfl rfl (WL.guardT (rfl) (WL.move (v := .func (.func 49) #[] #[]) rfl rfl (WL.guardT (rfl) (WL.fieldAddr rfl fo118_0 rfl (WL.guardT (rfl) (WL.fieldAddr rfl fo116_0 rfl (WL.guardT (rfl) (WL.load1 rfl ag4 (n4.blk.cell (j := 0) rfl) rfl ?_)))))))))
  refine WL.guardT (rfl) (WL.fieldAddr rfl fo48_1 rfl (WL.guardT (rfl) ?_))
  have B4 := ((n1.blk).ext (eof)).ext (n4.ext)
  refine WL.load1 rfl ag5 (B4.cell (j := 1) rfl) rfl (WL.guardT (rfl) (WL.callV (fs := #[]) (cs := #[]) rfl ca49 (rfl) rfl (may_spec (formOf (rvAt a.op.toNat).k).rd a.rd _) ?_))
  rintro _ wm22 ⟨rfl, em22⟩
  rw [m1]
  have E5 : Ext w wm22 := Mod.trans (E3) (em22)
  refine WL.guardT (rfl) (WL.un rfl rfl UnR.not (WL.pick (b := false) rfl rfl rfl (WL.move (v := .bool (false)) rfl rfl (WL.guardT (rfl) (WL.move (v := .func (.func 49) #[] #[]) rfl rfl (WL.guardT (rfl) (WL.fieldAddr rfl fo118_0 rfl (WL.guardT (rfl) (WL.fieldAddr rfl fo116_1 rfl ?_)))))))))
  refine WL.guardT (rfl) ?_
  have B6 := (n4.blk).ext (em22)
  refine WL.load1 rfl ag4 (B6.cell (j := 1) rfl) rfl (WL.guardT (rfl) (WL.fieldAddr rfl fo48_2 rfl (WL.guardT (rfl) ?_)))
  have B7 := (B4).ext (em22)
  refine WL.load1 rfl ag5 (B7.cell (j := 2) rfl) rfl (WL.guardT (rfl) (WL.callV (fs := #[]) (cs := #[]) rfl ca49 (rfl) rfl (may_spec (formOf (rvAt a.op.toNat).k).rs1 a.rs1 _) ?_))
  rintro _ wm32 ⟨rfl, em32⟩
  rw [m2]
  have E8 : Ext w wm32 := Mod.trans (E5) (em32)
  refine WL.guardT (rfl) (WL.un rfl rfl UnR.not (WL.pick (b := false) rfl rfl rfl (WL.move (v := .bool (true)) rfl rfl (WL.guardF (b' := true) (rfl) rfl rfl (WL.guardF (b' := true) (rfl) rfl rfl (WL.guardF (b' := true) (rfl) rfl rfl (WL.guardF (b' := true) (rfl) rfl rfl (WL.guardF (b' := true) (rfl) rfl rfl (WL.guardF (b' := true) (rfl) rfl rfl ?_)))))))))
  refine WL.guardF (b' := true) (rfl) rfl rfl (WL.guardF (b' := true) (rfl) rfl rfl (WL.pick (b := true) rfl rfl rfl (WL.move (v := .bool (true)) rfl rfl (WL.guardF (b' := true) (rfl) rfl rfl (WL.guardF (b' := true) (rfl) rfl rfl (WL.guardF (b' := true) (rfl) rfl rfl (WL.guardF (b' := true) (rfl) rfl rfl (WL.guardF (b' := true) (rfl) rfl rfl (WL.guardF (b' := true) (rfl) rfl rfl ?_)))))))))
  refine WL.guardU rfl rfl (WL.guardU rfl rfl (WL.guardU rfl rfl (WL.guardF (b' := true) (rfl) rfl rfl (WL.pick (b := true) rfl rfl rfl (WL.nil (WC.condT rfl (WC.seq (WC.region (WL.assign (v := U32 (0#32)) rfl rfl ?_)))))))))
  refine WL.assign (v := IN (100)) rfl rfl (WL.nil (WC.ret ?_))
  exact ⟨_, Res.two (v := U32 (0#32)) (v' := IN (100)) rfl rfl rfl, rfl, E8⟩
set_option maxRecDepth 100000 in
theorem enc_bad3 (a : RvInst) (w : World) (hG : Glob w) (ho1 : 1 ≤ a.op.toNat) (ho2 : a.op.toNat < 66) (m1 : mayF (formOf (rvAt a.op.toNat).k).rd a.rd = true) (m2 : mayF (formOf (rvAt a.op.toNat).k).rs1 a.rs1 = true) (m3 : mayF (formOf (rvAt a.op.toNat).k).rs2 a.rs2 = false) : CallsR Tryz.prog 28 #[.agg #[U8 (a.op), U8 (a.rd), U8 (a.rs1), U8 (a.rs2), I64 (a.imm)]] w (fun v w' => v = .tuple #[U32 0#32, .int .i64 100] ∧ Ext w w') := by
  refine callsR_of Tryz.func28 rfl rfl rfl ?_
  refine WC.seq (WC.region (WL.box (v := .agg #[U8 (a.op), U8 (a.rd), U8 (a.rs1), U8 (a.rs2), I64 (a.imm)]) rfl rfl ?_))
  intro b1 w1 n1
  have E1 : Ext w w1 := Mod.trans (Mod.refl _ _) (n1.ext)
  refine WL.assign (v := U32 (0#32)) rfl rfl (WL.assign (v := IN (0)) rfl rfl (WL.nil (WC.seq (WC.region (WL.fieldAddr rfl fo48_0 rfl (WL.load1 rfl ag5 (n1.blk.cell (j := 0) rfl) rfl (WL.call ca48 (rfl) rfl (of_ok a.op _ (hG.ext (E1)) ho1 ho2) ?_)))))))
  rintro _ wof ⟨iv, rfl, hIV, eof⟩
  have E2 : Ext w wof := Mod.trans (E1) (eof)
  refine WL.move (v := .tuple #[rowVal iv (rvAt a.op.toNat), .bool true]) rfl rfl (WL.extract rfl rfl rfl (WL.extract rfl rfl rfl (WL.allocStore (v := .agg #[.bool ((formOf (rvAt a.op.toNat).k).rd), .bool ((formOf (rvAt a.op.toNat).k).rs1), .bool ((formOf (rvAt a.op.toNat).k).rs2), iv, IN ((formOf (rvAt a.op.toNat).k).noughts), .bool ((formOf (rvAt a.op.toNat).k).signed), U32 ((formOf (rvAt a.op.toNat).k).mask), St (rvAt a.op.toNat).name, U32 ((rvAt a.op.toNat).mtch)]) zt118 rfl sz118 rfl rfl (ones_row hIV.one _ _ _ _ _ _ _ _) rfl ?_)))
  intro b4 w4 n4
  have E3 : Ext w w4 := Mod.trans (E2) (n4.ext)
  refine WL.assign (v := .bool (true)) rfl rfl (WL.nil (WC.seq (WC.region (WL.assign (v := .func (.func 49) #[] #[]) rfl rfl (WL.nil (WC.seq (WC.seq (WC.region (WL.move (v := .bool (true)) rfl rfl ?_)))))))))
  refine WL.un rfl rfl UnR.not (WL.move (v := .bool (false)) rfl rfl (WL.guardT (rfl) (WL.move (v := .func (.func 49) #[] #[]) rfl rfl (WL.guardT (rfl) (WL.fieldAddr rfl fo118_0 rfl (WL.guardT (rfl) (WL.fieldAddr rfl fo116_0 rfl (WL.guardT (rfl) (WL.load1 rfl ag4 (n4.blk.cell (j := 0) rfl) rfl ?_)))))))))
  refine WL.guardT (rfl) (WL.fieldAddr rfl fo48_1 rfl (WL.guardT (rfl) ?_))
  have B4 := ((n1.blk).ext (eof)).ext (n4.ext)
  refine WL.load1 rfl ag5 (B4.cell (j := 1) rfl) rfl (WL.guardT (rfl) (WL.callV (fs := #[]) (cs := #[]) rfl ca49 (rfl) rfl (may_spec (formOf (rvAt a.op.toNat).k).rd a.rd _) ?_))
  rintro _ wm22 ⟨rfl, em22⟩
  rw [m1]
  have E5 : Ext w wm22 := Mod.trans (E3) (em22)
  refine WL.guardT (rfl) (WL.un rfl rfl UnR.not (WL.pick (b := false) rfl rfl rfl (WL.move (v := .bool (false)) rfl rfl (WL.guardT (rfl) (WL.move (v := .func (.func 49) #[] #[]) rfl rfl (WL.guardT (rfl) (WL.fieldAddr rfl fo118_0 rfl (WL.guardT (rfl) (WL.fieldAddr rfl fo116_1 rfl ?_)))))))))
  refine WL.guardT (rfl) ?_
  have B6 := (n4.blk).ext (em22)
  refine WL.load1 rfl ag4 (B6.cell (j := 1) rfl) rfl (WL.guardT (rfl) (WL.fieldAddr rfl fo48_2 rfl (WL.guardT (rfl) ?_)))
  have B7 := (B4).ext (em22)
  refine WL.load1 rfl ag5 (B7.cell (j := 2) rfl) rfl (WL.guardT (rfl) (WL.callV (fs := #[]) (cs := #[]) rfl ca49 (rfl) rfl (may_spec (formOf (rvAt a.op.toNat).k).rs1 a.rs1 _) ?_))
  rintro _ wm32 ⟨rfl, em32⟩
  rw [m2]
  have E8 : Ext w wm32 := Mod.trans (E5) (em32)
  refine WL.guardT (rfl) (WL.un rfl rfl UnR.not (WL.pick (b := false) rfl rfl rfl (WL.move (v := .bool (false)) rfl rfl (WL.guardT (rfl) (WL.move (v := .func (.func 49) #[] #[]) rfl rfl (WL.guardT (rfl) (WL.fieldAddr rfl fo118_0 rfl (WL.guardT (rfl) (WL.fieldAddr rfl fo116_2 rfl ?_)))))))))
  refine WL.guardT (rfl) ?_
  have B9 := (B6).ext (em32)
  refine WL.load1 rfl ag4 (B9.cell (j := 2) rfl) rfl (WL.guardT (rfl) (WL.fieldAddr rfl fo48_3 rfl (WL.guardT (rfl) ?_)))
  have B10 := (B7).ext (em32)
  refine WL.load1 rfl ag5 (B10.cell (j := 3) rfl) rfl (WL.guardT (rfl) (WL.callV (fs := #[]) (cs := #[]) rfl ca49 (rfl) rfl (may_spec (formOf (rvAt a.op.toNat).k).rs2 a.rs2 _) ?_))
  rintro _ wm42 ⟨rfl, em42⟩
  rw [m3]
  have E11 : Ext w wm42 := Mod.trans (E8) (em42)
  refine WL.guardT (rfl) (WL.un rfl rfl UnR.not (WL.pick (b := false) rfl rfl rfl (WL.move (v := .bool (true)) rfl rfl (WL.guardF (b' := true) (rfl) rfl rfl (WL.guardF (b' := true) (rfl) rfl rfl (WL.guardF (b' := true) (rfl) rfl rfl (WL.guardF (b' := true) (rfl) rfl rfl (WL.guardF (b' := true) (rfl) rfl rfl (WL.guardF (b' := true) (rfl) rfl rfl ?_)))))))))
  refine WL.guardU rfl rfl (WL.guardU rfl rfl (WL.guardU rfl rfl (WL.guardF (b' := true) (rfl) rfl rfl (WL.pick (b := true) rfl rfl rfl (WL.nil (WC.condT rfl (WC.seq (WC.region (WL.assign (v := U32 (0#32)) rfl rfl ?_)))))))))
  refine WL.assign (v := IN (100)) rfl rfl (WL.nil (WC.ret ?_))
  exact ⟨_, Res.two (v := U32 (0#32)) (v' := IN (100)) rfl rfl rfl, rfl, E11⟩
set_option maxRecDepth 100000 in
theorem enc_bad4 (a : RvInst) (w : World) (hG : Glob w) (ho1 : 1 ≤ a.op.toNat) (ho2 : a.op.toNat < 66) (m1 : mayF (formOf (rvAt a.op.toNat).k).rd a.rd = true) (m2 : mayF (formOf (rvAt a.op.toNat).k).rs1 a.rs1 = true) (m3 : mayF (formOf (rvAt a.op.toNat).k).rs2 a.rs2 = true) (hi : ((((formOf (rvAt a.op.toNat).k).imm.length : Nat) : Int) == (0 : Int)) = true) (hn : (a.imm != 0#64) = true) : CallsR Tryz.prog 28 #[.agg #[U8 (a.op), U8 (a.rd), U8 (a.rs1), U8 (a.rs2), I64 (a.imm)]] w (fun v w' => v = .tuple #[U32 0#32, .int .i64 100] ∧ Ext w w') := by
  refine callsR_of Tryz.func28 rfl rfl rfl ?_
  refine WC.seq (WC.region (WL.box (v := .agg #[U8 (a.op), U8 (a.rd), U8 (a.rs1), U8 (a.rs2), I64 (a.imm)]) rfl rfl ?_))
  intro b1 w1 n1
  have E1 : Ext w w1 := Mod.trans (Mod.refl _ _) (n1.ext)
  refine WL.assign (v := U32 (0#32)) rfl rfl (WL.assign (v := IN (0)) rfl rfl (WL.nil (WC.seq (WC.region (WL.fieldAddr rfl fo48_0 rfl (WL.load1 rfl ag5 (n1.blk.cell (j := 0) rfl) rfl (WL.call ca48 (rfl) rfl (of_ok a.op _ (hG.ext (E1)) ho1 ho2) ?_)))))))
  rintro _ wof ⟨iv, rfl, hIV, eof⟩
  have E2 : Ext w wof := Mod.trans (E1) (eof)
  refine WL.move (v := .tuple #[rowVal iv (rvAt a.op.toNat), .bool true]) rfl rfl (WL.extract rfl rfl rfl (WL.extract rfl rfl rfl (WL.allocStore (v := .agg #[.bool ((formOf (rvAt a.op.toNat).k).rd), .bool ((formOf (rvAt a.op.toNat).k).rs1), .bool ((formOf (rvAt a.op.toNat).k).rs2), iv, IN ((formOf (rvAt a.op.toNat).k).noughts), .bool ((formOf (rvAt a.op.toNat).k).signed), U32 ((formOf (rvAt a.op.toNat).k).mask), St (rvAt a.op.toNat).name, U32 ((rvAt a.op.toNat).mtch)]) zt118 rfl sz118 rfl rfl (ones_row hIV.one _ _ _ _ _ _ _ _) rfl ?_)))
  intro b4 w4 n4
  have E3 : Ext w w4 := Mod.trans (E2) (n4.ext)
  refine WL.assign (v := .bool (true)) rfl rfl (WL.nil (WC.seq (WC.region (WL.assign (v := .func (.func 49) #[] #[]) rfl rfl (WL.nil (WC.seq (WC.seq (WC.region (WL.move (v := .bool (true)) rfl rfl ?_)))))))))
  refine WL.un rfl rfl UnR.not (WL.move (v := .bool (false)) rfl rfl (WL.guardT (rfl) (WL.move (v := .func (.func 49) #[] #[]) rfl rfl (WL.guardT (rfl) (WL.fieldAddr rfl fo118_0 rfl (WL.guardT (rfl) (WL.fieldAddr rfl fo116_0 rfl (WL.guardT (rfl) (WL.load1 rfl ag4 (n4.blk.cell (j := 0) rfl) rfl ?_)))))))))
  refine WL.guardT (rfl) (WL.fieldAddr rfl fo48_1 rfl (WL.guardT (rfl) ?_))
  have B4 := ((n1.blk).ext (eof)).ext (n4.ext)
  refine WL.load1 rfl ag5 (B4.cell (j := 1) rfl) rfl (WL.guardT (rfl) (WL.callV (fs := #[]) (cs := #[]) rfl ca49 (rfl) rfl (may_spec (formOf (rvAt a.op.toNat).k).rd a.rd _) ?_))
  rintro _ wm22 ⟨rfl, em22⟩
  rw [m1]
  have E5 : Ext w wm22 := Mod.trans (E3) (em22)
  refine WL.guardT (rfl) (WL.un rfl rfl UnR.not (WL.pick (b := false) rfl rfl rfl (WL.move (v := .bool (false)) rfl rfl (WL.guardT (rfl) (WL.move (v := .func (.func 49) #[] #[]) rfl rfl (WL.guardT (rfl) (WL.fieldAddr rfl fo118_0 rfl (WL.guardT (rfl) (WL.fieldAddr rfl fo116_1 rfl ?_)))))))))
  refine WL.guardT (rfl) ?_
  have B6 := (n4.blk).ext (em22)
  refine WL.load1 rfl ag4 (B6.cell (j := 1) rfl) rfl (WL.guardT (rfl) (WL.fieldAddr rfl fo48_2 rfl (WL.guardT (rfl) ?_)))
  have B7 := (B4).ext (em22)
  refine WL.load1 rfl ag5 (B7.cell (j := 2) rfl) rfl (WL.guardT (rfl) (WL.callV (fs := #[]) (cs := #[]) rfl ca49 (rfl) rfl (may_spec (formOf (rvAt a.op.toNat).k).rs1 a.rs1 _) ?_))
  rintro _ wm32 ⟨rfl, em32⟩
  rw [m2]
  have E8 : Ext w wm32 := Mod.trans (E5) (em32)
  refine WL.guardT (rfl) (WL.un rfl rfl UnR.not (WL.pick (b := false) rfl rfl rfl (WL.move (v := .bool (false)) rfl rfl (WL.guardT (rfl) (WL.move (v := .func (.func 49) #[] #[]) rfl rfl (WL.guardT (rfl) (WL.fieldAddr rfl fo118_0 rfl (WL.guardT (rfl) (WL.fieldAddr rfl fo116_2 rfl ?_)))))))))
  refine WL.guardT (rfl) ?_
  have B9 := (B6).ext (em32)
  refine WL.load1 rfl ag4 (B9.cell (j := 2) rfl) rfl (WL.guardT (rfl) (WL.fieldAddr rfl fo48_3 rfl (WL.guardT (rfl) ?_)))
  have B10 := (B7).ext (em32)
  refine WL.load1 rfl ag5 (B10.cell (j := 3) rfl) rfl (WL.guardT (rfl) (WL.callV (fs := #[]) (cs := #[]) rfl ca49 (rfl) rfl (may_spec (formOf (rvAt a.op.toNat).k).rs2 a.rs2 _) ?_))
  rintro _ wm42 ⟨rfl, em42⟩
  rw [m3]
  have E11 : Ext w wm42 := Mod.trans (E8) (em42)
  refine WL.guardT (rfl) (WL.un rfl rfl UnR.not (WL.pick (b := false) rfl rfl rfl (WL.move (v := .bool (false)) rfl rfl (WL.guardT (rfl) (WL.fieldAddr rfl fo118_0 rfl (WL.guardT (rfl) (WL.fieldAddr rfl fo116_3 rfl (WL.guardT (rfl) ?_))))))))
  have B12 := (B9).ext (em42)
  refine WL.load1 rfl ag114 (B12.cell (j := 3) rfl) rfl (WL.guardT (rfl) ?_)
  have S13 := ((((hIV).ext' (n4.ext)).ext' (em22)).ext' (em32)).ext' (em42)
  refine WL.lenSl (sz := 2) (m := (formOf (rvAt a.op.toNat).k).imm.length) (xs := bitsCells (formOf (rvAt a.op.toNat).k).imm) el114 rfl (S13) rfl (WL.guardT (rfl) (WL.bin (v := .bool (true)) rfl rfl rfl (BinR.toB (BinR.eql) (hi)) (WL.guardT (rfl) (WL.move (v := .bool (true)) rfl rfl (WL.guardT (rfl) (WL.fieldAddr rfl fo48_4 rfl (WL.guardT (rfl) ?_)))))))
  have B14 := (B10).ext (em42)
  refine WL.load1 rfl ag2 (B14.cell (j := 4) rfl) rfl (WL.guardT (rfl) (WL.bin (v := .bool (true)) rfl (vy := I64 (0#64)) rfl rfl (BinR.toB (BinR.neq64) (hn)) (WL.guardT (rfl) (WL.pick (b := true) rfl rfl rfl (WL.pick (b := false) rfl rfl rfl (WL.nil (WC.condT rfl (WC.seq (WC.region ?_)))))))))
  refine WL.assign (v := U32 (0#32)) rfl rfl (WL.assign (v := IN (100)) rfl rfl (WL.nil (WC.ret ?_)))
  exact ⟨_, Res.two (v := U32 (0#32)) (v' := IN (100)) rfl rfl rfl, rfl, E11⟩
set_option maxRecDepth 100000 in
theorem enc_rangeTrue (a : RvInst) (w : World) (hG : Glob w) (ho1 : 1 ≤ a.op.toNat) (ho2 : a.op.toNat < 66) (m1 : mayF (formOf (rvAt a.op.toNat).k).rd a.rd = true) (m2 : mayF (formOf (rvAt a.op.toNat).k).rs1 a.rs1 = true) (m3 : mayF (formOf (rvAt a.op.toNat).k).rs2 a.rs2 = true) (hi : ((((formOf (rvAt a.op.toNat).k).imm.length : Nat) : Int) == (0 : Int)) = true)  (hn : (a.imm != 0#64) = false) (hf : fitsF (formOf (rvAt a.op.toNat).k) a.imm = false) : CallsR Tryz.prog 28 #[.agg #[U8 (a.op), U8 (a.rd), U8 (a.rs1), U8 (a.rs2), I64 (a.imm)]] w (fun v w' => v = .tuple #[U32 0#32, .int .i64 101] ∧ Ext w w') := by
  refine callsR_of Tryz.func28 rfl rfl rfl ?_
  refine WC.seq (WC.region (WL.box (v := .agg #[U8 (a.op), U8 (a.rd), U8 (a.rs1), U8 (a.rs2), I64 (a.imm)]) rfl rfl ?_))
  intro b1 w1 n1
  have E1 : Ext w w1 := Mod.trans (Mod.refl _ _) (n1.ext)
  refine WL.assign (v := U32 (0#32)) rfl rfl (WL.assign (v := IN (0)) rfl rfl (WL.nil (WC.seq (WC.region (WL.fieldAddr rfl fo48_0 rfl (WL.load1 rfl ag5 (n1.blk.cell (j := 0) rfl) rfl (WL.call ca48 (rfl) rfl (of_ok a.op _ (hG.ext (E1)) ho1 ho2) ?_)))))))
  rintro _ wof ⟨iv, rfl, hIV, eof⟩
  have E2 : Ext w wof := Mod.trans (E1) (eof)
  refine WL.move (v := .tuple #[rowVal iv (rvAt a.op.toNat), .bool true]) rfl rfl (WL.extract rfl rfl rfl (WL.extract rfl rfl rfl (WL.allocStore (v := .agg #[.bool ((formOf (rvAt a.op.toNat).k).rd), .bool ((formOf (rvAt a.op.toNat).k).rs1), .bool ((formOf (rvAt a.op.toNat).k).rs2), iv, IN ((formOf (rvAt a.op.toNat).k).noughts), .bool ((formOf (rvAt a.op.toNat).k).signed), U32 ((formOf (rvAt a.op.toNat).k).mask), St (rvAt a.op.toNat).name, U32 ((rvAt a.op.toNat).mtch)]) zt118 rfl sz118 rfl rfl (ones_row hIV.one _ _ _ _ _ _ _ _) rfl ?_)))
  intro b4 w4 n4
  have E3 : Ext w w4 := Mod.trans (E2) (n4.ext)
  refine WL.assign (v := .bool (true)) rfl rfl (WL.nil (WC.seq (WC.region (WL.assign (v := .func (.func 49) #[] #[]) rfl rfl (WL.nil (WC.seq (WC.seq (WC.region (WL.move (v := .bool (true)) rfl rfl ?_)))))))))
  refine WL.un rfl rfl UnR.not (WL.move (v := .bool (false)) rfl rfl (WL.guardT (rfl) (WL.move (v := .func (.func 49) #[] #[]) rfl rfl (WL.guardT (rfl) (WL.fieldAddr rfl fo118_0 rfl (WL.guardT (rfl) (WL.fieldAddr rfl fo116_0 rfl (WL.guardT (rfl) (WL.load1 rfl ag4 (n4.blk.cell (j := 0) rfl) rfl ?_)))))))))
  refine WL.guardT (rfl) (WL.fieldAddr rfl fo48_1 rfl (WL.guardT (rfl) ?_))
  have B4 := ((n1.blk).ext (eof)).ext (n4.ext)
  refine WL.load1 rfl ag5 (B4.cell (j := 1) rfl) rfl (WL.guardT (rfl) (WL.callV (fs := #[]) (cs := #[]) rfl ca49 (rfl) rfl (may_spec (formOf (rvAt a.op.toNat).k).rd a.rd _) ?_))
  rintro _ wm22 ⟨rfl, em22⟩
  rw [m1]
  have E5 : Ext w wm22 := Mod.trans (E3) (em22)
  refine WL.guardT (rfl) (WL.un rfl rfl UnR.not (WL.pick (b := false) rfl rfl rfl (WL.move (v := .bool (false)) rfl rfl (WL.guardT (rfl) (WL.move (v := .func (.func 49) #[] #[]) rfl rfl (WL.guardT (rfl) (WL.fieldAddr rfl fo118_0 rfl (WL.guardT (rfl) (WL.fieldAddr rfl fo116_1 rfl ?_)))))))))
  refine WL.guardT (rfl) ?_
  have B6 := (n4.blk).ext (em22)
  refine WL.load1 rfl ag4 (B6.cell (j := 1) rfl) rfl (WL.guardT (rfl) (WL.fieldAddr rfl fo48_2 rfl (WL.guardT (rfl) ?_)))
  have B7 := (B4).ext (em22)
  refine WL.load1 rfl ag5 (B7.cell (j := 2) rfl) rfl (WL.guardT (rfl) (WL.callV (fs := #[]) (cs := #[]) rfl ca49 (rfl) rfl (may_spec (formOf (rvAt a.op.toNat).k).rs1 a.rs1 _) ?_))
  rintro _ wm32 ⟨rfl, em32⟩
  rw [m2]
  have E8 : Ext w wm32 := Mod.trans (E5) (em32)
  refine WL.guardT (rfl) (WL.un rfl rfl UnR.not (WL.pick (b := false) rfl rfl rfl (WL.move (v := .bool (false)) rfl rfl (WL.guardT (rfl) (WL.move (v := .func (.func 49) #[] #[]) rfl rfl (WL.guardT (rfl) (WL.fieldAddr rfl fo118_0 rfl (WL.guardT (rfl) (WL.fieldAddr rfl fo116_2 rfl ?_)))))))))
  refine WL.guardT (rfl) ?_
  have B9 := (B6).ext (em32)
  refine WL.load1 rfl ag4 (B9.cell (j := 2) rfl) rfl (WL.guardT (rfl) (WL.fieldAddr rfl fo48_3 rfl (WL.guardT (rfl) ?_)))
  have B10 := (B7).ext (em32)
  refine WL.load1 rfl ag5 (B10.cell (j := 3) rfl) rfl (WL.guardT (rfl) (WL.callV (fs := #[]) (cs := #[]) rfl ca49 (rfl) rfl (may_spec (formOf (rvAt a.op.toNat).k).rs2 a.rs2 _) ?_))
  rintro _ wm42 ⟨rfl, em42⟩
  rw [m3]
  have E11 : Ext w wm42 := Mod.trans (E8) (em42)
  refine WL.guardT (rfl) (WL.un rfl rfl UnR.not (WL.pick (b := false) rfl rfl rfl (WL.move (v := .bool (false)) rfl rfl (WL.guardT (rfl) (WL.fieldAddr rfl fo118_0 rfl (WL.guardT (rfl) (WL.fieldAddr rfl fo116_3 rfl (WL.guardT (rfl) ?_))))))))
  have B12 := (B9).ext (em42)
  refine WL.load1 rfl ag114 (B12.cell (j := 3) rfl) rfl (WL.guardT (rfl) ?_)
  have S13 := ((((hIV).ext' (n4.ext)).ext' (em22)).ext' (em32)).ext' (em42)
  refine WL.lenSl (sz := 2) (m := (formOf (rvAt a.op.toNat).k).imm.length) (xs := bitsCells (formOf (rvAt a.op.toNat).k).imm) el114 rfl (S13) rfl (WL.guardT (rfl) (WL.bin (v := .bool (true)) rfl rfl rfl (BinR.toB (BinR.eql) (hi)) (WL.guardT (rfl) (WL.move (v := .bool (true)) rfl rfl (WL.guardT (rfl) (WL.fieldAddr rfl fo48_4 rfl (WL.guardT (rfl) ?_)))))))
  have B14 := (B10).ext (em42)
  refine WL.load1 rfl ag2 (B14.cell (j := 4) rfl) rfl (WL.guardT (rfl) (WL.bin (v := .bool (false)) rfl (vy := I64 (0#64)) rfl rfl (BinR.toB (BinR.neq64) (hn)) (WL.guardT (rfl) (WL.pick (b := true) rfl rfl rfl (WL.pick (b := false) rfl rfl rfl (WL.nil (WC.condF rfl (WC.skip (WC.seq ?_)))))))))
  refine WC.seq (WC.region (WL.fieldAddr rfl fo118_0 rfl (WL.loadS [.bool ((formOf (rvAt a.op.toNat).k).rd), .bool ((formOf (rvAt a.op.toNat).k).rs1), .bool ((formOf (rvAt a.op.toNat).k).rs2), iv, IN ((formOf (rvAt a.op.toNat).k).noughts), .bool ((formOf (rvAt a.op.toNat).k).signed), U32 ((formOf (rvAt a.op.toNat).k).mask)] rfl ag116 sz116 rfl (B12.sub (o := 0) (vs := [.bool ((formOf (rvAt a.op.toNat).k).rd), .bool ((formOf (rvAt a.op.toNat).k).rs1), .bool ((formOf (rvAt a.op.toNat).k).rs2), iv, IN ((formOf (rvAt a.op.toNat).k).noughts), .bool ((formOf (rvAt a.op.toNat).k).signed), U32 ((formOf (rvAt a.op.toNat).k).mask)]) rfl) rfl (WL.fieldAddr rfl fo48_4 rfl (WL.load1 rfl ag2 (B14.cell (j := 4) rfl) rfl (WL.call ca50 (rfl) rfl (fits_spec (formOf (rvAt a.op.toNat).k) iv a.imm _ (S13) (formOf_fine _)) ?_))))))
  rintro _ wft ⟨rfl, eft⟩
  rw [hf]
  have E15 : Ext w wft := Mod.trans (E11) (eft)
  refine WL.un rfl rfl UnR.not (WL.nil (WC.condT rfl (WC.seq (WC.region (WL.assign (v := U32 (0#32)) rfl rfl (WL.assign (v := IN (101)) rfl rfl (WL.nil (WC.ret ?_))))))))
  exact ⟨_, Res.two (v := U32 (0#32)) (v' := IN (101)) rfl rfl rfl, rfl, E15⟩
set_option maxRecDepth 100000 in
theorem enc_okTrue (a : RvInst) (w : World) (hG : Glob w) (ho1 : 1 ≤ a.op.toNat) (ho2 : a.op.toNat < 66) (m1 : mayF (formOf (rvAt a.op.toNat).k).rd a.rd = true) (m2 : mayF (formOf (rvAt a.op.toNat).k).rs1 a.rs1 = true) (m3 : mayF (formOf (rvAt a.op.toNat).k).rs2 a.rs2 = true) (hi : ((((formOf (rvAt a.op.toNat).k).imm.length : Nat) : Int) == (0 : Int)) = true)  (hn : (a.imm != 0#64) = false) (hf : fitsF (formOf (rvAt a.op.toNat).k) a.imm = true) : CallsR Tryz.prog 28 #[.agg #[U8 (a.op), U8 (a.rd), U8 (a.rs1), U8 (a.rs2), I64 (a.imm)]] w (fun v w' => v = .tuple #[U32 (encW a), .int .i64 0] ∧ Ext w w') := by
  refine callsR_of Tryz.func28 rfl rfl rfl ?_
  refine WC.seq (WC.region (WL.box (v := .agg #[U8 (a.op), U8 (a.rd), U8 (a.rs1), U8 (a.rs2), I64 (a.imm)]) rfl rfl ?_))
  intro b1 w1 n1
  have E1 : Ext w w1 := Mod.trans (Mod.refl _ _) (n1.ext)
  refine WL.assign (v := U32 (0#32)) rfl rfl (WL.assign (v := IN (0)) rfl rfl (WL.nil (WC.seq (WC.region (WL.fieldAddr rfl fo48_0 rfl (WL.load1 rfl ag5 (n1.blk.cell (j := 0) rfl) rfl (WL.call ca48 (rfl) rfl (of_ok a.op _ (hG.ext (E1)) ho1 ho2) ?_)))))))
  rintro _ wof ⟨iv, rfl, hIV, eof⟩
  have E2 : Ext w wof := Mod.trans (E1) (eof)
  refine WL.move (v := .tuple #[rowVal iv (rvAt a.op.toNat), .bool true]) rfl rfl (WL.extract rfl rfl rfl (WL.extract rfl rfl rfl (WL.allocStore (v := .agg #[.bool ((formOf (rvAt a.op.toNat).k).rd), .bool ((formOf (rvAt a.op.toNat).k).rs1), .bool ((formOf (rvAt a.op.toNat).k).rs2), iv, IN ((formOf (rvAt a.op.toNat).k).noughts), .bool ((formOf (rvAt a.op.toNat).k).signed), U32 ((formOf (rvAt a.op.toNat).k).mask), St (rvAt a.op.toNat).name, U32 ((rvAt a.op.toNat).mtch)]) zt118 rfl sz118 rfl rfl (ones_row hIV.one _ _ _ _ _ _ _ _) rfl ?_)))
  intro b4 w4 n4
  have E3 : Ext w w4 := Mod.trans (E2) (n4.ext)
  refine WL.assign (v := .bool (true)) rfl rfl (WL.nil (WC.seq (WC.region (WL.assign (v := .func (.func 49) #[] #[]) rfl rfl (WL.nil (WC.seq (WC.seq (WC.region (WL.move (v := .bool (true)) rfl rfl ?_)))))))))
  refine WL.un rfl rfl UnR.not (WL.move (v := .bool (false)) rfl rfl (WL.guardT (rfl) (WL.move (v := .func (.func 49) #[] #[]) rfl rfl (WL.guardT (rfl) (WL.fieldAddr rfl fo118_0 rfl (WL.guardT (rfl) (WL.fieldAddr rfl fo116_0 rfl (WL.guardT (rfl) (WL.load1 rfl ag4 (n4.blk.cell (j := 0) rfl) rfl ?_)))))))))
  refine WL.guardT (rfl) (WL.fieldAddr rfl fo48_1 rfl (WL.guardT (rfl) ?_))
  have B4 := ((n1.blk).ext (eof)).ext (n4.ext)
  refine WL.load1 rfl ag5 (B4.cell (j := 1) rfl) rfl (WL.guardT (rfl) (WL.callV (fs := #[]) (cs := #[]) rfl ca49 (rfl) rfl (may_spec (formOf (rvAt a.op.toNat).k).rd a.rd _) ?_))
  rintro _ wm22 ⟨rfl, em22⟩
  rw [m1]
  have E5 : Ext w wm22 := Mod.trans (E3) (em22)
  refine WL.guardT (rfl) (WL.un rfl rfl UnR.not (WL.pick (b := false) rfl rfl rfl (WL.move (v := .bool (false)) rfl rfl (WL.guardT (rfl) (WL.move (v := .func (.func 49) #[] #[]) rfl rfl (WL.guardT (rfl) (WL.fieldAddr rfl fo118_0 rfl (WL.guardT (rfl) (WL.fieldAddr rfl fo116_1 rfl ?_)))))))))
  refine WL.guardT (rfl) ?_
  have B6 := (n4.blk).ext (em22)
  refine WL.load1 rfl ag4 (B6.cell (j := 1) rfl) rfl (WL.guardT (rfl) (WL.fieldAddr rfl fo48_2 rfl (WL.guardT (rfl) ?_)))
  have B7 := (B4).ext (em22)
  refine WL.load1 rfl ag5 (B7.cell (j := 2) rfl) rfl (WL.guardT (rfl) (WL.callV (fs := #[]) (cs := #[]) rfl ca49 (rfl) rfl (may_spec (formOf (rvAt a.op.toNat).k).rs1 a.rs1 _) ?_))
  rintro _ wm32 ⟨rfl, em32⟩
  rw [m2]
  have E8 : Ext w wm32 := Mod.trans (E5) (em32)
  refine WL.guardT (rfl) (WL.un rfl rfl UnR.not (WL.pick (b := false) rfl rfl rfl (WL.move (v := .bool (false)) rfl rfl (WL.guardT (rfl) (WL.move (v := .func (.func 49) #[] #[]) rfl rfl (WL.guardT (rfl) (WL.fieldAddr rfl fo118_0 rfl (WL.guardT (rfl) (WL.fieldAddr rfl fo116_2 rfl ?_)))))))))
  refine WL.guardT (rfl) ?_
  have B9 := (B6).ext (em32)
  refine WL.load1 rfl ag4 (B9.cell (j := 2) rfl) rfl (WL.guardT (rfl) (WL.fieldAddr rfl fo48_3 rfl (WL.guardT (rfl) ?_)))
  have B10 := (B7).ext (em32)
  refine WL.load1 rfl ag5 (B10.cell (j := 3) rfl) rfl (WL.guardT (rfl) (WL.callV (fs := #[]) (cs := #[]) rfl ca49 (rfl) rfl (may_spec (formOf (rvAt a.op.toNat).k).rs2 a.rs2 _) ?_))
  rintro _ wm42 ⟨rfl, em42⟩
  rw [m3]
  have E11 : Ext w wm42 := Mod.trans (E8) (em42)
  refine WL.guardT (rfl) (WL.un rfl rfl UnR.not (WL.pick (b := false) rfl rfl rfl (WL.move (v := .bool (false)) rfl rfl (WL.guardT (rfl) (WL.fieldAddr rfl fo118_0 rfl (WL.guardT (rfl) (WL.fieldAddr rfl fo116_3 rfl (WL.guardT (rfl) ?_))))))))
  have B12 := (B9).ext (em42)
  refine WL.load1 rfl ag114 (B12.cell (j := 3) rfl) rfl (WL.guardT (rfl) ?_)
  have S13 := ((((hIV).ext' (n4.ext)).ext' (em22)).ext' (em32)).ext' (em42)
  refine WL.lenSl (sz := 2) (m := (formOf (rvAt a.op.toNat).k).imm.length) (xs := bitsCells (formOf (rvAt a.op.toNat).k).imm) el114 rfl (S13) rfl (WL.guardT (rfl) (WL.bin (v := .bool (true)) rfl rfl rfl (BinR.toB (BinR.eql) (hi)) (WL.guardT (rfl) (WL.move (v := .bool (true)) rfl rfl (WL.guardT (rfl) (WL.fieldAddr rfl fo48_4 rfl (WL.guardT (rfl) ?_)))))))
  have B14 := (B10).ext (em42)
  refine WL.load1 rfl ag2 (B14.cell (j := 4) rfl) rfl (WL.guardT (rfl) (WL.bin (v := .bool (false)) rfl (vy := I64 (0#64)) rfl rfl (BinR.toB (BinR.neq64) (hn)) (WL.guardT (rfl) (WL.pick (b := true) rfl rfl rfl (WL.pick (b := false) rfl rfl rfl (WL.nil (WC.condF rfl (WC.skip (WC.seq ?_)))))))))
  refine WC.seq (WC.region (WL.fieldAddr rfl fo118_0 rfl (WL.loadS [.bool ((formOf (rvAt a.op.toNat).k).rd), .bool ((formOf (rvAt a.op.toNat).k).rs1), .bool ((formOf (rvAt a.op.toNat).k).rs2), iv, IN ((formOf (rvAt a.op.toNat).k).noughts), .bool ((formOf (rvAt a.op.toNat).k).signed), U32 ((formOf (rvAt a.op.toNat).k).mask)] rfl ag116 sz116 rfl (B12.sub (o := 0) (vs := [.bool ((formOf (rvAt a.op.toNat).k).rd), .bool ((formOf (rvAt a.op.toNat).k).rs1), .bool ((formOf (rvAt a.op.toNat).k).rs2), iv, IN ((formOf (rvAt a.op.toNat).k).noughts), .bool ((formOf (rvAt a.op.toNat).k).signed), U32 ((formOf (rvAt a.op.toNat).k).mask)]) rfl) rfl (WL.fieldAddr rfl fo48_4 rfl (WL.load1 rfl ag2 (B14.cell (j := 4) rfl) rfl (WL.call ca50 (rfl) rfl (fits_spec (formOf (rvAt a.op.toNat).k) iv a.imm _ (S13) (formOf_fine _)) ?_))))))
  rintro _ wft ⟨rfl, eft⟩
  rw [hf]
  have E15 : Ext w wft := Mod.trans (E11) (eft)
  refine WL.un rfl rfl UnR.not (WL.nil (WC.condF rfl (WC.skip (WC.seq (WC.draw (fun w_ => Ext wft w_) 29 rfl mixed ?_)))))
  intro wd_7 ed_7
  have R16 : Ext wft wd_7 := Mod.trans (Mod.refl _ _) (ed_7)
  have E17 : Ext w wd_7 := Mod.trans (E15) (ed_7)
  refine WA.take (i := 0) (m' := 1) (v := ptr b4 8) rfl rfl rfl rfl (by kernel_rfl) rfl (fun _ _ _ h => h) (fun wx hS => ?_) (R16) ?_
  · exact WL.fieldAddr rfl fo118_2 rfl (WL.nil ⟨rfl, rfl, rfl⟩)
  refine WA.take (i := 1) (m' := 3) (v := U32 ((rvAt a.op.toNat).mtch)) rfl rfl rfl rfl (by kernel_rfl) rfl (fun _ _ _ h => h) (fun wx hS => ?_) (R16) ?_
  · have B20 := ((B12).ext (eft)).ext (hS)
    exact WL.load1 rfl ag50 (B20.cell (j := 8) rfl) rfl (WL.nil ⟨rfl, rfl, rfl⟩)
  refine WA.take (i := 2) (m' := 7) (v := ptr b1 1) rfl rfl rfl rfl (by kernel_rfl) rfl (fun _ _ _ h => h) (fun wx hS => ?_) (R16) ?_
  · exact WL.fieldAddr rfl fo48_1 rfl (WL.nil ⟨rfl, rfl, rfl⟩)
  refine WA.take (i := 3) (m' := 15) (v := U8 (a.rd)) rfl rfl rfl rfl (by kernel_rfl) rfl (fun _ _ _ h => h) (fun wx hS => ?_) (R16) ?_
  · have B23 := ((B14).ext (eft)).ext (hS)
    exact WL.load1 rfl ag5 (B23.cell (j := 1) rfl) rfl (WL.nil ⟨rfl, rfl, rfl⟩)
  refine WA.take (i := 4) (m' := 31) (v := U32 ((a.rd).setWidth 32)) rfl rfl rfl rfl (by kernel_rfl) rfl (fun _ _ _ h => h) (fun wx hS => ?_) (R16) ?_
  · exact WL.conv rfl rfl (ConvR.u8u32 Tryz.underlying5 Tryz.underlying50) (WL.nil ⟨rfl, rfl, rfl⟩)
  refine WA.take (i := 5) (m' := 63) (v := ptr 0 0) rfl rfl rfl rfl (by kernel_rfl) rfl (fun _ _ _ h => h) (fun wx hS => ?_) (R16) ?_
  · exact WL.fieldAddr rfl fo125_0 rfl (WL.nil ⟨rfl, rfl, rfl⟩)
  refine WA.take (i := 6) (m' := 127) (v := IN (7)) rfl rfl rfl rfl (by kernel_rfl) rfl (fun _ _ _ h => h) (fun wx hS => ?_) (R16) ?_
  · have E26 : Ext w wx := Mod.trans (E15) (hS)
    exact WL.load1 rfl ag3 ((hG.ext (E26)).rd 0 _ rfl) rfl (WL.nil ⟨rfl, rfl, rfl⟩)
  refine WA.take (i := 7) (m' := 255) (v := U32 (a.rd.setWidth 32 <<< 7)) rfl rfl rfl rfl (by kernel_rfl) rfl (fun _ _ _ h => h) (fun wx hS => ?_) (R16) ?_
  · exact WL.bin rfl rfl rfl (BinR.shlU32 (s := 7)) (WL.nil ⟨rfl, rfl, rfl⟩)
  refine WA.take (i := 8) (m' := 511) (v := ptr b1 2) rfl rfl rfl rfl (by kernel_rfl) rfl (fun _ _ _ h => h) (fun wx hS => ?_) (R16) ?_
  · exact WL.fieldAddr rfl fo48_2 rfl (WL.nil ⟨rfl, rfl, rfl⟩)
  refine WA.take (i := 9) (m' := 1023) (v := U8 (a.rs1)) rfl rfl rfl rfl (by kernel_rfl) rfl (fun _ _ _ h => h) (fun wx hS => ?_) (R16) ?_
  · have B30 := ((B14).ext (eft)).ext (hS)
    exact WL.load1 rfl ag5 (B30.cell (j := 2) rfl) rfl (WL.nil ⟨rfl, rfl, rfl⟩)
  refine WA.take (i := 10) (m' := 2047) (v := U32 ((a.rs1).setWidth 32)) rfl rfl rfl rfl (by kernel_rfl) rfl (fun _ _ _ h => h) (fun wx hS => ?_) (R16) ?_
  · exact WL.conv rfl rfl (ConvR.u8u32 Tryz.underlying5 Tryz.underlying50) (WL.nil ⟨rfl, rfl, rfl⟩)
  refine WA.take (i := 11) (m' := 4095) (v := ptr 1 0) rfl rfl rfl rfl (by kernel_rfl) rfl (fun _ _ _ h => h) (fun wx hS => ?_) (R16) ?_
  · exact WL.fieldAddr rfl fo125_0 rfl (WL.nil ⟨rfl, rfl, rfl⟩)
  refine WA.take (i := 12) (m' := 8191) (v := IN (15)) rfl rfl rfl rfl (by kernel_rfl) rfl (fun _ _ _ h => h) (fun wx hS => ?_) (R16) ?_
  · have E33 : Ext w wx := Mod.trans (E15) (hS)
    exact WL.load1 rfl ag3 ((hG.ext (E33)).rs1 0 _ rfl) rfl (WL.nil ⟨rfl, rfl, rfl⟩)
  refine WA.take (i := 13) (m' := 16383) (v := U32 (a.rs1.setWidth 32 <<< 15)) rfl rfl rfl rfl (by kernel_rfl) rfl (fun _ _ _ h => h) (fun wx hS => ?_) (R16) ?_
  · exact WL.bin rfl rfl rfl (BinR.shlU32 (s := 15)) (WL.nil ⟨rfl, rfl, rfl⟩)
  refine WA.take (i := 14) (m' := 32767) (v := ptr b1 3) rfl rfl rfl rfl (by kernel_rfl) rfl (fun _ _ _ h => h) (fun wx hS => ?_) (R16) ?_
  · exact WL.fieldAddr rfl fo48_3 rfl (WL.nil ⟨rfl, rfl, rfl⟩)
  refine WA.take (i := 15) (m' := 65535) (v := U8 (a.rs2)) rfl rfl rfl rfl (by kernel_rfl) rfl (fun _ _ _ h => h) (fun wx hS => ?_) (R16) ?_
  · have B37 := ((B14).ext (eft)).ext (hS)
    exact WL.load1 rfl ag5 (B37.cell (j := 3) rfl) rfl (WL.nil ⟨rfl, rfl, rfl⟩)
  refine WA.take (i := 16) (m' := 131071) (v := U32 ((a.rs2).setWidth 32)) rfl rfl rfl rfl (by kernel_rfl) rfl (fun _ _ _ h => h) (fun wx hS => ?_) (R16) ?_
  · exact WL.conv rfl rfl (ConvR.u8u32 Tryz.underlying5 Tryz.underlying50) (WL.nil ⟨rfl, rfl, rfl⟩)
  refine WA.take (i := 17) (m' := 262143) (v := ptr 2 0) rfl rfl rfl rfl (by kernel_rfl) rfl (fun _ _ _ h => h) (fun wx hS => ?_) (R16) ?_
  · exact WL.fieldAddr rfl fo125_0 rfl (WL.nil ⟨rfl, rfl, rfl⟩)
  refine WA.take (i := 18) (m' := 524287) (v := IN (20)) rfl rfl rfl rfl (by kernel_rfl) rfl (fun _ _ _ h => h) (fun wx hS => ?_) (R16) ?_
  · have E40 : Ext w wx := Mod.trans (E15) (hS)
    exact WL.load1 rfl ag3 ((hG.ext (E40)).rs2 0 _ rfl) rfl (WL.nil ⟨rfl, rfl, rfl⟩)
  refine WA.take (i := 19) (m' := 1048575) (v := U32 (a.rs2.setWidth 32 <<< 20)) rfl rfl rfl rfl (by kernel_rfl) rfl (fun _ _ _ h => h) (fun wx hS => ?_) (R16) ?_
  · exact WL.bin rfl rfl rfl (BinR.shlU32 (s := 20)) (WL.nil ⟨rfl, rfl, rfl⟩)
  refine WA.take (i := 20) (m' := 2097151) (v := ptr b4 0) rfl rfl rfl rfl (by kernel_rfl) rfl (fun _ _ _ h => h) (fun wx hS => ?_) (R16) ?_
  · exact WL.fieldAddr rfl fo118_0 rfl (WL.nil ⟨rfl, rfl, rfl⟩)
  refine WA.take (i := 21) (m' := 4194303) (v := .agg #[.bool ((formOf (rvAt a.op.toNat).k).rd), .bool ((formOf (rvAt a.op.toNat).k).rs1), .bool ((formOf (rvAt a.op.toNat).k).rs2), iv, IN ((formOf (rvAt a.op.toNat).k).noughts), .bool ((formOf (rvAt a.op.toNat).k).signed), U32 ((formOf (rvAt a.op.toNat).k).mask)]) rfl rfl rfl rfl (by kernel_rfl) rfl (fun _ _ _ h => h) (fun wx hS => ?_) (R16) ?_
  · have B44 := ((B12).ext (eft)).ext (hS)
    exact WL.loadS [.bool ((formOf (rvAt a.op.toNat).k).rd), .bool ((formOf (rvAt a.op.toNat).k).rs1), .bool ((formOf (rvAt a.op.toNat).k).rs2), iv, IN ((formOf (rvAt a.op.toNat).k).noughts), .bool ((formOf (rvAt a.op.toNat).k).signed), U32 ((formOf (rvAt a.op.toNat).k).mask)] rfl ag116 sz116 rfl (B44.sub (o := 0) (vs := [.bool ((formOf (rvAt a.op.toNat).k).rd), .bool ((formOf (rvAt a.op.toNat).k).rs1), .bool ((formOf (rvAt a.op.toNat).k).rs2), iv, IN ((formOf (rvAt a.op.toNat).k).noughts), .bool ((formOf (rvAt a.op.toNat).k).signed), U32 ((formOf (rvAt a.op.toNat).k).mask)]) rfl) rfl (WL.nil ⟨rfl, rfl, rfl⟩)
  refine WA.take (i := 22) (m' := 8388607) (v := ptr b1 4) rfl rfl rfl rfl (by kernel_rfl) rfl (fun _ _ _ h => h) (fun wx hS => ?_) (R16) ?_
  · exact WL.fieldAddr rfl fo48_4 rfl (WL.nil ⟨rfl, rfl, rfl⟩)
  refine WA.take (i := 23) (m' := 16777215) (v := I64 (a.imm)) rfl rfl rfl rfl (by kernel_rfl) rfl (fun _ _ _ h => h) (fun wx hS => ?_) (R16) ?_
  · have B47 := ((B14).ext (eft)).ext (hS)
    exact WL.load1 rfl ag2 (B47.cell (j := 4) rfl) rfl (WL.nil ⟨rfl, rfl, rfl⟩)
  refine WA.one (i := 24) (m' := 33554431) (by kernel_rfl) rfl rfl ?_
  have S48 := ((S13).ext' (eft)).ext' (ed_7)
  refine WL.call ca52 (rfl) rfl (spread_spec (formOf (rvAt a.op.toNat).k) iv a.imm _ (S48) (formOf_fine _)) ?_
  rintro _ wsp ⟨rfl, esp⟩
  have R49 : Ext wft wsp := Mod.trans (R16) (esp)
  have E50 : Ext w wsp := Mod.trans (E17) (esp)
  refine WL.behind (R49) ?_
  refine WA.one (i := 25) (m' := 67108863) (by kernel_rfl) rfl rfl ?_
  refine WL.buildSlice (vs := [(0, U32 ((rvAt a.op.toNat).mtch)), (1, U32 (a.rd.setWidth 32 <<< 7)), (2, U32 (a.rs1.setWidth 32 <<< 15)), (3, U32 (a.rs2.setWidth 32 <<< 20)), (4, U32 (spreadF (formOf (rvAt a.op.toNat).k) a.imm))]) rfl (bls28_88o1 (rvAt a.op.toNat).mtch (a.rd.setWidth 32 <<< 7) (a.rs1.setWidth 32 <<< 15) (a.rs2.setWidth 32 <<< 20) (spreadF (formOf (rvAt a.op.toNat).k) a.imm)) rfl ?_
  intro b88 w88 n88
  have R51 : Ext wft w88 := Mod.trans (R49) (n88.ext)
  have E52 : Ext w w88 := Mod.trans (E50) (n88.ext)
  refine WL.behind (R51) ?_
  refine WA.one (i := 26) (m' := 134217727) (by kernel_rfl) rfl rfl ?_
  refine WL.call ca51 (rfl) rfl (together_spec (.slice (some ⟨b88, 0, none⟩) 5 5) [(rvAt a.op.toNat).mtch, a.rd.setWidth 32 <<< 7, a.rs1.setWidth 32 <<< 15, a.rs2.setWidth 32 <<< 20, spreadF (formOf (rvAt a.op.toNat).k) a.imm] _ (Go.Proofs.M.Sl.ofCells (n := 5) n88.blk.cells rfl) (Nat.le_of_ble_eq_true rfl)) ?_
  rintro _ wtg ⟨rfl, etg⟩
  have R53 : Ext wft wtg := Mod.trans (R51) (etg)
  have E54 : Ext w wtg := Mod.trans (E52) (etg)
  refine WL.behind (R53) ?_
  refine WA.take (i := 27) (m' := 268435455) (v := U32 (tog [(rvAt a.op.toNat).mtch, a.rd.setWidth 32 <<< 7, a.rs1.setWidth 32 <<< 15, a.rs2.setWidth 32 <<< 20, spreadF (formOf (rvAt a.op.toNat).k) a.imm])) rfl rfl rfl rfl (by kernel_rfl) rfl (fun _ _ _ h => h) (fun wx hS => ?_) (R53) ?_
  · exact WL.assign (v := U32 (tog [(rvAt a.op.toNat).mtch, a.rd.setWidth 32 <<< 7, a.rs1.setWidth 32 <<< 15, a.rs2.setWidth 32 <<< 20, spreadF (formOf (rvAt a.op.toNat).k) a.imm])) rfl rfl (WL.nil ⟨rfl, rfl, rfl⟩)
  refine WA.take (i := 28) (m' := 536870911) (v := IN (0)) rfl rfl rfl rfl (by kernel_rfl) rfl (fun _ _ _ h => h) (fun wx hS => ?_) (R53) ?_
  · exact WL.assign (v := IN (0)) rfl rfl (WL.nil ⟨rfl, rfl, rfl⟩)
  refine WA.done (by kernel_rfl) ?_
  refine WC.ret ?_
  exact ⟨_, Res.two (v := U32 (tog [(rvAt a.op.toNat).mtch, a.rd.setWidth 32 <<< 7, a.rs1.setWidth 32 <<< 15, a.rs2.setWidth 32 <<< 20, spreadF (formOf (rvAt a.op.toNat).k) a.imm])) (v' := IN (0)) rfl rfl rfl, rfl, E54⟩
set_option maxRecDepth 100000 in
theorem enc_rangeFalse (a : RvInst) (w : World) (hG : Glob w) (ho1 : 1 ≤ a.op.toNat) (ho2 : a.op.toNat < 66) (m1 : mayF (formOf (rvAt a.op.toNat).k).rd a.rd = true) (m2 : mayF (formOf (rvAt a.op.toNat).k).rs1 a.rs1 = true) (m3 : mayF (formOf (rvAt a.op.toNat).k).rs2 a.rs2 = true) (hi : ((((formOf (rvAt a.op.toNat).k).imm.length : Nat) : Int) == (0 : Int)) = false) (hf : fitsF (formOf (rvAt a.op.toNat).k) a.imm = false) : CallsR Tryz.prog 28 #[.agg #[U8 (a.op), U8 (a.rd), U8 (a.rs1), U8 (a.rs2), I64 (a.imm)]] w (fun v w' => v = .tuple #[U32 0#32, .int .i64 101] ∧ Ext w w') := by
  refine callsR_of Tryz.func28 rfl rfl rfl ?_
  refine WC.seq (WC.region (WL.box (v := .agg #[U8 (a.op), U8 (a.rd), U8 (a.rs1), U8 (a.rs2), I64 (a.imm)]) rfl rfl ?_))
  intro b1 w1 n1
  have E1 : Ext w w1 := Mod.trans (Mod.refl _ _) (n1.ext)
  refine WL.assign (v := U32 (0#32)) rfl rfl (WL.assign (v := IN (0)) rfl rfl (WL.nil (WC.seq (WC.region (WL.fieldAddr rfl fo48_0 rfl (WL.load1 rfl ag5 (n1.blk.cell (j := 0) rfl) rfl (WL.call ca48 (rfl) rfl (of_ok a.op _ (hG.ext (E1)) ho1 ho2) ?_)))))))
  rintro _ wof ⟨iv, rfl, hIV, eof⟩
  have E2 : Ext w wof := Mod.trans (E1) (eof)
  refine WL.move (v := .tuple #[rowVal iv (rvAt a.op.toNat), .bool true]) rfl rfl (WL.extract rfl rfl rfl (WL.extract rfl rfl rfl (WL.allocStore (v := .agg #[.bool ((formOf (rvAt a.op.toNat).k).rd), .bool ((formOf (rvAt a.op.toNat).k).rs1), .bool ((formOf (rvAt a.op.toNat).k).rs2), iv, IN ((formOf (rvAt a.op.toNat).k).noughts), .bool ((formOf (rvAt a.op.toNat).k).signed), U32 ((formOf (rvAt a.op.toNat).k).mask), St (rvAt a.op.toNat).name, U32 ((rvAt a.op.toNat).mtch)]) zt118 rfl sz118 rfl rfl (ones_row hIV.one _ _ _ _ _ _ _ _) rfl ?_)))
  intro b4 w4 n4
  have E3 : Ext w w4 := Mod.trans (E2) (n4.ext)
  refine WL.assign (v := .bool (true)) rfl rfl (WL.nil (WC.seq (WC.region (WL.assign (v := .func (.func 49) #[] #[]) rfl rfl (WL.nil (WC.seq (WC.seq (WC.region (WL.move (v := .bool (true)) rfl rfl ?_)))))))))
  refine WL.un rfl rfl UnR.not (WL.move (v := .bool (false)) rfl rfl (WL.guardT (rfl) (WL.move (v := .func (.func 49) #[] #[]) rfl rfl (WL.guardT (rfl) (WL.fieldAddr rfl fo118_0 rfl (WL.guardT (rfl) (WL.fieldAddr rfl fo116_0 rfl (WL.guardT (rfl) (WL.load1 rfl ag4 (n4.blk.cell (j := 0) rfl) rfl ?_)))))))))
  refine WL.guardT (rfl) (WL.fieldAddr rfl fo48_1 rfl (WL.guardT (rfl) ?_))
  have B4 := ((n1.blk).ext (eof)).ext (n4.ext)
  refine WL.load1 rfl ag5 (B4.cell (j := 1) rfl) rfl (WL.guardT (rfl) (WL.callV (fs := #[]) (cs := #[]) rfl ca49 (rfl) rfl (may_spec (formOf (rvAt a.op.toNat).k).rd a.rd _) ?_))
  rintro _ wm22 ⟨rfl, em22⟩
  rw [m1]
  have E5 : Ext w wm22 := Mod.trans (E3) (em22)
  refine WL.guardT (rfl) (WL.un rfl rfl UnR.not (WL.pick (b := false) rfl rfl rfl (WL.move (v := .bool (false)) rfl rfl (WL.guardT (rfl) (WL.move (v := .func (.func 49) #[] #[]) rfl rfl (WL.guardT (rfl) (WL.fieldAddr rfl fo118_0 rfl (WL.guardT (rfl) (WL.fieldAddr rfl fo116_1 rfl ?_)))))))))
  refine WL.guardT (rfl) ?_
  have B6 := (n4.blk).ext (em22)
  refine WL.load1 rfl ag4 (B6.cell (j := 1) rfl) rfl (WL.guardT (rfl) (WL.fieldAddr rfl fo48_2 rfl (WL.guardT (rfl) ?_)))
  have B7 := (B4).ext (em22)
  refine WL.load1 rfl ag5 (B7.cell (j := 2) rfl) rfl (WL.guardT (rfl) (WL.callV (fs := #[]) (cs := #[]) rfl ca49 (rfl) rfl (may_spec (formOf (rvAt a.op.toNat).k).rs1 a.rs1 _) ?_))
  rintro _ wm32 ⟨rfl, em32⟩
  rw [m2]
  have E8 : Ext w wm32 := Mod.trans (E5) (em32)
  refine WL.guardT (rfl) (WL.un rfl rfl UnR.not (WL.pick (b := false) rfl rfl rfl (WL.move (v := .bool (false)) rfl rfl (WL.guardT (rfl) (WL.move (v := .func (.func 49) #[] #[]) rfl rfl (WL.guardT (rfl) (WL.fieldAddr rfl fo118_0 rfl (WL.guardT (rfl) (WL.fieldAddr rfl fo116_2 rfl ?_)))))))))
  refine WL.guardT (rfl) ?_
  have B9 := (B6).ext (em32)
  refine WL.load1 rfl ag4 (B9.cell (j := 2) rfl) rfl (WL.guardT (rfl) (WL.fieldAddr rfl fo48_3 rfl (WL.guardT (rfl) ?_)))
  have B10 := (B7).ext (em32)
  refine WL.load1 rfl ag5 (B10.cell (j := 3) rfl) rfl (WL.guardT (rfl) (WL.callV (fs := #[]) (cs := #[]) rfl ca49 (rfl) rfl (may_spec (formOf (rvAt a.op.toNat).k).rs2 a.rs2 _) ?_))
  rintro _ wm42 ⟨rfl, em42⟩
  rw [m3]
  have E11 : Ext w wm42 := Mod.trans (E8) (em42)
  refine WL.guardT (rfl) (WL.un rfl rfl UnR.not (WL.pick (b := false) rfl rfl rfl (WL.move (v := .bool (false)) rfl rfl (WL.guardT (rfl) (WL.fieldAddr rfl fo118_0 rfl (WL.guardT (rfl) (WL.fieldAddr rfl fo116_3 rfl (WL.guardT (rfl) ?_))))))))
  have B12 := (B9).ext (em42)
  refine WL.load1 rfl ag114 (B12.cell (j := 3) rfl) rfl (WL.guardT (rfl) ?_)
  have S13 := ((((hIV).ext' (n4.ext)).ext' (em22)).ext' (em32)).ext' (em42)
  refine WL.lenSl (sz := 2) (m := (formOf (rvAt a.op.toNat).k).imm.length) (xs := bitsCells (formOf (rvAt a.op.toNat).k).imm) el114 rfl (S13) rfl (WL.guardT (rfl) (WL.bin (v := .bool (false)) rfl rfl rfl (BinR.toB (BinR.eql) (hi)) (WL.guardT (rfl) (WL.move (v := .bool (false)) rfl rfl (WL.guardF (b' := false) (rfl) rfl rfl (WL.guardF (b' := false) (rfl) rfl rfl (WL.guardF (b' := false) (rfl) rfl rfl (WL.guardT (rfl) (WL.pick (b := false) rfl rfl rfl ?_)))))))))
  refine WL.pick (b := false) rfl rfl rfl (WL.nil (WC.condF rfl (WC.skip (WC.seq (WC.seq (WC.region (WL.fieldAddr rfl fo118_0 rfl (WL.loadS [.bool ((formOf (rvAt a.op.toNat).k).rd), .bool ((formOf (rvAt a.op.toNat).k).rs1), .bool ((formOf (rvAt a.op.toNat).k).rs2), iv, IN ((formOf (rvAt a.op.toNat).k).noughts), .bool ((formOf (rvAt a.op.toNat).k).signed), U32 ((formOf (rvAt a.op.toNat).k).mask)] rfl ag116 sz116 rfl (B12.sub (o := 0) (vs := [.bool ((formOf (rvAt a.op.toNat).k).rd), .bool ((formOf (rvAt a.op.toNat).k).rs1), .bool ((formOf (rvAt a.op.toNat).k).rs2), iv, IN ((formOf (rvAt a.op.toNat).k).noughts), .bool ((formOf (rvAt a.op.toNat).k).signed), U32 ((formOf (rvAt a.op.toNat).k).mask)]) rfl) rfl (WL.fieldAddr rfl fo48_4 rfl ?_)))))))))
  have B14 := (B10).ext (em42)
  refine WL.load1 rfl ag2 (B14.cell (j := 4) rfl) rfl (WL.call ca50 (rfl) rfl (fits_spec (formOf (rvAt a.op.toNat).k) iv a.imm _ (S13) (formOf_fine _)) ?_)
  rintro _ wft ⟨rfl, eft⟩
  rw [hf]
  have E15 : Ext w wft := Mod.trans (E11) (eft)
  refine WL.un rfl rfl UnR.not (WL.nil (WC.condT rfl (WC.seq (WC.region (WL.assign (v := U32 (0#32)) rfl rfl (WL.assign (v := IN (101)) rfl rfl (WL.nil (WC.ret ?_))))))))
  exact ⟨_, Res.two (v := U32 (0#32)) (v' := IN (101)) rfl rfl rfl, rfl, E15⟩
set_option maxRecDepth 100000 in
theorem enc_okFalse (a : RvInst) (w : World) (hG : Glob w) (ho1 : 1 ≤ a.op.toNat) (ho2 : a.op.toNat < 66) (m1 : mayF (formOf (rvAt a.op.toNat).k).rd a.rd = true) (m2 : mayF (formOf (rvAt a.op.toNat).k).rs1 a.rs1 = true) (m3 : mayF (formOf (rvAt a.op.toNat).k).rs2 a.rs2 = true) (hi : ((((formOf (rvAt a.op.toNat).k).imm.length : Nat) : Int) == (0 : Int)) = false) (hf : fitsF (formOf (rvAt a.op.toNat).k) a.imm = true) : CallsR Tryz.prog 28 #[.agg #[U8 (a.op), U8 (a.rd), U8 (a.rs1), U8 (a.rs2), I64 (a.imm)]] w (fun v w' => v = .tuple #[U32 (encW a), .int .i64 0] ∧ Ext w w') := by
  refine callsR_of Tryz.func28 rfl rfl rfl ?_
  refine WC.seq (WC.region (WL.box (v := .agg #[U8 (a.op), U8 (a.rd), U8 (a.rs1), U8 (a.rs2), I64 (a.imm)]) rfl rfl ?_))
  intro b1 w1 n1
  have E1 : Ext w w1 := Mod.trans (Mod.refl _ _) (n1.ext)
  refine WL.assign (v := U32 (0#32)) rfl rfl (WL.assign (v := IN (0)) rfl rfl (WL.nil (WC.seq (WC.region (WL.fieldAddr rfl fo48_0 rfl (WL.load1 rfl ag5 (n1.blk.cell (j := 0) rfl) rfl (WL.call ca48 (rfl) rfl (of_ok a.op _ (hG.ext (E1)) ho1 ho2) ?_)))))))
  rintro _ wof ⟨iv, rfl, hIV, eof⟩
  have E2 : Ext w wof := Mod.trans (E1) (eof)
  refine WL.move (v := .tuple #[rowVal iv (rvAt a.op.toNat), .bool true]) rfl rfl (WL.extract rfl rfl rfl (WL.extract rfl rfl rfl (WL.allocStore (v := .agg #[.bool ((formOf (rvAt a.op.toNat).k).rd), .bool ((formOf (rvAt a.op.toNat).k).rs1), .bool ((formOf (rvAt a.op.toNat).k).rs2), iv, IN ((formOf (rvAt a.op.toNat).k).noughts), .bool ((formOf (rvAt a.op.toNat).k).signed), U32 ((formOf (rvAt a.op.toNat).k).mask), St (rvAt a.op.toNat).name, U32 ((rvAt a.op.toNat).mtch)]) zt118 rfl sz118 rfl rfl (ones_row hIV.one _ _ _ _ _ _ _ _) rfl ?_)))
  intro b4 w4 n4
  have E3 : Ext w w4 := Mod.trans (E2) (n4.ext)
  refine WL.assign (v := .bool (true)) rfl rfl (WL.nil (WC.seq (WC.region (WL.assign (v := .func (.func 49) #[] #[]) rfl rfl (WL.nil (WC.seq (WC.seq (WC.region (WL.move (v := .bool (true)) rfl rfl ?_)))))))))
  refine WL.un rfl rfl UnR.not (WL.move (v := .bool (false)) rfl rfl (WL.guardT (rfl) (WL.move (v := .func (.func 49) #[] #[]) rfl rfl (WL.guardT (rfl) (WL.fieldAddr rfl fo118_0 rfl (WL.guardT (rfl) (WL.fieldAddr rfl fo116_0 rfl (WL.guardT (rfl) (WL.load1 rfl ag4 (n4.blk.cell (j := 0) rfl) rfl ?_)))))))))
  refine WL.guardT (rfl) (WL.fieldAddr rfl fo48_1 rfl (WL.guardT (rfl) ?_))
  have B4 := ((n1.blk).ext (eof)).ext (n4.ext)
  refine WL.load1 rfl ag5 (B4.cell (j := 1) rfl) rfl (WL.guardT (rfl) (WL.callV (fs := #[]) (cs := #[]) rfl ca49 (rfl) rfl (may_spec (formOf (rvAt a.op.toNat).k).rd a.rd _) ?_))
  rintro _ wm22 ⟨rfl, em22⟩
  rw [m1]
  have E5 : Ext w wm22 := Mod.trans (E3) (em22)
  refine WL.guardT (rfl) (WL.un rfl rfl UnR.not (WL.pick (b := false) rfl rfl rfl (WL.move (v := .bool (false)) rfl rfl (WL.guardT (rfl) (WL.move (v := .func (.func 49) #[] #[]) rfl rfl (WL.guardT (rfl) (WL.fieldAddr rfl fo118_0 rfl (WL.guardT (rfl) (WL.fieldAddr rfl fo116_1 rfl ?_)))))))))
  refine WL.guardT (rfl) ?_
  have B6 := (n4.blk).ext (em22)
  refine WL.load1 rfl ag4 (B6.cell (j := 1) rfl) rfl (WL.guardT (rfl) (WL.fieldAddr rfl fo48_2 rfl (WL.guardT (rfl) ?_)))
  have B7 := (B4).ext (em22)
  refine WL.load1 rfl ag5 (B7.cell (j := 2) rfl) rfl (WL.guardT (rfl) (WL.callV (fs := #[]) (cs := #[]) rfl ca49 (rfl) rfl (may_spec (formOf (rvAt a.op.toNat).k).rs1 a.rs1 _) ?_))
  rintro _ wm32 ⟨rfl, em32⟩
  rw [m2]
  have E8 : Ext w wm32 := Mod.trans (E5) (em32)
  refine WL.guardT (rfl) (WL.un rfl rfl UnR.not (WL.pick (b := false) rfl rfl rfl (WL.move (v := .bool (false)) rfl rfl (WL.guardT (rfl) (WL.move (v := .func (.func 49) #[] #[]) rfl rfl (WL.guardT (rfl) (WL.fieldAddr rfl fo118_0 rfl (WL.guardT (rfl) (WL.fieldAddr rfl fo116_2 rfl ?_)))))))))
  refine WL.guardT (rfl) ?_
  have B9 := (B6).ext (em32)
  refine WL.load1 rfl ag4 (B9.cell (j := 2) rfl) rfl (WL.guardT (rfl) (WL.fieldAddr rfl fo48_3 rfl (WL.guardT (rfl) ?_)))
  have B10 := (B7).ext (em32)
  refine WL.load1 rfl ag5 (B10.cell (j := 3) rfl) rfl (WL.guardT (rfl) (WL.callV (fs := #[]) (cs := #[]) rfl ca49 (rfl) rfl (may_spec (formOf (rvAt a.op.toNat).k).rs2 a.rs2 _) ?_))
  rintro _ wm42 ⟨rfl, em42⟩
  rw [m3]
  have E11 : Ext w wm42 := Mod.trans (E8) (em42)
  refine WL.guardT (rfl) (WL.un rfl rfl UnR.not (WL.pick (b := false) rfl rfl rfl (WL.move (v := .bool (false)) rfl rfl (WL.guardT (rfl) (WL.fieldAddr rfl fo118_0 rfl (WL.guardT (rfl) (WL.fieldAddr rfl fo116_3 rfl (WL.guardT (rfl) ?_))))))))
  have B12 := (B9).ext (em42)
  refine WL.load1 rfl ag114 (B12.cell (j := 3) rfl) rfl (WL.guardT (rfl) ?_)
  have S13 := ((((hIV).ext' (n4.ext)).ext' (em22)).ext' (em32)).ext' (em42)
  refine WL.lenSl (sz := 2) (m := (formOf (rvAt a.op.toNat).k).imm.length) (xs := bitsCells (formOf (rvAt a.op.toNat).k).imm) el114 rfl (S13) rfl (WL.guardT (rfl) (WL.bin (v := .bool (false)) rfl rfl rfl (BinR.toB (BinR.eql) (hi)) (WL.guardT (rfl) (WL.move (v := .bool (false)) rfl rfl (WL.guardF (b' := false) (rfl) rfl rfl (WL.guardF (b' := false) (rfl) rfl rfl (WL.guardF (b' := false) (rfl) rfl rfl (WL.guardT (rfl) (WL.pick (b := false) rfl rfl rfl ?_)))))))))
  refine WL.pick (b := false) rfl rfl rfl (WL.nil (WC.condF rfl (WC.skip (WC.seq (WC.seq (WC.region (WL.fieldAddr rfl fo118_0 rfl (WL.loadS [.bool ((formOf (rvAt a.op.toNat).k).rd), .bool ((formOf (rvAt a.op.toNat).k).rs1), .bool ((formOf (rvAt a.op.toNat).k).rs2), iv, IN ((formOf (rvAt a.op.toNat).k).noughts), .bool ((formOf (rvAt a.op.toNat).k).signed), U32 ((formOf (rvAt a.op.toNat).k).mask)] rfl ag116 sz116 rfl (B12.sub (o := 0) (vs := [.bool ((formOf (rvAt a.op.toNat).k).rd), .bool ((formOf (rvAt a.op.toNat).k).rs1), .bool ((formOf (rvAt a.op.toNat).k).rs2), iv, IN ((formOf (rvAt a.op.toNat).k).noughts), .bool ((formOf (rvAt a.op.toNat).k).signed), U32 ((formOf (rvAt a.op.toNat).k).mask)]) rfl) rfl (WL.fieldAddr rfl fo48_4 rfl ?_)))))))))
  have B14 := (B10).ext (em42)
  refine WL.load1 rfl ag2 (B14.cell (j := 4) rfl) rfl (WL.call ca50 (rfl) rfl (fits_spec (formOf (rvAt a.op.toNat).k) iv a.imm _ (S13) (formOf_fine _)) ?_)
  rintro _ wft ⟨rfl, eft⟩
  rw [hf]
  have E15 : Ext w wft := Mod.trans (E11) (eft)
  refine WL.un rfl rfl UnR.not (WL.nil (WC.condF rfl (WC.skip (WC.seq (WC.draw (fun w_ => Ext wft w_) 29 rfl mixed ?_)))))
  intro wd_7 ed_7
  have R16 : Ext wft wd_7 := Mod.trans (Mod.refl _ _) (ed_7)
  have E17 : Ext w wd_7 := Mod.trans (E15) (ed_7)
  refine WA.take (i := 0) (m' := 1) (v := ptr b4 8) rfl rfl rfl rfl (by kernel_rfl) rfl (fun _ _ _ h => h) (fun wx hS => ?_) (R16) ?_
  · exact WL.fieldAddr rfl fo118_2 rfl (WL.nil ⟨rfl, rfl, rfl⟩)
  refine WA.take (i := 1) (m' := 3) (v := U32 ((rvAt a.op.toNat).mtch)) rfl rfl rfl rfl (by kernel_rfl) rfl (fun _ _ _ h => h) (fun wx hS => ?_) (R16) ?_
  · have B20 := ((B12).ext (eft)).ext (hS)
    exact WL.load1 rfl ag50 (B20.cell (j := 8) rfl) rfl (WL.nil ⟨rfl, rfl, rfl⟩)
  refine WA.take (i := 2) (m' := 7) (v := ptr b1 1) rfl rfl rfl rfl (by kernel_rfl) rfl (fun _ _ _ h => h) (fun wx hS => ?_) (R16) ?_
  · exact WL.fieldAddr rfl fo48_1 rfl (WL.nil ⟨rfl, rfl, rfl⟩)
  refine WA.take (i := 3) (m' := 15) (v := U8 (a.rd)) rfl rfl rfl rfl (by kernel_rfl) rfl (fun _ _ _ h => h) (fun wx hS => ?_) (R16) ?_
  · have B23 := ((B14).ext (eft)).ext (hS)
    exact WL.load1 rfl ag5 (B23.cell (j := 1) rfl) rfl (WL.nil ⟨rfl, rfl, rfl⟩)
  refine WA.take (i := 4) (m' := 31) (v := U32 ((a.rd).setWidth 32)) rfl rfl rfl rfl (by kernel_rfl) rfl (fun _ _ _ h => h) (fun wx hS => ?_) (R16) ?_
  · exact WL.conv rfl rfl (ConvR.u8u32 Tryz.underlying5 Tryz.underlying50) (WL.nil ⟨rfl, rfl, rfl⟩)
  refine WA.take (i := 5) (m' := 63) (v := ptr 0 0) rfl rfl rfl rfl (by kernel_rfl) rfl (fun _ _ _ h => h) (fun wx hS => ?_) (R16) ?_
  · exact WL.fieldAddr rfl fo125_0 rfl (WL.nil ⟨rfl, rfl, rfl⟩)
  refine WA.take (i := 6) (m' := 127) (v := IN (7)) rfl rfl rfl rfl (by kernel_rfl) rfl (fun _ _ _ h => h) (fun wx hS => ?_) (R16) ?_
  · have E26 : Ext w wx := Mod.trans (E15) (hS)
    exact WL.load1 rfl ag3 ((hG.ext (E26)).rd 0 _ rfl) rfl (WL.nil ⟨rfl, rfl, rfl⟩)
  refine WA.take (i := 7) (m' := 255) (v := U32 (a.rd.setWidth 32 <<< 7)) rfl rfl rfl rfl (by kernel_rfl) rfl (fun _ _ _ h => h) (fun wx hS => ?_) (R16) ?_
  · exact WL.bin rfl rfl rfl (BinR.shlU32 (s := 7)) (WL.nil ⟨rfl, rfl, rfl⟩)
  refine WA.take (i := 8) (m' := 511) (v := ptr b1 2) rfl rfl rfl rfl (by kernel_rfl) rfl (fun _ _ _ h => h) (fun wx hS => ?_) (R16) ?_
  · exact WL.fieldAddr rfl fo48_2 rfl (WL.nil ⟨rfl, rfl, rfl⟩)
  refine WA.take (i := 9) (m' := 1023) (v := U8 (a.rs1)) rfl rfl rfl rfl (by kernel_rfl) rfl (fun _ _ _ h => h) (fun wx hS => ?_) (R16) ?_
  · have B30 := ((B14).ext (eft)).ext (hS)
    exact WL.load1 rfl ag5 (B30.cell (j := 2) rfl) rfl (WL.nil ⟨rfl, rfl, rfl⟩)
  refine WA.take (i := 10) (m' := 2047) (v := U32 ((a.rs1).setWidth 32)) rfl rfl rfl rfl (by kernel_rfl) rfl (fun _ _ _ h => h) (fun wx hS => ?_) (R16) ?_
  · exact WL.conv rfl rfl (ConvR.u8u32 Tryz.underlying5 Tryz.underlying50) (WL.nil ⟨rfl, rfl, rfl⟩)
  refine WA.take (i := 11) (m' := 4095) (v := ptr 1 0) rfl rfl rfl rfl (by kernel_rfl) rfl (fun _ _ _ h => h) (fun wx hS => ?_) (R16) ?_
  · exact WL.fieldAddr rfl fo125_0 rfl (WL.nil ⟨rfl, rfl, rfl⟩)
  refine WA.take (i := 12) (m' := 8191) (v := IN (15)) rfl rfl rfl rfl (by kernel_rfl) rfl (fun _ _ _ h => h) (fun wx hS => ?_) (R16) ?_
  · have E33 : Ext w wx := Mod.trans (E15) (hS)
    exact WL.load1 rfl ag3 ((hG.ext (E33)).rs1 0 _ rfl) rfl (WL.nil ⟨rfl, rfl, rfl⟩)
  refine WA.take (i := 13) (m' := 16383) (v := U32 (a.rs1.setWidth 32 <<< 15)) rfl rfl rfl rfl (by kernel_rfl) rfl (fun _ _ _ h => h) (fun wx hS => ?_) (R16) ?_
  · exact WL.bin rfl rfl rfl (BinR.shlU32 (s := 15)) (WL.nil ⟨rfl, rfl, rfl⟩)
  refine WA.take (i := 14) (m' := 32767) (v := ptr b1 3) rfl rfl rfl rfl (by kernel_rfl) rfl (fun _ _ _ h => h) (fun wx hS => ?_) (R16) ?_
  · exact WL.fieldAddr rfl fo48_3 rfl (WL.nil ⟨rfl, rfl, rfl⟩)
  refine WA.take (i := 15) (m' := 65535) (v := U8 (a.rs2)) rfl rfl rfl rfl (by kernel_rfl) rfl (fun _ _ _ h => h) (fun wx hS => ?_) (R16) ?_
  · have B37 := ((B14).ext (eft)).ext (hS)
    exact WL.load1 rfl ag5 (B37.cell (j := 3) rfl) rfl (WL.nil ⟨rfl, rfl, rfl⟩)
  refine WA.take (i := 16) (m' := 131071) (v := U32 ((a.rs2).setWidth 32)) rfl rfl rfl rfl (by kernel_rfl) rfl (fun _ _ _ h => h) (fun wx hS => ?_) (R16) ?_
  · exact WL.conv rfl rfl (ConvR.u8u32 Tryz.underlying5 Tryz.underlying50) (WL.nil ⟨rfl, rfl, rfl⟩)
  refine WA.take (i := 17) (m' := 262143) (v := ptr 2 0) rfl rfl rfl rfl (by kernel_rfl) rfl (fun _ _ _ h => h) (fun wx hS => ?_) (R16) ?_
  · exact WL.fieldAddr rfl fo125_0 rfl (WL.nil ⟨rfl, rfl, rfl⟩)
  refine WA.take (i := 18) (m' := 524287) (v := IN (20)) rfl rfl rfl rfl (by kernel_rfl) rfl (fun _ _ _ h => h) (fun wx hS => ?_) (R16) ?_
  · have E40 : Ext w wx := Mod.trans (E15) (hS)
    exact WL.load1 rfl ag3 ((hG.ext (E40)).rs2 0 _ rfl) rfl (WL.nil ⟨rfl, rfl, rfl⟩)
  refine WA.take (i := 19) (m' := 1048575) (v := U32 (a.rs2.setWidth 32 <<< 20)) rfl rfl rfl rfl (by kernel_rfl) rfl (fun _ _ _ h => h) (fun wx hS => ?_) (R16) ?_
  · exact WL.bin rfl rfl rfl (BinR.shlU32 (s := 20)) (WL.nil ⟨rfl, rfl, rfl⟩)
  refine WA.take (i := 20) (m' := 2097151) (v := ptr b4 0) rfl rfl rfl rfl (by kernel_rfl) rfl (fun _ _ _ h => h) (fun wx hS => ?_) (R16) ?_
  · exact WL.fieldAddr rfl fo118_0 rfl (WL.nil ⟨rfl, rfl, rfl⟩)
  refine WA.take (i := 21) (m' := 4194303) (v := .agg #[.bool ((formOf (rvAt a.op.toNat).k).rd), .bool ((formOf (rvAt a.op.toNat).k).rs1), .bool ((formOf (rvAt a.op.toNat).k).rs2), iv, IN ((formOf (rvAt a.op.toNat).k).noughts), .bool ((formOf (rvAt a.op.toNat).k).signed), U32 ((formOf (rvAt a.op.toNat).k).mask)]) rfl rfl rfl rfl (by kernel_rfl) rfl (fun _ _ _ h => h) (fun wx hS => ?_) (R16) ?_
  · have B44 := ((B12).ext (eft)).ext (hS)
    exact WL.loadS [.bool ((formOf (rvAt a.op.toNat).k).rd), .bool ((formOf (rvAt a.op.toNat).k).rs1), .bool ((formOf (rvAt a.op.toNat).k).rs2), iv, IN ((formOf (rvAt a.op.toNat).k).noughts), .bool ((formOf (rvAt a.op.toNat).k).signed), U32 ((formOf (rvAt a.op.toNat).k).mask)] rfl ag116 sz116 rfl (B44.sub (o := 0) (vs := [.bool ((formOf (rvAt a.op.toNat).k).rd), .bool ((formOf (rvAt a.op.toNat).k).rs1), .bool ((formOf (rvAt a.op.toNat).k).rs2), iv, IN ((formOf (rvAt a.op.toNat).k).noughts), .bool ((formOf (rvAt a.op.toNat).k).signed), U32 ((formOf (rvAt a.op.toNat).k).mask)]) rfl) rfl (WL.nil ⟨rfl, rfl, rfl⟩)
  refine WA.take (i := 22) (m' := 8388607) (v := ptr b1 4) rfl rfl rfl rfl (by kernel_rfl) rfl (fun _ _ _ h => h) (fun wx hS => ?_) (R16) ?_
  · exact WL.fieldAddr rfl fo48_4 rfl (WL.nil ⟨rfl, rfl, rfl⟩)
  refine WA.take (i := 23) (m' := 16777215) (v := I64 (a.imm)) rfl rfl rfl rfl (by kernel_rfl) rfl (fun _ _ _ h => h) (fun wx hS => ?_) (R16) ?_
  · have B47 := ((B14).ext (eft)).ext (hS)
    exact WL.load1 rfl ag2 (B47.cell (j := 4) rfl) rfl (WL.nil ⟨rfl, rfl, rfl⟩)
  refine WA.one (i := 24) (m' := 33554431) (by kernel_rfl) rfl rfl ?_
  have S48 := ((S13).ext' (eft)).ext' (ed_7)
  refine WL.call ca52 (rfl) rfl (spread_spec (formOf (rvAt a.op.toNat).k) iv a.imm _ (S48) (formOf_fine _)) ?_
  rintro _ wsp ⟨rfl, esp⟩
  have R49 : Ext wft wsp := Mod.trans (R16) (esp)
  have E50 : Ext w wsp := Mod.trans (E17) (esp)
  refine WL.behind (R49) ?_
  refine WA.one (i := 25) (m' := 67108863) (by kernel_rfl) rfl rfl ?_
  refine WL.buildSlice (vs := [(0, U32 ((rvAt a.op.toNat).mtch)), (1, U32 (a.rd.setWidth 32 <<< 7)), (2, U32 (a.rs1.setWidth 32 <<< 15)), (3, U32 (a.rs2.setWidth 32 <<< 20)), (4, U32 (spreadF (formOf (rvAt a.op.toNat).k) a.imm))]) rfl (bls28_88o0 (rvAt a.op.toNat).mtch (a.rd.setWidth 32 <<< 7) (a.rs1.setWidth 32 <<< 15) (a.rs2.setWidth 32 <<< 20) (spreadF (formOf (rvAt a.op.toNat).k) a.imm)) rfl ?_
  intro b88 w88 n88
  have R51 : Ext wft w88 := Mod.trans (R49) (n88.ext)
  have E52 : Ext w w88 := Mod.trans (E50) (n88.ext)
  refine WL.behind (R51) ?_
  refine WA.one (i := 26) (m' := 134217727) (by kernel_rfl) rfl rfl ?_
  refine WL.call ca51 (rfl) rfl (together_spec (.slice (some ⟨b88, 0, none⟩) 5 5) [(rvAt a.op.toNat).mtch, a.rd.setWidth 32 <<< 7, a.rs1.setWidth 32 <<< 15, a.rs2.setWidth 32 <<< 20, spreadF (formOf (rvAt a.op.toNat).k) a.imm] _ (Go.Proofs.M.Sl.ofCells (n := 5) n88.blk.cells rfl) (Nat.le_of_ble_eq_true rfl)) ?_
  rintro _ wtg ⟨rfl, etg⟩
  have R53 : Ext wft wtg := Mod.trans (R51) (etg)
  have E54 : Ext w wtg := Mod.trans (E52) (etg)
  refine WL.behind (R53) ?_
  refine WA.take (i := 27) (m' := 268435455) (v := U32 (tog [(rvAt a.op.toNat).mtch, a.rd.setWidth 32 <<< 7, a.rs1.setWidth 32 <<< 15, a.rs2.setWidth 32 <<< 20, spreadF (formOf (rvAt a.op.toNat).k) a.imm])) rfl rfl rfl rfl (by kernel_rfl) rfl (fun _ _ _ h => h) (fun wx hS => ?_) (R53) ?_
  · exact WL.assign (v := U32 (tog [(rvAt a.op.toNat).mtch, a.rd.setWidth 32 <<< 7, a.rs1.setWidth 32 <<< 15, a.rs2.setWidth 32 <<< 20, spreadF (formOf (rvAt a.op.toNat).k) a.imm])) rfl rfl (WL.nil ⟨rfl, rfl, rfl⟩)
  refine WA.take (i := 28) (m' := 536870911) (v := IN (0)) rfl rfl rfl rfl (by kernel_rfl) rfl (fun _ _ _ h => h) (fun wx hS => ?_) (R53) ?_
  · exact WL.assign (v := IN (0)) rfl rfl (WL.nil ⟨rfl, rfl, rfl⟩)
  refine WA.done (by kernel_rfl) ?_
  refine WC.ret ?_
  exact ⟨_, Res.two (v := U32 (tog [(rvAt a.op.toNat).mtch, a.rd.setWidth 32 <<< 7, a.rs1.setWidth 32 <<< 15, a.rs2.setWidth 32 <<< 20, spreadF (formOf (rvAt a.op.toNat).k) a.imm])) (v' := IN (0)) rfl rfl rfl, rfl, E54⟩
theorem encode_spec (a : RvInst) (w : World) (hG : Glob w) : CallsR Tryz.prog 28 #[instV a] w (fun v w' => v = .tuple #[U32 (encodeR a).1, IN (encodeR a).2] ∧ Ext w w') := by
  unfold encodeR
  by_cases ho : a.op.toNat < 1 ∨ 66 ≤ a.op.toNat
  · rw [if_pos ho]; exact enc_no a w hG ho
  rw [if_neg ho]
  have ho1 : 1 ≤ a.op.toNat := by omega
  have ho2 : a.op.toNat < 66 := by omega
  rcases hb : encBad a with _ | _
  · simp only [encBad, Bool.or_eq_false_iff, Bool.not_eq_false', Bool.and_eq_false_iff] at hb
    obtain ⟨m1, m2, m3, h4⟩ := hb
    rcases hf : fitsF (formOf (rvAt a.op.toNat).k) a.imm with _ | _
    · rcases Bool.eq_false_or_eq_true ((((formOf (rvAt a.op.toNat).k).imm.length : Nat) : Int) == (0 : Int)) with hi | hi
      · exact enc_rangeTrue a w hG ho1 ho2 m1 m2 m3 hi (h4.resolve_left (by rw [hi]; decide)) hf
      · exact enc_rangeFalse a w hG ho1 ho2 m1 m2 m3 hi hf
    · rcases Bool.eq_false_or_eq_true ((((formOf (rvAt a.op.toNat).k).imm.length : Nat) : Int) == (0 : Int)) with hi | hi
      · exact enc_okTrue a w hG ho1 ho2 m1 m2 m3 hi (h4.resolve_left (by rw [hi]; decide)) hf
      · exact enc_okFalse a w hG ho1 ho2 m1 m2 m3 hi hf
  · rcases h1 : mayF (formOf (rvAt a.op.toNat).k).rd a.rd with _ | _
    · exact enc_bad1 a w hG ho1 ho2 h1
    rcases h2 : mayF (formOf (rvAt a.op.toNat).k).rs1 a.rs1 with _ | _
    · exact enc_bad2 a w hG ho1 ho2 h1 h2
    rcases h3 : mayF (formOf (rvAt a.op.toNat).k).rs2 a.rs2 with _ | _
    · exact enc_bad3 a w hG ho1 ho2 h1 h2 h3
    · simp only [encBad, h1, h2, h3, Bool.not_true, Bool.false_or, Bool.and_eq_true] at hb
      exact enc_bad4 a w hG ho1 ho2 h1 h2 h3 hb.1 hb.2
end Go.Proofs.S
end
section
set_option linter.unusedSimpArgs false
set_option linter.unusedVariables false
namespace Go.Proofs.N
open Go Go.Ux Go.Ux.Mach Go.Proofs
theorem ca107 : callable Tryz.prog 107 = true := by kernel_rfl
theorem ca132 : callable Tryz.prog 132 = true := by kernel_rfl
theorem ca125 : callable Tryz.prog 125 = true := by kernel_rfl
theorem ca124 : callable Tryz.prog 124 = true := by kernel_rfl
theorem mixed : Tryz.prog.follows .mixedOrders = true := by kernel_rfl
theorem add_spec (x y : BitVec 64) (w : World) : CallsR Tryz.prog 104 #[U64 (x), U64 (y)] w (fun v w' => v = U64 (x + y) ∧ Ext w w') := by
  refine callsR_of Tryz.func104 rfl rfl rfl ?_
  refine WC.seq (WC.region (WL.assign (v := U64 (0#64)) rfl rfl (WL.nil (WC.seq (WC.region (WL.move (v := U64 (x)) rfl rfl (WL.move (v := U64 (y)) rfl rfl (WL.bin rfl rfl rfl (BinR.addU64) (WL.assign (v := U64 ((x + y))) rfl rfl ?_)))))))))
  refine WL.nil (WC.ret ?_)
  exact ⟨_, Res.one (v := U64 ((x + y))) rfl rfl, rfl, Mod.refl _ _⟩
theorem sub_spec (x y : BitVec 64) (w : World) : CallsR Tryz.prog 105 #[U64 (x), U64 (y)] w (fun v w' => v = U64 (x - y) ∧ Ext w w') := by
  refine callsR_of Tryz.func105 rfl rfl rfl ?_
  refine WC.seq (WC.region (WL.assign (v := U64 (0#64)) rfl rfl (WL.nil (WC.seq (WC.region (WL.move (v := U64 (x)) rfl rfl (WL.move (v := U64 (y)) rfl rfl (WL.bin rfl rfl rfl (BinR.subU64) (WL.assign (v := U64 ((x - y))) rfl rfl ?_)))))))))
  refine WL.nil (WC.ret ?_)
  exact ⟨_, Res.one (v := U64 ((x - y))) rfl rfl, rfl, Mod.refl _ _⟩
theorem xor_spec (x y : BitVec 64) (w : World) : CallsR Tryz.prog 109 #[U64 (x), U64 (y)] w (fun v w' => v = U64 (x ^^^ y) ∧ Ext w w') := by
  refine callsR_of Tryz.func109 rfl rfl rfl ?_
  refine WC.seq (WC.region (WL.assign (v := U64 (0#64)) rfl rfl (WL.nil (WC.seq (WC.region (WL.move (v := U64 (x)) rfl rfl (WL.move (v := U64 (y)) rfl rfl (WL.bin rfl rfl rfl (BinR.xorU64) (WL.assign (v := U64 ((x ^^^ y))) rfl rfl ?_)))))))))
  refine WL.nil (WC.ret ?_)
  exact ⟨_, Res.one (v := U64 ((x ^^^ y))) rfl rfl, rfl, Mod.refl _ _⟩
theorem or_spec (x y : BitVec 64) (w : World) : CallsR Tryz.prog 110 #[U64 (x), U64 (y)] w (fun v w' => v = U64 (x ||| y) ∧ Ext w w') := by
  refine callsR_of Tryz.func110 rfl rfl rfl ?_
  refine WC.seq (WC.region (WL.assign (v := U64 (0#64)) rfl rfl (WL.nil (WC.seq (WC.region (WL.move (v := U64 (x)) rfl rfl (WL.move (v := U64 (y)) rfl rfl (WL.bin rfl rfl rfl (BinR.orU64) (WL.assign (v := U64 ((x ||| y))) rfl rfl ?_)))))))))
  refine WL.nil (WC.ret ?_)
  exact ⟨_, Res.one (v := U64 ((x ||| y))) rfl rfl, rfl, Mod.refl _ _⟩
theorem and_spec (x y : BitVec 64) (w : World) : CallsR Tryz.prog 111 #[U64 (x), U64 (y)] w (fun v w' => v = U64 (x &&& y) ∧ Ext w w') := by
  refine callsR_of Tryz.func111 rfl rfl rfl ?_
  refine WC.seq (WC.region (WL.assign (v := U64 (0#64)) rfl rfl (WL.nil (WC.seq (WC.region (WL.move (v := U64 (x)) rfl rfl (WL.move (v := U64 (y)) rfl rfl (WL.bin rfl rfl rfl (BinR.andU64) (WL.assign (v := U64 ((x &&& y))) rfl rfl ?_)))))))))
  refine WL.nil (WC.ret ?_)
  exact ⟨_, Res.one (v := U64 ((x &&& y))) rfl rfl, rfl, Mod.refl _ _⟩
theorem mul_spec (x y : BitVec 64) (w : World) : CallsR Tryz.prog 112 #[U64 (x), U64 (y)] w (fun v w' => v = U64 (x * y) ∧ Ext w w') := by
  refine callsR_of Tryz.func112 rfl rfl rfl ?_
  refine WC.seq (WC.region (WL.assign (v := U64 (0#64)) rfl rfl (WL.nil (WC.seq (WC.region (WL.move (v := U64 (x)) rfl rfl (WL.move (v := U64 (y)) rfl rfl (WL.bin rfl rfl rfl (BinR.mulU64) (WL.assign (v := U64 ((x * y))) rfl rfl ?_)))))))))
  refine WL.nil (WC.ret ?_)
  exact ⟨_, Res.one (v := U64 ((x * y))) rfl rfl, rfl, Mod.refl _ _⟩
theorem bit_spec (b : Bool) (w : World) : CallsR Tryz.prog 107 #[.bool (b)] w (fun v w' => v = U64 (bitW b) ∧ Ext w w') := by
  refine callsR_of Tryz.func107 rfl rfl rfl ?_
  refine WC.seq (WC.region (WL.assign (v := U64 (0#64)) rfl rfl (WL.nil (WC.seq (WC.seq (WC.region (WL.move (v := .bool (b)) rfl rfl (WL.nil ?_))))))))
  refine WC.cond rfl (fun hc3 => ?_) (fun hc3 => ?_)
  · refine WC.seq (WC.region (WL.assign (v := U64 (1#64)) rfl rfl (WL.nil (WC.ret ?_))))
    exact ⟨_, Res.one (v := U64 (1#64)) rfl rfl, (by rw [hc3]; rfl), Mod.refl _ _⟩
  · refine WC.skip (WC.seq (WC.region (WL.assign (v := U64 (0#64)) rfl rfl (WL.nil (WC.ret ?_)))))
    exact ⟨_, Res.one (v := U64 (0#64)) rfl rfl, (by rw [hc3]; rfl), Mod.refl _ _⟩
theorem slt_spec (x y : BitVec 64) (w : World) : CallsR Tryz.prog 106 #[U64 (x), U64 (y)] w (fun v w' => v = U64 (bitW (BitVec.slt x y)) ∧ Ext w w') := by
  refine callsR_of Tryz.func106 rfl rfl rfl ?_
  refine WC.seq (WC.region (WL.assign (v := U64 (0#64)) rfl rfl (WL.nil (WC.seq (WC.region (WL.move (v := U64 (x)) rfl rfl (WL.conv rfl rfl (ConvR.u64i64 Tryz.underlying39 Tryz.underlying2) (WL.move (v := U64 (y)) rfl rfl (WL.conv rfl rfl (ConvR.u64i64 Tryz.underlying39 Tryz.underlying2) ?_)))))))))
  refine WL.bin rfl rfl rfl (BinR.lss64) (WL.call ca107 (rfl) rfl (bit_spec (BitVec.slt x y) _) ?_)
  rintro _ wb10 ⟨rfl, eb10⟩
  have E1 : Ext w wb10 := Mod.trans (Mod.refl _ _) (eb10)
  refine WL.assign (v := U64 (bitW (BitVec.slt x y))) rfl rfl (WL.nil (WC.ret ?_))
  exact ⟨_, Res.one (v := U64 (bitW (BitVec.slt x y))) rfl rfl, rfl, E1⟩
theorem sltu_spec (x y : BitVec 64) (w : World) : CallsR Tryz.prog 108 #[U64 (x), U64 (y)] w (fun v w' => v = U64 (bitW (BitVec.ult x y)) ∧ Ext w w') := by
  refine callsR_of Tryz.func108 rfl rfl rfl ?_
  refine WC.seq (WC.region (WL.assign (v := U64 (0#64)) rfl rfl (WL.nil (WC.seq (WC.region (WL.move (v := U64 (x)) rfl rfl (WL.move (v := U64 (y)) rfl rfl (WL.bin rfl rfl rfl (BinR.lssU64) (WL.call ca107 (rfl) rfl (bit_spec (BitVec.ult x y) _) ?_)))))))))
  rintro _ wb8 ⟨rfl, eb8⟩
  have E1 : Ext w wb8 := Mod.trans (Mod.refl _ _) (eb8)
  refine WL.assign (v := U64 (bitW (BitVec.ult x y))) rfl rfl (WL.nil (WC.ret ?_))
  exact ⟨_, Res.one (v := U64 (bitW (BitVec.ult x y))) rfl rfl, rfl, E1⟩
theorem sll_spec (x y : BitVec 64) (w : World) : CallsR Tryz.prog 115 #[U64 (x), U64 (y)] w (fun v w' => v = U64 (sllW x y) ∧ Ext w w') := by
  refine callsR_of Tryz.func115 rfl rfl rfl ?_
  refine WC.seq (WC.region (WL.assign (v := U64 (0#64)) rfl rfl (WL.nil (WC.seq (WC.region (WL.move (v := U64 (x)) rfl rfl (WL.move (v := U64 (y)) rfl rfl (WL.bin rfl (vy := U64 (63#64)) rfl rfl (BinR.andU64) (WL.bin rfl rfl rfl (BinR.shlU64 (s := (y &&& 63#64).toNat)) ?_)))))))))
  refine WL.assign (v := U64 (x <<< (y &&& 63#64).toNat)) rfl rfl (WL.nil (WC.ret ?_))
  exact ⟨_, Res.one (v := U64 (x <<< (y &&& 63#64).toNat)) rfl rfl, rfl, Mod.refl _ _⟩
theorem srl_spec (x y : BitVec 64) (w : World) : CallsR Tryz.prog 117 #[U64 (x), U64 (y)] w (fun v w' => v = U64 (srlW x y) ∧ Ext w w') := by
  refine callsR_of Tryz.func117 rfl rfl rfl ?_
  refine WC.seq (WC.region (WL.assign (v := U64 (0#64)) rfl rfl (WL.nil (WC.seq (WC.region (WL.move (v := U64 (x)) rfl rfl (WL.move (v := U64 (y)) rfl rfl (WL.bin rfl (vy := U64 (63#64)) rfl rfl (BinR.andU64) (WL.bin rfl rfl rfl (BinR.shrU64 (s := (y &&& 63#64).toNat)) ?_)))))))))
  refine WL.assign (v := U64 (x >>> (y &&& 63#64).toNat)) rfl rfl (WL.nil (WC.ret ?_))
  exact ⟨_, Res.one (v := U64 (x >>> (y &&& 63#64).toNat)) rfl rfl, rfl, Mod.refl _ _⟩
theorem sra_spec (x y : BitVec 64) (w : World) : CallsR Tryz.prog 118 #[U64 (x), U64 (y)] w (fun v w' => v = U64 (sraW x y) ∧ Ext w w') := by
  refine callsR_of Tryz.func118 rfl rfl rfl ?_
  refine WC.seq (WC.region (WL.assign (v := U64 (0#64)) rfl rfl (WL.nil (WC.seq (WC.region (WL.move (v := U64 (x)) rfl rfl (WL.conv rfl rfl (ConvR.u64i64 Tryz.underlying39 Tryz.underlying2) (WL.move (v := U64 (y)) rfl rfl (WL.bin rfl (vy := U64 (63#64)) rfl rfl (BinR.andU64) ?_)))))))))
  refine WL.bin rfl rfl rfl (BinR.shr64 (s := (y &&& 63#64).toNat)) (WL.conv rfl rfl (ConvR.i64u64 Tryz.underlying2 Tryz.underlying39) (WL.assign (v := U64 (BitVec.sshiftRight x (y &&& 63#64).toNat)) rfl rfl (WL.nil (WC.ret ?_))))
  exact ⟨_, Res.one (v := U64 (BitVec.sshiftRight x (y &&& 63#64).toNat)) rfl rfl, rfl, Mod.refl _ _⟩
theorem div_spec (x y : BitVec 64) (w : World) : CallsR Tryz.prog 119 #[U64 (x), U64 (y)] w (fun v w' => v = U64 (divW x y) ∧ Ext w w') := by
  refine callsR_of Tryz.func119 rfl rfl rfl ?_
  refine WC.seq (WC.region (WL.assign (v := U64 (0#64)) rfl rfl (WL.nil (WC.seq (WC.region (WL.move (v := U64 (x)) rfl rfl (WL.conv rfl rfl (ConvR.u64i64 Tryz.underlying39 Tryz.underlying2) (WL.move (v := U64 (y)) rfl rfl (WL.conv rfl rfl (ConvR.u64i64 Tryz.underlying39 Tryz.underlying2) ?_)))))))))
  refine WL.assign (v := I64 (x)) rfl rfl (WL.assign (v := I64 (y)) rfl rfl (WL.nil (WC.seq (WC.block (WC.seq (WC.region (WL.move (v := I64 (y)) rfl rfl (WL.bin rfl (vy := I64 (0#64)) rfl rfl (BinR.eql64) (WL.assign (v := .bool ((y == 0#64))) rfl rfl ?_)))))))))
  refine WL.nil ?_
  refine WC.cond rfl (fun hc11 => ?_) (fun hc11 => ?_)
  · refine WC.seq (WC.region (WL.assign (v := U64 (18446744073709551615#64)) rfl rfl (WL.nil (WC.ret ?_))))
    have hfin : ((U64 (18446744073709551615#64)) : Value) = U64 (divW x y) := congrArg U64 (by unfold divW; simp only [*, Bool.false_eq_true, if_false, if_true])
    exact ⟨_, Res.one (v := U64 (18446744073709551615#64)) rfl rfl, hfin, Mod.refl _ _⟩
  · have hy0 : y ≠ 0#64 := by simpa using hc11
    refine WC.seq (WC.region (WL.move (v := I64 (y)) rfl rfl (WL.bin rfl (vy := I64 (BitVec.ofInt 64 (-1))) (cI64 _ (by decide)) rfl (BinR.eql64) (WL.assign (v := .bool ((y == BitVec.ofInt 64 (-1)))) rfl rfl (WL.nil ?_)))))
    refine WC.cond rfl (fun hc14 => ?_) (fun hc14 => ?_)
    · refine WC.seq (WC.region (WL.move (v := U64 (x)) rfl rfl (WL.un rfl rfl UnR.negU64 (WL.assign (v := U64 (-(x))) rfl rfl (WL.nil (WC.ret ?_))))))
      have hfin : ((U64 (-(x))) : Value) = U64 (divW x y) := congrArg U64 (by unfold divW; simp only [*, Bool.false_eq_true, if_false, if_true])
      exact ⟨_, Res.one (v := U64 (-(x))) rfl rfl, hfin, Mod.refl _ _⟩
    · refine WC.skip (WC.seq (WC.region (WL.move (v := I64 (x)) rfl rfl (WL.move (v := I64 (y)) rfl rfl (WL.bin rfl rfl rfl (BinR.quo64 hy0) (WL.conv rfl rfl (ConvR.i64u64 Tryz.underlying2 Tryz.underlying39) (WL.assign (v := U64 (x.sdiv y)) rfl rfl (WL.nil (WC.ret ?_)))))))))
      have hfin : ((U64 (x.sdiv y)) : Value) = U64 (divW x y) := congrArg U64 (by unfold divW; simp only [*, Bool.false_eq_true, if_false, if_true])
      exact ⟨_, Res.one (v := U64 (x.sdiv y)) rfl rfl, hfin, Mod.refl _ _⟩
theorem rem_spec (x y : BitVec 64) (w : World) : CallsR Tryz.prog 121 #[U64 (x), U64 (y)] w (fun v w' => v = U64 (remW x y) ∧ Ext w w') := by
  refine callsR_of Tryz.func121 rfl rfl rfl ?_
  refine WC.seq (WC.region (WL.assign (v := U64 (0#64)) rfl rfl (WL.nil (WC.seq (WC.region (WL.move (v := U64 (x)) rfl rfl (WL.conv rfl rfl (ConvR.u64i64 Tryz.underlying39 Tryz.underlying2) (WL.move (v := U64 (y)) rfl rfl (WL.conv rfl rfl (ConvR.u64i64 Tryz.underlying39 Tryz.underlying2) ?_)))))))))
  refine WL.assign (v := I64 (x)) rfl rfl (WL.assign (v := I64 (y)) rfl rfl (WL.nil (WC.seq (WC.block (WC.seq (WC.region (WL.move (v := I64 (y)) rfl rfl (WL.bin rfl (vy := I64 (0#64)) rfl rfl (BinR.eql64) (WL.assign (v := .bool ((y == 0#64))) rfl rfl ?_)))))))))
  refine WL.nil ?_
  refine WC.cond rfl (fun hc11 => ?_) (fun hc11 => ?_)
  · refine WC.seq (WC.region (WL.move (v := U64 (x)) rfl rfl (WL.assign (v := U64 (x)) rfl rfl (WL.nil (WC.ret ?_)))))
    have hfin : ((U64 (x)) : Value) = U64 (remW x y) := congrArg U64 (by unfold remW; simp only [*, Bool.false_eq_true, if_false, if_true])
    exact ⟨_, Res.one (v := U64 (x)) rfl rfl, hfin, Mod.refl _ _⟩
  · have hy0 : y ≠ 0#64 := by simpa using hc11
    refine WC.seq (WC.region (WL.move (v := I64 (y)) rfl rfl (WL.bin rfl (vy := I64 (BitVec.ofInt 64 (-1))) (cI64 _ (by decide)) rfl (BinR.eql64) (WL.assign (v := .bool ((y == BitVec.ofInt 64 (-1)))) rfl rfl (WL.nil ?_)))))
    refine WC.cond rfl (fun hc15 => ?_) (fun hc15 => ?_)
    · refine WC.seq (WC.region (WL.assign (v := U64 (0#64)) rfl rfl (WL.nil (WC.ret ?_))))
      have hfin : ((U64 (0#64)) : Value) = U64 (remW x y) := congrArg U64 (by unfold remW; simp only [*, Bool.false_eq_true, if_false, if_true])
      exact ⟨_, Res.one (v := U64 (0#64)) rfl rfl, hfin, Mod.refl _ _⟩
    · refine WC.skip (WC.seq (WC.region (WL.move (v := I64 (x)) rfl rfl (WL.move (v := I64 (y)) rfl rfl (WL.bin rfl rfl rfl (BinR.rem64 hy0) (WL.conv rfl rfl (ConvR.i64u64 Tryz.underlying2 Tryz.underlying39) (WL.assign (v := U64 (x.srem y)) rfl rfl (WL.nil (WC.ret ?_)))))))))
      have hfin : ((U64 (x.srem y)) : Value) = U64 (remW x y) := congrArg U64 (by unfold remW; simp only [*, Bool.false_eq_true, if_false, if_true])
      exact ⟨_, Res.one (v := U64 (x.srem y)) rfl rfl, hfin, Mod.refl _ _⟩
theorem divu_spec (x y : BitVec 64) (w : World) : CallsR Tryz.prog 120 #[U64 (x), U64 (y)] w (fun v w' => v = U64 (divuW x y) ∧ Ext w w') := by
  refine callsR_of Tryz.func120 rfl rfl rfl ?_
  refine WC.seq (WC.region (WL.assign (v := U64 (0#64)) rfl rfl (WL.nil (WC.seq (WC.seq (WC.region (WL.move (v := U64 (y)) rfl rfl (WL.bin rfl (vy := U64 (0#64)) rfl rfl (BinR.eqlU64) (WL.nil ?_)))))))))
  refine WC.cond rfl (fun hc6 => ?_) (fun hc6 => ?_)
  · refine WC.seq (WC.region (WL.assign (v := U64 (18446744073709551615#64)) rfl rfl (WL.nil (WC.ret ?_))))
    have hfin : ((U64 (18446744073709551615#64)) : Value) = U64 (divuW x y) := congrArg U64 (by unfold divuW; simp only [*, Bool.false_eq_true, if_false, if_true])
    exact ⟨_, Res.one (v := U64 (18446744073709551615#64)) rfl rfl, hfin, Mod.refl _ _⟩
  · have hy0 : y ≠ 0#64 := by simpa using hc6
    refine WC.skip (WC.seq (WC.region (WL.move (v := U64 (x)) rfl rfl (WL.move (v := U64 (y)) rfl rfl (WL.bin rfl rfl rfl (BinR.quoU64 hy0) (WL.assign (v := U64 (x / y)) rfl rfl (WL.nil (WC.ret ?_))))))))
    have hfin : ((U64 (x / y)) : Value) = U64 (divuW x y) := congrArg U64 (by unfold divuW; simp only [*, Bool.false_eq_true, if_false, if_true])
    exact ⟨_, Res.one (v := U64 (x / y)) rfl rfl, hfin, Mod.refl _ _⟩
theorem remu_spec (x y : BitVec 64) (w : World) : CallsR Tryz.prog 122 #[U64 (x), U64 (y)] w (fun v w' => v = U64 (remuW x y) ∧ Ext w w') := by
  refine callsR_of Tryz.func122 rfl rfl rfl ?_
  refine WC.seq (WC.region (WL.assign (v := U64 (0#64)) rfl rfl (WL.nil (WC.seq (WC.seq (WC.region (WL.move (v := U64 (y)) rfl rfl (WL.bin rfl (vy := U64 (0#64)) rfl rfl (BinR.eqlU64) (WL.nil ?_)))))))))
  refine WC.cond rfl (fun hc6 => ?_) (fun hc6 => ?_)
  · refine WC.seq (WC.region (WL.move (v := U64 (x)) rfl rfl (WL.assign (v := U64 (x)) rfl rfl (WL.nil (WC.ret ?_)))))
    have hfin : ((U64 (x)) : Value) = U64 (remuW x y) := congrArg U64 (by unfold remuW; simp only [*, Bool.false_eq_true, if_false, if_true])
    exact ⟨_, Res.one (v := U64 (x)) rfl rfl, hfin, Mod.refl _ _⟩
  · have hy0 : y ≠ 0#64 := by simpa using hc6
    refine WC.skip (WC.seq (WC.region (WL.move (v := U64 (x)) rfl rfl (WL.move (v := U64 (y)) rfl rfl (WL.bin rfl rfl rfl (BinR.remU64 hy0) (WL.assign (v := U64 (x % y)) rfl rfl (WL.nil (WC.ret ?_))))))))
    have hfin : ((U64 (x % y)) : Value) = U64 (remuW x y) := congrArg U64 (by unfold remuW; simp only [*, Bool.false_eq_true, if_false, if_true])
    exact ⟨_, Res.one (v := U64 (x % y)) rfl rfl, hfin, Mod.refl _ _⟩
theorem mul64_spec (x y : BitVec 64) (w : World) : CallsR Tryz.prog 132 #[U64 (x), U64 (y)] w (fun v w' => v = .tuple #[U64 (hiW x y), U64 (x * y)] ∧ Ext w w') := by
  refine callsR_of Tryz.func132 rfl rfl rfl ?_
  refine WC.seq (WC.region (WL.assign (v := U64 (0#64)) rfl rfl (WL.assign (v := U64 (0#64)) rfl rfl (WL.nil (WC.seq (WC.region (WL.move (v := U64 (x)) rfl rfl (WL.bin rfl (vy := U64 (4294967295#64)) rfl rfl (BinR.andU64) (WL.assign (v := U64 ((x &&& 4294967295#64))) rfl rfl ?_)))))))))
  refine WL.nil (WC.seq (WC.region (WL.move (v := U64 (x)) rfl rfl (WL.bin rfl (vy := .int .u64 ((32 : Nat) : Int)) rfl rfl BinR.shrU64 (WL.assign (v := U64 ((x >>> (32)))) rfl rfl (WL.nil (WC.seq (WC.region (WL.move (v := U64 (y)) rfl rfl ?_)))))))))
  refine WL.bin rfl (vy := U64 (4294967295#64)) rfl rfl (BinR.andU64) (WL.assign (v := U64 ((y &&& 4294967295#64))) rfl rfl (WL.nil (WC.seq (WC.region (WL.move (v := U64 (y)) rfl rfl (WL.bin rfl (vy := .int .u64 ((32 : Nat) : Int)) rfl rfl BinR.shrU64 (WL.assign (v := U64 ((y >>> (32)))) rfl rfl (WL.nil (WC.seq ?_)))))))))
  refine WC.region (WL.move (v := U64 ((x &&& 4294967295#64))) rfl rfl (WL.move (v := U64 ((y &&& 4294967295#64))) rfl rfl (WL.bin rfl rfl rfl (BinR.mulU64) (WL.assign (v := U64 (((x &&& 4294967295#64) * (y &&& 4294967295#64)))) rfl rfl (WL.nil (WC.seq (WC.region (WL.move (v := U64 ((x >>> (32)))) rfl rfl (WL.move (v := U64 ((y &&& 4294967295#64))) rfl rfl ?_)))))))))
  refine WL.bin rfl rfl rfl (BinR.mulU64) (WL.move (v := U64 (((x &&& 4294967295#64) * (y &&& 4294967295#64)))) rfl rfl (WL.bin rfl (vy := .int .u64 ((32 : Nat) : Int)) rfl rfl BinR.shrU64 (WL.bin rfl rfl rfl (BinR.addU64) (WL.assign (v := U64 ((((x >>> (32)) * (y &&& 4294967295#64)) + (((x &&& 4294967295#64) * (y &&& 4294967295#64)) >>> (32))))) rfl rfl (WL.nil (WC.seq (WC.region (WL.move (v := U64 ((((x >>> (32)) * (y &&& 4294967295#64)) + (((x &&& 4294967295#64) * (y &&& 4294967295#64)) >>> (32))))) rfl rfl (WL.bin rfl (vy := U64 (4294967295#64)) rfl rfl (BinR.andU64) ?_)))))))))
  refine WL.assign (v := U64 (((((x >>> (32)) * (y &&& 4294967295#64)) + (((x &&& 4294967295#64) * (y &&& 4294967295#64)) >>> (32))) &&& 4294967295#64))) rfl rfl (WL.nil (WC.seq (WC.region (WL.move (v := U64 ((((x >>> (32)) * (y &&& 4294967295#64)) + (((x &&& 4294967295#64) * (y &&& 4294967295#64)) >>> (32))))) rfl rfl (WL.bin rfl (vy := .int .u64 ((32 : Nat) : Int)) rfl rfl BinR.shrU64 (WL.assign (v := U64 (((((x >>> (32)) * (y &&& 4294967295#64)) + (((x &&& 4294967295#64) * (y &&& 4294967295#64)) >>> (32))) >>> (32)))) rfl rfl (WL.nil (WC.seq (WC.region ?_)))))))))
  refine WL.move (v := U64 (((((x >>> (32)) * (y &&& 4294967295#64)) + (((x &&& 4294967295#64) * (y &&& 4294967295#64)) >>> (32))) &&& 4294967295#64))) rfl rfl (WL.move (v := U64 ((x &&& 4294967295#64))) rfl rfl (WL.move (v := U64 ((y >>> (32)))) rfl rfl (WL.bin rfl rfl rfl (BinR.mulU64) (WL.bin rfl rfl rfl (BinR.addU64) (WL.assign (v := U64 ((((((x >>> (32)) * (y &&& 4294967295#64)) + (((x &&& 4294967295#64) * (y &&& 4294967295#64)) >>> (32))) &&& 4294967295#64) + ((x &&& 4294967295#64) * (y >>> (32)))))) rfl rfl (WL.nil (WC.seq (WC.region (WL.move (v := U64 ((x >>> (32)))) rfl rfl ?_)))))))))
  refine WL.move (v := U64 ((y >>> (32)))) rfl rfl (WL.bin rfl rfl rfl (BinR.mulU64) (WL.move (v := U64 (((((x >>> (32)) * (y &&& 4294967295#64)) + (((x &&& 4294967295#64) * (y &&& 4294967295#64)) >>> (32))) >>> (32)))) rfl rfl (WL.bin rfl rfl rfl (BinR.addU64) (WL.move (v := U64 ((((((x >>> (32)) * (y &&& 4294967295#64)) + (((x &&& 4294967295#64) * (y &&& 4294967295#64)) >>> (32))) &&& 4294967295#64) + ((x &&& 4294967295#64) * (y >>> (32)))))) rfl rfl (WL.bin rfl (vy := .int .u64 ((32 : Nat) : Int)) rfl rfl BinR.shrU64 (WL.bin rfl rfl rfl (BinR.addU64) (WL.assign (v := U64 (((((x >>> (32)) * (y >>> (32))) + ((((x >>> (32)) * (y &&& 4294967295#64)) + (((x &&& 4294967295#64) * (y &&& 4294967295#64)) >>> (32))) >>> (32))) + ((((((x >>> (32)) * (y &&& 4294967295#64)) + (((x &&& 4294967295#64) * (y &&& 4294967295#64)) >>> (32))) &&& 4294967295#64) + ((x &&& 4294967295#64) * (y >>> (32)))) >>> (32))))) rfl rfl (WL.nil (WC.seq ?_)))))))))
  refine WC.region (WL.move (v := U64 (x)) rfl rfl (WL.move (v := U64 (y)) rfl rfl (WL.bin rfl rfl rfl (BinR.mulU64) (WL.assign (v := U64 ((x * y))) rfl rfl (WL.nil (WC.ret ?_))))))
  exact ⟨_, Res.two (v := U64 (((((x >>> (32)) * (y >>> (32))) + ((((x >>> (32)) * (y &&& 4294967295#64)) + (((x &&& 4294967295#64) * (y &&& 4294967295#64)) >>> (32))) >>> (32))) + ((((((x >>> (32)) * (y &&& 4294967295#64)) + (((x &&& 4294967295#64) * (y &&& 4294967295#64)) >>> (32))) &&& 4294967295#64) + ((x &&& 4294967295#64) * (y >>> (32)))) >>> (32))))) (v' := U64 ((x * y))) rfl rfl rfl, rfl, Mod.refl _ _⟩
theorem mulhu_spec (x y : BitVec 64) (w : World) : CallsR Tryz.prog 125 #[U64 (x), U64 (y)] w (fun v w' => v = U64 (hiW x y) ∧ Ext w w') := by
  refine callsR_of Tryz.func125 rfl rfl rfl ?_
  refine WC.seq (WC.region (WL.assign (v := U64 (0#64)) rfl rfl (WL.nil (WC.seq (WC.region (WL.move (v := U64 (x)) rfl rfl (WL.move (v := U64 (y)) rfl rfl (WL.call ca132 (rfl) rfl (mul64_spec x y _) ?_))))))))
  rintro _ wb ⟨rfl, eb⟩
  have E1 : Ext w wb := Mod.trans (Mod.refl _ _) (eb)
  refine WL.move (v := .tuple #[U64 (hiW x y), U64 (x * y)]) rfl rfl (WL.extract rfl rfl rfl (WL.extract rfl rfl rfl (WL.assign (v := U64 (hiW x y)) rfl rfl (WL.assign (v := U64 (x * y)) rfl rfl (WL.nil (WC.seq (WC.region (WL.move (v := U64 (hiW x y)) rfl rfl (WL.assign (v := U64 (hiW x y)) rfl rfl ?_)))))))))
  refine WL.nil (WC.ret ?_)
  exact ⟨_, Res.one (v := U64 (hiW x y)) rfl rfl, rfl, E1⟩
theorem mulhsu_spec (x y : BitVec 64) (w : World) : CallsR Tryz.prog 124 #[U64 (x), U64 (y)] w (fun v w' => v = U64 (mulhsuW x y) ∧ Ext w w') := by
  refine callsR_of Tryz.func124 rfl rfl rfl ?_
  refine WC.seq (WC.region (WL.assign (v := U64 (0#64)) rfl rfl (WL.nil (WC.seq (WC.region (WL.move (v := U64 (x)) rfl rfl (WL.move (v := U64 (y)) rfl rfl (WL.call ca125 (rfl) rfl (mulhu_spec x y _) ?_))))))))
  rintro _ wb ⟨rfl, eb⟩
  have E1 : Ext w wb := Mod.trans (Mod.refl _ _) (eb)
  refine WL.move (v := U64 (y)) rfl rfl (WL.move (v := U64 (x)) rfl rfl (WL.conv rfl rfl (ConvR.u64i64 Tryz.underlying39 Tryz.underlying2) (WL.bin rfl (vy := I64 (0#64)) rfl rfl (BinR.lss64) (WL.call ca107 (rfl) rfl (bit_spec (BitVec.slt x 0#64) _) ?_))))
  rintro _ wb12 ⟨rfl, eb12⟩
  have E2 : Ext w wb12 := Mod.trans (E1) (eb12)
  refine WL.bin rfl rfl rfl (BinR.mulU64) (WL.bin rfl rfl rfl (BinR.subU64) (WL.assign (v := U64 ((hiW x y - (y * bitW (BitVec.slt x 0#64))))) rfl rfl (WL.nil (WC.ret ?_))))
  exact ⟨_, Res.one (v := U64 ((hiW x y - (y * bitW (BitVec.slt x 0#64))))) rfl rfl, rfl, E2⟩
theorem mulh_spec (x y : BitVec 64) (w : World) : CallsR Tryz.prog 123 #[U64 (x), U64 (y)] w (fun v w' => v = U64 (mulhW x y) ∧ Ext w w') := by
  refine callsR_of Tryz.func123 rfl rfl rfl ?_
  refine WC.seq (WC.region (WL.assign (v := U64 (0#64)) rfl rfl (WL.nil (WC.seq (WC.region (WL.move (v := U64 (x)) rfl rfl (WL.move (v := U64 (y)) rfl rfl (WL.call ca124 (rfl) rfl (mulhsu_spec x y _) ?_))))))))
  rintro _ wb ⟨rfl, eb⟩
  have E1 : Ext w wb := Mod.trans (Mod.refl _ _) (eb)
  refine WL.move (v := U64 (x)) rfl rfl (WL.move (v := U64 (y)) rfl rfl (WL.conv rfl rfl (ConvR.u64i64 Tryz.underlying39 Tryz.underlying2) (WL.bin rfl (vy := I64 (0#64)) rfl rfl (BinR.lss64) (WL.call ca107 (rfl) rfl (bit_spec (BitVec.slt y 0#64) _) ?_))))
  rintro _ wb12 ⟨rfl, eb12⟩
  have E2 : Ext w wb12 := Mod.trans (E1) (eb12)
  refine WL.bin rfl rfl rfl (BinR.mulU64) (WL.bin rfl rfl rfl (BinR.subU64) (WL.assign (v := U64 ((mulhsuW x y - (x * bitW (BitVec.slt y 0#64))))) rfl rfl (WL.nil (WC.ret ?_))))
  exact ⟨_, Res.one (v := U64 ((mulhsuW x y - (x * bitW (BitVec.slt y 0#64))))) rfl rfl, rfl, E2⟩
theorem sign_spec (x : BitVec 64) (m : Nat) (w : World) (hm : m ≤ 64) : CallsR Tryz.prog 74 #[U64 (x), IN (m)] w (fun v w' => v = U64 (signW x m) ∧ Ext w w') := by
  refine callsR_of Tryz.func74 rfl rfl rfl ?_
  refine WC.seq (WC.region (WL.assign (v := U64 (0#64)) rfl rfl (WL.nil (WC.seq (WC.region (WL.move (v := U64 (x)) rfl rfl (WL.move (v := IN (m)) rfl rfl (WL.bin rfl rfl rfl (BinR.subN (a := 64) (b := m) (by omega) (by omega)) (WL.bin rfl rfl rfl (BinR.shlU64 (s := 64 - m)) ?_)))))))))
  refine WL.conv rfl rfl (ConvR.u64i64 Tryz.underlying39 Tryz.underlying2) (WL.move (v := IN (m)) rfl rfl (WL.bin rfl rfl rfl (BinR.subN (a := 64) (b := m) (by omega) (by omega)) (WL.bin rfl rfl rfl (BinR.shr64 (s := 64 - m)) (WL.conv rfl rfl (ConvR.i64u64 Tryz.underlying2 Tryz.underlying39) (WL.assign (v := U64 (BitVec.sshiftRight (x <<< (64 - m)) (64 - m))) rfl rfl (WL.nil (WC.ret ?_)))))))
  exact ⟨_, Res.one (v := U64 (BitVec.sshiftRight (x <<< (64 - m)) (64 - m))) rfl rfl, rfl, Mod.refl _ _⟩
end Go.Proofs.N
end
