import Derived.Test.YtgjhmdnbpnpkaaaDoorUxMem
import Derived.Test.YtgjhmdnbpnpkaaaDoorWordPure2
import Derived.Test.YtgjhmdnbpnpkaaaDoorRows
import Derived.Test.YtgjhmdnbpnpkaaaDoorWtW4
set_option linter.unusedSimpArgs false
set_option linter.unusedVariables false
namespace Go.Proofs.W
open Go Go.Ux Go.Ux.Word Go.Proofs
theorem ca53 : callable Tryd.prog 53 = true := by kernel_rfl

theorem clo1 (x y : BitVec 64) (w : World) : CallsR Tryd.prog 39 #[I64 (x), I64 (y)] w (fun v w' => v = I64 (opW 1 x y) ∧ w = w') := by
  refine callsR_of Tryd.func39 rfl rfl rfl ?_
  refine WC.seq ?_
  refine WC.region ?_
  refine WL.assign (v := I64 (0#64)) rfl rfl ?_
  refine WL.nil ?_
  refine WC.seq ?_
  refine WC.region ?_
  refine WL.move (v := I64 (x)) rfl rfl ?_
  refine WL.move (v := I64 (y)) rfl rfl ?_
  refine WL.bin rfl rfl rfl (BinR.add64) ?_
  refine WL.assign (v := I64 ((x + y))) rfl rfl ?_
  refine WL.nil ?_
  refine WC.ret ?_
  exact ⟨_, Res.one (v := I64 ((x + y))) rfl rfl, rfl, rfl⟩

theorem clo2 (x y : BitVec 64) (w : World) : CallsR Tryd.prog 40 #[I64 (x), I64 (y)] w (fun v w' => v = I64 (opW 2 x y) ∧ w = w') := by
  refine callsR_of Tryd.func40 rfl rfl rfl ?_
  refine WC.seq ?_
  refine WC.region ?_
  refine WL.assign (v := I64 (0#64)) rfl rfl ?_
  refine WL.nil ?_
  refine WC.seq ?_
  refine WC.region ?_
  refine WL.move (v := I64 (x)) rfl rfl ?_
  refine WL.move (v := I64 (y)) rfl rfl ?_
  refine WL.bin rfl rfl rfl (BinR.sub64) ?_
  refine WL.assign (v := I64 ((x - y))) rfl rfl ?_
  refine WL.nil ?_
  refine WC.ret ?_
  exact ⟨_, Res.one (v := I64 ((x - y))) rfl rfl, rfl, rfl⟩

theorem clo3 (x y : BitVec 64) (w : World) : CallsR Tryd.prog 41 #[I64 (x), I64 (y)] w (fun v w' => v = I64 (opW 3 x y) ∧ w = w') := by
  refine callsR_of Tryd.func41 rfl rfl rfl ?_
  refine WC.seq ?_
  refine WC.region ?_
  refine WL.assign (v := I64 (0#64)) rfl rfl ?_
  refine WL.nil ?_
  refine WC.seq ?_
  refine WC.region ?_
  refine WL.move (v := I64 (x)) rfl rfl ?_
  refine WL.move (v := I64 (y)) rfl rfl ?_
  refine WL.bin rfl rfl rfl (BinR.mul64) ?_
  refine WL.assign (v := I64 ((x * y))) rfl rfl ?_
  refine WL.nil ?_
  refine WC.ret ?_
  exact ⟨_, Res.one (v := I64 ((x * y))) rfl rfl, rfl, rfl⟩

theorem clo8 (x y : BitVec 64) (w : World) : CallsR Tryd.prog 46 #[I64 (x), I64 (y)] w (fun v w' => v = I64 (opW 8 x y) ∧ w = w') := by
  refine callsR_of Tryd.func46 rfl rfl rfl ?_
  refine WC.seq ?_
  refine WC.region ?_
  refine WL.assign (v := I64 (0#64)) rfl rfl ?_
  refine WL.nil ?_
  refine WC.seq ?_
  refine WC.region ?_
  refine WL.move (v := I64 (x)) rfl rfl ?_
  refine WL.move (v := I64 (y)) rfl rfl ?_
  refine WL.bin rfl rfl rfl (BinR.and64) ?_
  refine WL.assign (v := I64 ((x &&& y))) rfl rfl ?_
  refine WL.nil ?_
  refine WC.ret ?_
  exact ⟨_, Res.one (v := I64 ((x &&& y))) rfl rfl, rfl, rfl⟩

theorem clo9 (x y : BitVec 64) (w : World) : CallsR Tryd.prog 47 #[I64 (x), I64 (y)] w (fun v w' => v = I64 (opW 9 x y) ∧ w = w') := by
  refine callsR_of Tryd.func47 rfl rfl rfl ?_
  refine WC.seq ?_
  refine WC.region ?_
  refine WL.assign (v := I64 (0#64)) rfl rfl ?_
  refine WL.nil ?_
  refine WC.seq ?_
  refine WC.region ?_
  refine WL.move (v := I64 (x)) rfl rfl ?_
  refine WL.move (v := I64 (y)) rfl rfl ?_
  refine WL.bin rfl rfl rfl (BinR.or64) ?_
  refine WL.assign (v := I64 ((x ||| y))) rfl rfl ?_
  refine WL.nil ?_
  refine WC.ret ?_
  exact ⟨_, Res.one (v := I64 ((x ||| y))) rfl rfl, rfl, rfl⟩

theorem clo10 (x y : BitVec 64) (w : World) : CallsR Tryd.prog 48 #[I64 (x), I64 (y)] w (fun v w' => v = I64 (opW 10 x y) ∧ w = w') := by
  refine callsR_of Tryd.func48 rfl rfl rfl ?_
  refine WC.seq ?_
  refine WC.region ?_
  refine WL.assign (v := I64 (0#64)) rfl rfl ?_
  refine WL.nil ?_
  refine WC.seq ?_
  refine WC.region ?_
  refine WL.move (v := I64 (x)) rfl rfl ?_
  refine WL.move (v := I64 (y)) rfl rfl ?_
  refine WL.bin rfl rfl rfl (BinR.xor64) ?_
  refine WL.assign (v := I64 ((x ^^^ y))) rfl rfl ?_
  refine WL.nil ?_
  refine WC.ret ?_
  exact ⟨_, Res.one (v := I64 ((x ^^^ y))) rfl rfl, rfl, rfl⟩

theorem clo11 (x y : BitVec 64) (w : World) : CallsR Tryd.prog 49 #[I64 (x), I64 (y)] w (fun v w' => v = I64 (opW 11 x y) ∧ w = w') := by
  refine callsR_of Tryd.func49 rfl rfl rfl ?_
  refine WC.seq ?_
  refine WC.region ?_
  refine WL.assign (v := I64 (0#64)) rfl rfl ?_
  refine WL.nil ?_
  refine WC.seq ?_
  refine WC.region ?_
  refine WL.move (v := I64 (x)) rfl rfl ?_
  refine WL.move (v := I64 (y)) rfl rfl ?_
  refine WL.bin rfl (vy := I64 (63#64)) rfl rfl (BinR.and64) ?_
  refine WL.bin rfl rfl rfl (BinR.shl64z (six_int y)) ?_
  refine WL.assign (v := I64 ((x <<< (((y &&& 63#64)).toNat)))) rfl rfl ?_
  refine WL.nil ?_
  refine WC.ret ?_
  exact ⟨_, Res.one (v := I64 ((x <<< (((y &&& 63#64)).toNat)))) rfl rfl, rfl, rfl⟩

theorem clo12 (x y : BitVec 64) (w : World) : CallsR Tryd.prog 50 #[I64 (x), I64 (y)] w (fun v w' => v = I64 (opW 12 x y) ∧ w = w') := by
  refine callsR_of Tryd.func50 rfl rfl rfl ?_
  refine WC.seq ?_
  refine WC.region ?_
  refine WL.assign (v := I64 (0#64)) rfl rfl ?_
  refine WL.nil ?_
  refine WC.seq ?_
  refine WC.region ?_
  refine WL.move (v := I64 (x)) rfl rfl ?_
  refine WL.conv rfl rfl (ConvR.i64u64 Tryd.underlying2 Tryd.underlying43) ?_
  refine WL.move (v := I64 (y)) rfl rfl ?_
  refine WL.bin rfl (vy := I64 (63#64)) rfl rfl (BinR.and64) ?_
  refine WL.bin rfl rfl rfl (BinR.shrU64z (six_int y)) ?_
  refine WL.conv rfl rfl (ConvR.u64i64 Tryd.underlying43 Tryd.underlying2) ?_
  refine WL.assign (v := I64 ((x >>> (((y &&& 63#64)).toNat)))) rfl rfl ?_
  refine WL.nil ?_
  refine WC.ret ?_
  exact ⟨_, Res.one (v := I64 ((x >>> (((y &&& 63#64)).toNat)))) rfl rfl, rfl, rfl⟩

theorem clo13 (x y : BitVec 64) (w : World) : CallsR Tryd.prog 51 #[I64 (x), I64 (y)] w (fun v w' => v = I64 (opW 13 x y) ∧ w = w') := by
  refine callsR_of Tryd.func51 rfl rfl rfl ?_
  refine WC.seq ?_
  refine WC.region ?_
  refine WL.assign (v := I64 (0#64)) rfl rfl ?_
  refine WL.nil ?_
  refine WC.seq ?_
  refine WC.region ?_
  refine WL.move (v := I64 (x)) rfl rfl ?_
  refine WL.move (v := I64 (y)) rfl rfl ?_
  refine WL.bin rfl (vy := I64 (63#64)) rfl rfl (BinR.and64) ?_
  refine WL.bin rfl rfl rfl (BinR.shr64z (six_int y)) ?_
  refine WL.assign (v := I64 ((BitVec.sshiftRight (x) (((y &&& 63#64)).toNat)))) rfl rfl ?_
  refine WL.nil ?_
  refine WC.ret ?_
  exact ⟨_, Res.one (v := I64 ((BitVec.sshiftRight (x) (((y &&& 63#64)).toNat)))) rfl rfl, rfl, rfl⟩

theorem clo14 (x y : BitVec 64) (w : World) : CallsR Tryd.prog 52 #[I64 (x), I64 (y)] w (fun v w' => v = I64 (opW 14 x y) ∧ w = w') := by
  refine callsR_of Tryd.func52 rfl rfl rfl ?_
  refine WC.seq ?_
  refine WC.region ?_
  refine WL.assign (v := I64 (0#64)) rfl rfl ?_
  refine WL.nil ?_
  refine WC.seq ?_
  refine WC.region ?_
  refine WL.move (v := I64 (x)) rfl rfl ?_
  refine WL.move (v := I64 (y)) rfl rfl ?_
  refine WL.bin rfl rfl rfl (BinR.lss64) ?_
  refine WL.call ca53 (rfl) rfl (wone_spec (BitVec.slt (x) (y)) _) ?_
  rintro _ _ ⟨rfl, rfl⟩
  refine WL.assign (v := I64 ((oneW (BitVec.slt (x) (y))))) rfl rfl ?_
  refine WL.nil ?_
  refine WC.ret ?_
  exact ⟨_, Res.one (v := I64 ((oneW (BitVec.slt (x) (y))))) rfl rfl, rfl, rfl⟩

theorem clo15 (x y : BitVec 64) (w : World) : CallsR Tryd.prog 54 #[I64 (x), I64 (y)] w (fun v w' => v = I64 (opW 15 x y) ∧ w = w') := by
  refine callsR_of Tryd.func54 rfl rfl rfl ?_
  refine WC.seq ?_
  refine WC.region ?_
  refine WL.assign (v := I64 (0#64)) rfl rfl ?_
  refine WL.nil ?_
  refine WC.seq ?_
  refine WC.region ?_
  refine WL.move (v := I64 (x)) rfl rfl ?_
  refine WL.conv rfl rfl (ConvR.i64u64 Tryd.underlying2 Tryd.underlying43) ?_
  refine WL.move (v := I64 (y)) rfl rfl ?_
  refine WL.conv rfl rfl (ConvR.i64u64 Tryd.underlying2 Tryd.underlying43) ?_
  refine WL.bin rfl rfl rfl (BinR.lssU64) ?_
  refine WL.call ca53 (rfl) rfl (wone_spec (BitVec.ult (x) (y)) _) ?_
  rintro _ _ ⟨rfl, rfl⟩
  refine WL.assign (v := I64 ((oneW (BitVec.ult (x) (y))))) rfl rfl ?_
  refine WL.nil ?_
  refine WC.ret ?_
  exact ⟨_, Res.one (v := I64 ((oneW (BitVec.ult (x) (y))))) rfl rfl, rfl, rfl⟩

theorem clo16 (x y : BitVec 64) (w : World) : CallsR Tryd.prog 55 #[I64 (x), I64 (y)] w (fun v w' => v = I64 (opW 16 x y) ∧ w = w') := by
  refine callsR_of Tryd.func55 rfl rfl rfl ?_
  refine WC.seq ?_
  refine WC.region ?_
  refine WL.assign (v := I64 (0#64)) rfl rfl ?_
  refine WL.nil ?_
  refine WC.seq ?_
  refine WC.region ?_
  refine WL.move (v := I64 (x)) rfl rfl ?_
  refine WL.move (v := I64 (y)) rfl rfl ?_
  refine WL.bin rfl rfl rfl (BinR.eql64) ?_
  refine WL.call ca53 (rfl) rfl (wone_spec ((x == y)) _) ?_
  rintro _ _ ⟨rfl, rfl⟩
  refine WL.assign (v := I64 ((oneW ((x == y))))) rfl rfl ?_
  refine WL.nil ?_
  refine WC.ret ?_
  exact ⟨_, Res.one (v := I64 ((oneW ((x == y))))) rfl rfl, rfl, rfl⟩

theorem clo4 (x y : BitVec 64) (w : World) : CallsR Tryd.prog 42 #[I64 (x), I64 (y)] w (fun v w' => v = I64 (opW 4 x y) ∧ w = w') := by
  refine callsR_of Tryd.func42 rfl rfl rfl ?_
  refine WC.seq ?_
  refine WC.region ?_
  refine WL.assign (v := I64 (0#64)) rfl rfl ?_
  refine WL.nil ?_
  refine WC.seq ?_
  refine WC.seq ?_
  refine WC.region ?_
  refine WL.move (v := I64 (y)) rfl rfl ?_
  refine WL.nil ?_
  refine WC.block ?_
  refine WC.seq ?_
  refine WC.region ?_
  refine WL.bin rfl (vy := I64 (0#64)) rfl rfl (BinR.eql64) ?_
  refine WL.assign (v := .bool ((y == 0#64))) rfl rfl ?_
  refine WL.nil ?_
  refine WC.cond rfl (fun hc6 => ?_) (fun hc6 => ?_)
  · have hb : y = 0#64 := by simpa using hc6
    refine WC.seq ?_
    refine WC.region ?_
    refine WL.assign (v := I64 (BitVec.ofInt 64 (-1))) (cI64 _ (by decide)) rfl ?_
    refine WL.nil ?_
    refine WC.ret ?_
    have hfin : (I64 (BitVec.ofInt 64 (-1))) = I64 (opW 4 x y) := by first | exact (congrArg I64 (if_pos hb)).symm | (refine Eq.trans ?_ (congrArg I64 (if_neg hb)).symm; first | rfl | (rw [hm, sdiv_minus]) | (rw [hm, srem_minus]))
    exact ⟨_, Res.one (v := I64 (BitVec.ofInt 64 (-1))) rfl rfl, hfin, rfl⟩
  · have hb : y ≠ 0#64 := by simpa using hc6
    refine WC.seq ?_
    refine WC.region ?_
    refine WL.bin rfl (vy := I64 (BitVec.ofInt 64 (-1))) (cI64 _ (by decide)) rfl (BinR.eql64) ?_
    refine WL.assign (v := .bool ((y == BitVec.ofInt 64 (-1)))) rfl rfl ?_
    refine WL.nil ?_
    refine WC.cond rfl (fun hc8 => ?_) (fun hc8 => ?_)
    · have hm : y = minusOne := eq_of_beq hc8
      refine WC.seq ?_
      refine WC.region ?_
      refine WL.move (v := I64 (x)) rfl rfl ?_
      refine WL.un rfl rfl UnR.neg64 ?_
      refine WL.assign (v := I64 (-(x))) rfl rfl ?_
      refine WL.nil ?_
      refine WC.ret ?_
      have hfin : (I64 (-(x))) = I64 (opW 4 x y) := by first | exact (congrArg I64 (if_pos hb)).symm | (refine Eq.trans ?_ (congrArg I64 (if_neg hb)).symm; first | rfl | (rw [hm, sdiv_minus]) | (rw [hm, srem_minus]))
      exact ⟨_, Res.one (v := I64 (-(x))) rfl rfl, hfin, rfl⟩
    · refine WC.skip ?_
      refine WC.seq ?_
      refine WC.region ?_
      refine WL.move (v := I64 (x)) rfl rfl ?_
      refine WL.move (v := I64 (y)) rfl rfl ?_
      refine WL.bin rfl rfl rfl (BinR.quo64 hb) ?_
      refine WL.assign (v := I64 ((x.sdiv y))) rfl rfl ?_
      refine WL.nil ?_
      refine WC.ret ?_
      have hfin : (I64 ((x.sdiv y))) = I64 (opW 4 x y) := by first | exact (congrArg I64 (if_pos hb)).symm | (refine Eq.trans ?_ (congrArg I64 (if_neg hb)).symm; first | rfl | (rw [hm, sdiv_minus]) | (rw [hm, srem_minus]))
      exact ⟨_, Res.one (v := I64 ((x.sdiv y))) rfl rfl, hfin, rfl⟩

theorem clo5 (x y : BitVec 64) (w : World) : CallsR Tryd.prog 43 #[I64 (x), I64 (y)] w (fun v w' => v = I64 (opW 5 x y) ∧ w = w') := by
  refine callsR_of Tryd.func43 rfl rfl rfl ?_
  refine WC.seq ?_
  refine WC.region ?_
  refine WL.assign (v := I64 (0#64)) rfl rfl ?_
  refine WL.nil ?_
  refine WC.seq ?_
  refine WC.seq ?_
  refine WC.region ?_
  refine WL.move (v := I64 (y)) rfl rfl ?_
  refine WL.nil ?_
  refine WC.block ?_
  refine WC.seq ?_
  refine WC.region ?_
  refine WL.bin rfl (vy := I64 (0#64)) rfl rfl (BinR.eql64) ?_
  refine WL.assign (v := .bool ((y == 0#64))) rfl rfl ?_
  refine WL.nil ?_
  refine WC.cond rfl (fun hc6 => ?_) (fun hc6 => ?_)
  · have hb : y = 0#64 := by simpa using hc6
    refine WC.seq ?_
    refine WC.region ?_
    refine WL.move (v := I64 (x)) rfl rfl ?_
    refine WL.assign (v := I64 (x)) rfl rfl ?_
    refine WL.nil ?_
    refine WC.ret ?_
    have hfin : (I64 (x)) = I64 (opW 5 x y) := by first | exact (congrArg I64 (if_pos hb)).symm | (refine Eq.trans ?_ (congrArg I64 (if_neg hb)).symm; first | rfl | (rw [hm, sdiv_minus]) | (rw [hm, srem_minus]))
    exact ⟨_, Res.one (v := I64 (x)) rfl rfl, hfin, rfl⟩
  · have hb : y ≠ 0#64 := by simpa using hc6
    refine WC.seq ?_
    refine WC.region ?_
    refine WL.bin rfl (vy := I64 (BitVec.ofInt 64 (-1))) (cI64 _ (by decide)) rfl (BinR.eql64) ?_
    refine WL.assign (v := .bool ((y == BitVec.ofInt 64 (-1)))) rfl rfl ?_
    refine WL.nil ?_
    refine WC.cond rfl (fun hc9 => ?_) (fun hc9 => ?_)
    · have hm : y = minusOne := eq_of_beq hc9
      refine WC.seq ?_
      refine WC.region ?_
      refine WL.assign (v := I64 (0#64)) rfl rfl ?_
      refine WL.nil ?_
      refine WC.ret ?_
      have hfin : (I64 (0#64)) = I64 (opW 5 x y) := by first | exact (congrArg I64 (if_pos hb)).symm | (refine Eq.trans ?_ (congrArg I64 (if_neg hb)).symm; first | rfl | (rw [hm, sdiv_minus]) | (rw [hm, srem_minus]))
      exact ⟨_, Res.one (v := I64 (0#64)) rfl rfl, hfin, rfl⟩
    · refine WC.skip ?_
      refine WC.seq ?_
      refine WC.region ?_
      refine WL.move (v := I64 (x)) rfl rfl ?_
      refine WL.move (v := I64 (y)) rfl rfl ?_
      refine WL.bin rfl rfl rfl (BinR.rem64 hb) ?_
      refine WL.assign (v := I64 ((x.srem y))) rfl rfl ?_
      refine WL.nil ?_
      refine WC.ret ?_
      have hfin : (I64 ((x.srem y))) = I64 (opW 5 x y) := by first | exact (congrArg I64 (if_pos hb)).symm | (refine Eq.trans ?_ (congrArg I64 (if_neg hb)).symm; first | rfl | (rw [hm, sdiv_minus]) | (rw [hm, srem_minus]))
      exact ⟨_, Res.one (v := I64 ((x.srem y))) rfl rfl, hfin, rfl⟩

theorem clo6 (x y : BitVec 64) (w : World) : CallsR Tryd.prog 44 #[I64 (x), I64 (y)] w (fun v w' => v = I64 (opW 6 x y) ∧ w = w') := by
  refine callsR_of Tryd.func44 rfl rfl rfl ?_
  refine WC.seq ?_
  refine WC.region ?_
  refine WL.assign (v := I64 (0#64)) rfl rfl ?_
  refine WL.nil ?_
  refine WC.seq ?_
  refine WC.seq ?_
  refine WC.region ?_
  refine WL.move (v := I64 (y)) rfl rfl ?_
  refine WL.bin rfl (vy := I64 (0#64)) rfl rfl (BinR.eql64) ?_
  refine WL.nil ?_
  refine WC.cond rfl (fun hc6 => ?_) (fun hc6 => ?_)
  · have hb : y = 0#64 := by simpa using hc6
    refine WC.seq ?_
    refine WC.region ?_
    refine WL.assign (v := I64 (BitVec.ofInt 64 (-1))) (cI64 _ (by decide)) rfl ?_
    refine WL.nil ?_
    refine WC.ret ?_
    have hfin : (I64 (BitVec.ofInt 64 (-1))) = I64 (opW 6 x y) := by first | exact (congrArg I64 (if_pos hb)).symm | (refine Eq.trans ?_ (congrArg I64 (if_neg hb)).symm; first | rfl | (rw [hm, sdiv_minus]) | (rw [hm, srem_minus]))
    exact ⟨_, Res.one (v := I64 (BitVec.ofInt 64 (-1))) rfl rfl, hfin, rfl⟩
  · have hb : y ≠ 0#64 := by simpa using hc6
    refine WC.skip ?_
    refine WC.seq ?_
    refine WC.region ?_
    refine WL.move (v := I64 (x)) rfl rfl ?_
    refine WL.conv rfl rfl (ConvR.i64u64 Tryd.underlying2 Tryd.underlying43) ?_
    refine WL.move (v := I64 (y)) rfl rfl ?_
    refine WL.conv rfl rfl (ConvR.i64u64 Tryd.underlying2 Tryd.underlying43) ?_
    refine WL.bin rfl rfl rfl (BinR.quoU64 hb) ?_
    refine WL.conv rfl rfl (ConvR.u64i64 Tryd.underlying43 Tryd.underlying2) ?_
    refine WL.assign (v := I64 ((x / y))) rfl rfl ?_
    refine WL.nil ?_
    refine WC.ret ?_
    have hfin : (I64 ((x / y))) = I64 (opW 6 x y) := by first | exact (congrArg I64 (if_pos hb)).symm | (refine Eq.trans ?_ (congrArg I64 (if_neg hb)).symm; first | rfl | (rw [hm, sdiv_minus]) | (rw [hm, srem_minus]))
    exact ⟨_, Res.one (v := I64 ((x / y))) rfl rfl, hfin, rfl⟩

theorem clo7 (x y : BitVec 64) (w : World) : CallsR Tryd.prog 45 #[I64 (x), I64 (y)] w (fun v w' => v = I64 (opW 7 x y) ∧ w = w') := by
  refine callsR_of Tryd.func45 rfl rfl rfl ?_
  refine WC.seq ?_
  refine WC.region ?_
  refine WL.assign (v := I64 (0#64)) rfl rfl ?_
  refine WL.nil ?_
  refine WC.seq ?_
  refine WC.seq ?_
  refine WC.region ?_
  refine WL.move (v := I64 (y)) rfl rfl ?_
  refine WL.bin rfl (vy := I64 (0#64)) rfl rfl (BinR.eql64) ?_
  refine WL.nil ?_
  refine WC.cond rfl (fun hc6 => ?_) (fun hc6 => ?_)
  · have hb : y = 0#64 := by simpa using hc6
    refine WC.seq ?_
    refine WC.region ?_
    refine WL.move (v := I64 (x)) rfl rfl ?_
    refine WL.assign (v := I64 (x)) rfl rfl ?_
    refine WL.nil ?_
    refine WC.ret ?_
    have hfin : (I64 (x)) = I64 (opW 7 x y) := by first | exact (congrArg I64 (if_pos hb)).symm | (refine Eq.trans ?_ (congrArg I64 (if_neg hb)).symm; first | rfl | (rw [hm, sdiv_minus]) | (rw [hm, srem_minus]))
    exact ⟨_, Res.one (v := I64 (x)) rfl rfl, hfin, rfl⟩
  · have hb : y ≠ 0#64 := by simpa using hc6
    refine WC.skip ?_
    refine WC.seq ?_
    refine WC.region ?_
    refine WL.move (v := I64 (x)) rfl rfl ?_
    refine WL.conv rfl rfl (ConvR.i64u64 Tryd.underlying2 Tryd.underlying43) ?_
    refine WL.move (v := I64 (y)) rfl rfl ?_
    refine WL.conv rfl rfl (ConvR.i64u64 Tryd.underlying2 Tryd.underlying43) ?_
    refine WL.bin rfl rfl rfl (BinR.remU64 hb) ?_
    refine WL.conv rfl rfl (ConvR.u64i64 Tryd.underlying43 Tryd.underlying2) ?_
    refine WL.assign (v := I64 ((x % y))) rfl rfl ?_
    refine WL.nil ?_
    refine WC.ret ?_
    have hfin : (I64 ((x % y))) = I64 (opW 7 x y) := by first | exact (congrArg I64 (if_pos hb)).symm | (refine Eq.trans ?_ (congrArg I64 (if_neg hb)).symm; first | rfl | (rw [hm, sdiv_minus]) | (rw [hm, srem_minus]))
    exact ⟨_, Res.one (v := I64 ((x % y))) rfl rfl, hfin, rfl⟩
end Go.Proofs.W
