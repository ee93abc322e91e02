/- Steps of the proof, packed by program: McO3 McIn McKp McRd McRe McKr UxSub McO4 McO5. -/
import Derived.Test.YtlabgjcjccdjfaaGreatDoorRows
import Derived.Test.YtlabgjcjccdjfaaGreatDoorMpackQ01
import Derived.Test.YtlabgjcjccdjfaaGreatDoorMpackQ02
import Derived.Test.YtlabgjcjccdjfaaGreatDoorMpackQ08
set_option linter.unusedVariables false
set_option linter.unusedSimpArgs false
set_option linter.unnecessarySimpa false
set_option maxRecDepth 100000
section
set_option linter.unusedSimpArgs false
set_option linter.unusedVariables false
namespace Go.Proofs.S
open Go Go.Ux Go.Ux.Mach Go.Proofs
open Tryz
def halfQ (x : BitVec 64) : BitVec 64 := (x.setWidth 32).signExtend 64
theorem sll_q (a b : BitVec 64) : b % 64#64 = b &&& 63#64 := by
 apply BitVec.eq_of_toNat_eq
 rw [BitVec.toNat_umod, BitVec.toNat_and]
 exact (Nat.and_two_pow_sub_one_eq_mod b.toNat 6).symm
theorem shl_q (a b : BitVec 64) : a <<< (b % 64#64).toNat = sllW a b := by rw [sll_q a b]; rfl
theorem shr_q (a b : BitVec 64) : a >>> (b % 64#64).toNat = srlW a b := by rw [sll_q a b]; rfl
theorem sar_q (a b : BitVec 64) : BitVec.sshiftRight a (b % 64#64).toNat = sraW a b := by rw [sll_q a b]; rfl
theorem mulhsu_q (a b : BitVec 64) : hiW a b - bitW (BitVec.slt a 0#64) * b = mulhsuW a b := by unfold mulhsuW; rw [BitVec.mul_comm b]
theorem mulh_q (a b : BitVec 64) : mulhsuW a b - bitW (BitVec.slt b 0#64) * a = mulhW a b := by unfold mulhW; rw [BitVec.mul_comm a]
theorem half_q (x : BitVec 64) (w : World) : Cx 99 #[U64 x] w (U64 (halfQ x)) := by
 refine Co func99 G G ?_
 refine Sr (Ae (U64 0#64) (Ni (Sr (Me (U64 x) (Cv G (ConvR.u64u32 y39 y50) (Cv G (ConvR.u32i32 y50 y21) (Cv G (ConvR.i32i64 y21 y2) (Cv G (ConvR.i64u64 y2 y39) (Ae (U64 (((x.setWidth 32).signExtend 64))) (Ni (WC.ret ?_)))))))))))
 exact ⟨_, Ro G G, G, Mod.refl _ _⟩
theorem divide_q (x y : BitVec 64) (w : World) : Cx 100 #[I64 x, I64 y] w (.tuple #[I64 (divW x y), I64 (remW x y)]) := by
 refine Co func100 G G ?_
 refine Sr (Ae (I64 0#64) (Ae (I64 0#64) (Ni (Sq (Sr (Me (I64 y) (Bn (vy := I64 0#64) G G BinR.eql64 (Ni ?_))))))))
 refine WC.cond G (fun hc7 => ?_) (fun hc7 => ?_)
 ·refine Sr (Me (I64 x) (An (I64 (BitVec.ofInt 64 (-1))) (cI64 _ (by decide)) (Ae (I64 x) (Ni (WC.ret ?_)))))
  have hfin : divW x y = BitVec.ofInt 64 (-1) ∧ remW x y = x := by
   unfold divW remW; rw [hc7]; refine ⟨?_, ?_⟩ <;> first | rfl | exact (BitVec.zero_sub _).symm
  exact ⟨_, Res.two (v := I64 (BitVec.ofInt 64 (-1))) (v' := I64 x) G G G, by rw [hfin.1, hfin.2], Mod.refl _ _⟩
 ·have hy : y ≠ 0#64 := by simpa using hc7
  refine WC.skip (Sq (Sr (Me (I64 y) (Bn (vy := I64 (BitVec.ofInt 64 (-1))) G (cI64 _ (by decide)) BinR.eql64 (Ni ?_)))))
  refine WC.cond G (fun hc10 => ?_) (fun hc10 => ?_)
  ·refine Sr (Me (I64 x) (Bn (vx := I64 0#64) G G BinR.sub64 (Ae (I64 ((0#64 - x))) (Ae (I64 0#64) (Ni (WC.ret ?_))))))
   have hfin : divW x y = (0#64 - x) ∧ remW x y = 0#64 := by
    unfold divW remW; rw [hc7, hc10]; refine ⟨?_, ?_⟩ <;> first | rfl | exact (BitVec.zero_sub _).symm
   exact ⟨_, Res.two (v := I64 ((0#64 - x))) (v' := I64 0#64) G G G, by rw [hfin.1, hfin.2], Mod.refl _ _⟩
  ·refine WC.skip (Sq (WC.draw (fun w_ => Ext w w_) 8 G mixed ?_))
   intro wd_5 ed_5
   have R1 : Ext w wd_5 := ed_5
   have E2 : Ext w wd_5 := ed_5
   refine Tm 0 (I64 x) G G R1 (Tm 1 (I64 y) G G R1 (Tp 2 (I64 (x.sdiv y)) G G (Bn G G (BinR.quo64 hy) Ok) R1 (Tm 3 (I64 x) G G R1 (Tm 4 (I64 y) G G R1 (Tp 5 (I64 (x.srem y)) G G (Bn G G (BinR.rem64 hy) Ok) R1 (Tm 6 (I64 (x.sdiv y)) G G R1 (Tm 7 (I64 (x.srem y)) G G R1 (WA.done (by kernel_rfl) (WC.ret ?_)))))))))
   have hfin : divW x y = (x.sdiv y) ∧ remW x y = (x.srem y) := by
    unfold divW remW; rw [hc7, hc10]; refine ⟨?_, ?_⟩ <;> first | rfl | exact (BitVec.zero_sub _).symm
   exact ⟨_, Res.two (v := I64 (x.sdiv y)) (v' := I64 (x.srem y)) G G G, by rw [hfin.1, hfin.2], E2⟩
theorem bit_q (b : Bool) (w : World) : Cx 101 #[.bool b] w (U64 (bitW b)) := by
 refine Co func101 G G ?_
 refine Sr (Ae (U64 0#64) (Ni (Sq (Sr (Me (.bool b) (Ni ?_))))))
 refine WC.cond G (fun hc3 => ?_) (fun hc3 => ?_)
 ·refine Sr (Ae (U64 1#64) (Ni (WC.ret ?_)))
  have hfin : ((U64 1#64) : Value) = U64 (bitW b) := by unfold bitW; rw [hc3]; try rfl
  exact ⟨_, Ro G G, hfin, Mod.refl _ _⟩
 ·refine WC.skip (Sr (Ae (U64 0#64) (Ni (WC.ret ?_))))
  have hfin : ((U64 0#64) : Value) = U64 (bitW b) := by unfold bitW; rw [hc3]; try rfl
  exact ⟨_, Ro G G, hfin, Mod.refl _ _⟩
theorem high_q (x y : BitVec 64) (w : World) : Cx 102 #[U64 x, U64 y] w (U64 (hiW x y)) := by
 refine Co func102 G G ?_
 refine Sr (Ae (U64 0#64) (Ni (Sr (Me (U64 x) (Bn (vy := U64 4294967295#64) G G BinR.andU64 (Me (U64 x) (Bn (vy := .int .u64 ((32 : Nat) : Int)) G G BinR.shrU64 (Me (U64 y) (Bn (vy := U64 4294967295#64) G G BinR.andU64 (Me (U64 y) (Bn (vy := .int .u64 ((32 : Nat) : Int)) G G BinR.shrU64 (Ae (U64 ((x &&& 4294967295#64))) (Ae (U64 ((x >>> 32))) (Ae (U64 ((y &&& 4294967295#64))) (Ae (U64 ((y >>> 32))) (Ni (Sr (Me (U64 ((x >>> 32))) (Me (U64 ((y &&& 4294967295#64))) (Bn G G BinR.mulU64 ?_))))))))))))))))))))
 refine Me (U64 ((x &&& 4294967295#64))) (Me (U64 ((y &&& 4294967295#64))) (Bn G G BinR.mulU64 (Bn (vy := .int .u64 ((32 : Nat) : Int)) G G BinR.shrU64 (Bn G G BinR.addU64 (Ae (U64 ((((x >>> 32) * (y &&& 4294967295#64)) + (((x &&& 4294967295#64) * (y &&& 4294967295#64)) >>> 32)))) (Ni (Sr (Me (U64 ((((x >>> 32) * (y &&& 4294967295#64)) + (((x &&& 4294967295#64) * (y &&& 4294967295#64)) >>> 32)))) (Bn (vy := U64 4294967295#64) G G BinR.andU64 (Me (U64 ((x &&& 4294967295#64))) (Me (U64 ((y >>> 32))) (Bn G G BinR.mulU64 (Bn G G BinR.addU64 (Ae (U64 ((((((x >>> 32) * (y &&& 4294967295#64)) + (((x &&& 4294967295#64) * (y &&& 4294967295#64)) >>> 32)) &&& 4294967295#64) + ((x &&& 4294967295#64) * (y >>> 32))))) (Ni (Sr (Me (U64 ((x >>> 32))) (Me (U64 ((y >>> 32))) (Bn G G BinR.mulU64 (Me (U64 ((((x >>> 32) * (y &&& 4294967295#64)) + (((x &&& 4294967295#64) * (y &&& 4294967295#64)) >>> 32)))) (Bn (vy := .int .u64 ((32 : Nat) : Int)) G G BinR.shrU64 ?_)))))))))))))))))))))
 refine Bn G G BinR.addU64 (Me (U64 ((((((x >>> 32) * (y &&& 4294967295#64)) + (((x &&& 4294967295#64) * (y &&& 4294967295#64)) >>> 32)) &&& 4294967295#64) + ((x &&& 4294967295#64) * (y >>> 32))))) (Bn (vy := .int .u64 ((32 : Nat) : Int)) G G BinR.shrU64 (Bn G G BinR.addU64 (Ae (U64 (((((x >>> 32) * (y >>> 32)) + ((((x >>> 32) * (y &&& 4294967295#64)) + (((x &&& 4294967295#64) * (y &&& 4294967295#64)) >>> 32)) >>> 32)) + ((((((x >>> 32) * (y &&& 4294967295#64)) + (((x &&& 4294967295#64) * (y &&& 4294967295#64)) >>> 32)) &&& 4294967295#64) + ((x &&& 4294967295#64) * (y >>> 32))) >>> 32)))) (Ni (WC.ret ?_))))))
 exact ⟨_, Ro G G, G, Mod.refl _ _⟩
def arithQ (s : List UInt8) (a b : BitVec 64) : BitVec 64 := bif ([[97, 100, 100]].any fun c => s == c) then a + b else bif ([[115, 117, 98]].any fun c => s == c) then a - b else bif ([[115, 108, 108]].any fun c => s == c) then sllW a b else bif ([[115, 108, 116]].any fun c => s == c) then bitW (BitVec.slt a b) else bif ([[115, 108, 116, 117]].any fun c => s == c) then bitW (BitVec.ult a b) else bif ([[120, 111, 114]].any fun c => s == c) then a ^^^ b else bif ([[115, 114, 108]].any fun c => s == c) then srlW a b else bif ([[115, 114, 97]].any fun c => s == c) then sraW a b else bif ([[111, 114]].any fun c => s == c) then a ||| b else bif ([[97, 110, 100]].any fun c => s == c) then a &&& b else bif ([[109, 117, 108]].any fun c => s == c) then a * b else bif ([[109, 117, 108, 104, 117]].any fun c => s == c) then hiW a b else bif ([[109, 117, 108, 104]].any fun c => s == c) then mulhW a b else bif ([[109, 117, 108, 104, 115, 117]].any fun c => s == c) then mulhsuW a b else bif ([[100, 105, 118]].any fun c => s == c) then divW a b else bif ([[114, 101, 109]].any fun c => s == c) then remW a b else bif ([[100, 105, 118, 117]].any fun c => s == c) then divuW a b else remuW a b
theorem arith_q (s : List UInt8) (a b : BitVec 64) (w : World) : Cx 84 #[St s, U64 a, U64 b] w (U64 (arithQ s a b)) := by
 refine Co func84 G G ?_
 refine Sr (Ae (U64 0#64) (Ni (Sr (Me (U64 a) (Cv G (ConvR.u64i64 y39 y2) (Me (U64 b) (Cv G (ConvR.u64i64 y39 y2) (Ca (divide_q a b _) ?_))))))))
 rintro _ wc14 ⟨rfl, ec14⟩
 have E1 : Ext w wc14 := ec14
 refine Me (.tuple #[I64 (divW a b), I64 (remW a b)]) (Et G G (Et G G (Ae (I64 (divW a b)) (Ae (I64 (remW a b)) (Ni (Sq (Sr (Me (St s) (Ni (Bk (Sq ?_)))))))))))
 refine WC.orS (x := 17) (d := 18) (s := s) (cs := [[97, 100, 100]]) (ts := [19]) (by kernel_rfl) G (fun g2 => ?_)
 refine WC.cond G (fun hc18 => ?_) (fun hc18 => ?_)
 ·refine Sr (Me (U64 a) (Me (U64 b) (Bn G G BinR.addU64 (Ae (U64 ((a + b))) (Ni (WC.ret ?_))))))
  have hfin : arithQ s a b = (a + b) := by unfold arithQ; rw [hc18]; try rfl
  exact ⟨_, Ro G G, congrArg U64 hfin.symm, E1⟩
 ·refine Sq ?_
  refine WC.orS (x := 17) (d := 23) (s := s) (cs := [[115, 117, 98]]) (ts := [24]) (by kernel_rfl) G (fun g3 => ?_)
  refine WC.cond G (fun hc23 => ?_) (fun hc23 => ?_)
  ·refine Sr (Me (U64 a) (Me (U64 b) (Bn G G BinR.subU64 (Ae (U64 ((a - b))) (Ni (WC.ret ?_))))))
   have hfin : arithQ s a b = (a - b) := by unfold arithQ; rw [hc18, hc23]; try rfl
   exact ⟨_, Ro G G, congrArg U64 hfin.symm, E1⟩
  ·refine Sq ?_
   refine WC.orS (x := 17) (d := 28) (s := s) (cs := [[115, 108, 108]]) (ts := [29]) (by kernel_rfl) G (fun g4 => ?_)
   refine WC.cond G (fun hc28 => ?_) (fun hc28 => ?_)
   ·refine Sr (Me (U64 a) (Me (U64 b) (Bn (vy := U64 64#64) G G (BinR.remU64 (by decide)) (Bn G G ((shl_q a b) ▸ BinR.shlU64) (Ae (U64 (sllW a b)) (Ni (WC.ret ?_)))))))
    have hfin : arithQ s a b = (sllW a b) := by unfold arithQ; rw [hc18, hc23, hc28]; try rfl
    exact ⟨_, Ro G G, congrArg U64 hfin.symm, E1⟩
   ·refine Sq ?_
    refine WC.orS (x := 17) (d := 34) (s := s) (cs := [[115, 108, 116]]) (ts := [35]) (by kernel_rfl) G (fun g5 => ?_)
    refine WC.cond G (fun hc34 => ?_) (fun hc34 => ?_)
    ·refine Sr (Me (U64 a) (Cv G (ConvR.u64i64 y39 y2) (Me (U64 b) (Cv G (ConvR.u64i64 y39 y2) (Bn G G BinR.lss64 (Ca (bit_q (BitVec.slt a b) _) ?_))))))
     rintro _ wc41 ⟨rfl, ec41⟩
     have E6 := Mt E1 ec41
     refine Ae (U64 ((bitW (BitVec.slt a b)))) (Ni (WC.ret ?_))
     have hfin : arithQ s a b = (bitW (BitVec.slt a b)) := by unfold arithQ; rw [hc18, hc23, hc28, hc34]; try rfl
     exact ⟨_, Ro G G, congrArg U64 hfin.symm, E6⟩
    ·refine Sq ?_
     refine WC.orS (x := 17) (d := 42) (s := s) (cs := [[115, 108, 116, 117]]) (ts := [43]) (by kernel_rfl) G (fun g7 => ?_)
     refine WC.cond G (fun hc42 => ?_) (fun hc42 => ?_)
     ·refine Sr (Me (U64 a) (Me (U64 b) (Bn G G BinR.lssU64 (Ca (bit_q (BitVec.ult a b) _) ?_))))
      rintro _ wc47 ⟨rfl, ec47⟩
      have E8 := Mt E1 ec47
      refine Ae (U64 ((bitW (BitVec.ult a b)))) (Ni (WC.ret ?_))
      have hfin : arithQ s a b = (bitW (BitVec.ult a b)) := by unfold arithQ; rw [hc18, hc23, hc28, hc34, hc42]; try rfl
      exact ⟨_, Ro G G, congrArg U64 hfin.symm, E8⟩
     ·refine Sq ?_
      refine WC.orS (x := 17) (d := 48) (s := s) (cs := [[120, 111, 114]]) (ts := [49]) (by kernel_rfl) G (fun g9 => ?_)
      refine WC.cond G (fun hc48 => ?_) (fun hc48 => ?_)
      ·refine Sr (Me (U64 a) (Me (U64 b) (Bn G G BinR.xorU64 (Ae (U64 ((a ^^^ b))) (Ni (WC.ret ?_))))))
       have hfin : arithQ s a b = (a ^^^ b) := by unfold arithQ; rw [hc18, hc23, hc28, hc34, hc42, hc48]; try rfl
       exact ⟨_, Ro G G, congrArg U64 hfin.symm, E1⟩
      ·refine Sq ?_
       refine WC.orS (x := 17) (d := 53) (s := s) (cs := [[115, 114, 108]]) (ts := [54]) (by kernel_rfl) G (fun g10 => ?_)
       refine WC.cond G (fun hc53 => ?_) (fun hc53 => ?_)
       ·refine Sr (Me (U64 a) (Me (U64 b) (Bn (vy := U64 64#64) G G (BinR.remU64 (by decide)) (Bn G G ((shr_q a b) ▸ BinR.shrU64) (Ae (U64 (srlW a b)) (Ni (WC.ret ?_)))))))
        have hfin : arithQ s a b = (srlW a b) := by unfold arithQ; rw [hc18, hc23, hc28, hc34, hc42, hc48, hc53]; try rfl
        exact ⟨_, Ro G G, congrArg U64 hfin.symm, E1⟩
       ·refine Sq ?_
        refine WC.orS (x := 17) (d := 59) (s := s) (cs := [[115, 114, 97]]) (ts := [60]) (by kernel_rfl) G (fun g11 => ?_)
        refine WC.cond G (fun hc59 => ?_) (fun hc59 => ?_)
        ·refine Sr (Me (U64 a) (Cv G (ConvR.u64i64 y39 y2) (Me (U64 b) (Bn (vy := U64 64#64) G G (BinR.remU64 (by decide)) (Bn G G ((sar_q a b) ▸ BinR.shr64) (Cv G (ConvR.i64u64 y2 y39) (Ae (U64 (sraW a b)) (Ni (WC.ret ?_)))))))))
         have hfin : arithQ s a b = (sraW a b) := by unfold arithQ; rw [hc18, hc23, hc28, hc34, hc42, hc48, hc53, hc59]; try rfl
         exact ⟨_, Ro G G, congrArg U64 hfin.symm, E1⟩
        ·refine Sq ?_
         refine WC.orS (x := 17) (d := 67) (s := s) (cs := [[111, 114]]) (ts := [68]) (by kernel_rfl) G (fun g12 => ?_)
         refine WC.cond G (fun hc67 => ?_) (fun hc67 => ?_)
         ·refine Sr (Me (U64 a) (Me (U64 b) (Bn G G BinR.orU64 (Ae (U64 ((a ||| b))) (Ni (WC.ret ?_))))))
          have hfin : arithQ s a b = (a ||| b) := by unfold arithQ; rw [hc18, hc23, hc28, hc34, hc42, hc48, hc53, hc59, hc67]; try rfl
          exact ⟨_, Ro G G, congrArg U64 hfin.symm, E1⟩
         ·refine Sq ?_
          refine WC.orS (x := 17) (d := 72) (s := s) (cs := [[97, 110, 100]]) (ts := [73]) (by kernel_rfl) G (fun g13 => ?_)
          refine WC.cond G (fun hc72 => ?_) (fun hc72 => ?_)
          ·refine Sr (Me (U64 a) (Me (U64 b) (Bn G G BinR.andU64 (Ae (U64 ((a &&& b))) (Ni (WC.ret ?_))))))
           have hfin : arithQ s a b = (a &&& b) := by unfold arithQ; rw [hc18, hc23, hc28, hc34, hc42, hc48, hc53, hc59, hc67, hc72]; try rfl
           exact ⟨_, Ro G G, congrArg U64 hfin.symm, E1⟩
          ·refine Sq ?_
           refine WC.orS (x := 17) (d := 77) (s := s) (cs := [[109, 117, 108]]) (ts := [78]) (by kernel_rfl) G (fun g14 => ?_)
           refine WC.cond G (fun hc77 => ?_) (fun hc77 => ?_)
           ·refine Sr (Me (U64 a) (Me (U64 b) (Bn G G BinR.mulU64 (Ae (U64 ((a * b))) (Ni (WC.ret ?_))))))
            have hfin : arithQ s a b = (a * b) := by unfold arithQ; rw [hc18, hc23, hc28, hc34, hc42, hc48, hc53, hc59, hc67, hc72, hc77]; try rfl
            exact ⟨_, Ro G G, congrArg U64 hfin.symm, E1⟩
           ·refine Sq ?_
            refine WC.orS (x := 17) (d := 82) (s := s) (cs := [[109, 117, 108, 104, 117]]) (ts := [83]) (by kernel_rfl) G (fun g15 => ?_)
            refine WC.cond G (fun hc82 => ?_) (fun hc82 => ?_)
            ·refine Sr (Me (U64 a) (Me (U64 b) (Ca (high_q a b _) ?_)))
             rintro _ wc86 ⟨rfl, ec86⟩
             have E16 := Mt E1 ec86
             refine Ae (U64 (hiW a b)) (Ni (WC.ret ?_))
             have hfin : arithQ s a b = (hiW a b) := by unfold arithQ; rw [hc18, hc23, hc28, hc34, hc42, hc48, hc53, hc59, hc67, hc72, hc77, hc82]; try rfl
             exact ⟨_, Ro G G, congrArg U64 hfin.symm, E16⟩
            ·refine Sq ?_
             refine WC.orS (x := 17) (d := 87) (s := s) (cs := [[109, 117, 108, 104]]) (ts := [88]) (by kernel_rfl) G (fun g17 => ?_)
             refine WC.cond G (fun hc87 => ?_) (fun hc87 => ?_)
             ·refine Sr (Me (U64 a) (Me (U64 b) (Ca (high_q a b _) ?_)))
              rintro _ wc91 ⟨rfl, ec91⟩
              have E18 := Mt E1 ec91
              refine Me (U64 a) (Cv G (ConvR.u64i64 y39 y2) (Bn (vy := I64 0#64) G G BinR.lss64 (Ca (bit_q (BitVec.slt a 0#64) _) ?_)))
              rintro _ wc95 ⟨rfl, ec95⟩
              have E19 := Mt E18 ec95
              refine Me (U64 b) (Bn G G BinR.mulU64 (Bn G G ((mulhsu_q a b) ▸ BinR.subU64) (Me (U64 b) (Cv G (ConvR.u64i64 y39 y2) (Bn (vy := I64 0#64) G G BinR.lss64 (Ca (bit_q (BitVec.slt b 0#64) _) ?_))))))
              rintro _ wc102 ⟨rfl, ec102⟩
              have E20 := Mt E19 ec102
              refine Me (U64 a) (Bn G G BinR.mulU64 (Bn G G ((mulh_q a b) ▸ BinR.subU64) (Ae (U64 (mulhW a b)) (Ni (WC.ret ?_)))))
              have hfin : arithQ s a b = (mulhW a b) := by unfold arithQ; rw [hc18, hc23, hc28, hc34, hc42, hc48, hc53, hc59, hc67, hc72, hc77, hc82, hc87]; try rfl
              exact ⟨_, Ro G G, congrArg U64 hfin.symm, E20⟩
             ·refine Sq ?_
              refine WC.orS (x := 17) (d := 106) (s := s) (cs := [[109, 117, 108, 104, 115, 117]]) (ts := [107]) (by kernel_rfl) G (fun g21 => ?_)
              refine WC.cond G (fun hc106 => ?_) (fun hc106 => ?_)
              ·refine Sr (Me (U64 a) (Me (U64 b) (Ca (high_q a b _) ?_)))
               rintro _ wc110 ⟨rfl, ec110⟩
               have E22 := Mt E1 ec110
               refine Me (U64 a) (Cv G (ConvR.u64i64 y39 y2) (Bn (vy := I64 0#64) G G BinR.lss64 (Ca (bit_q (BitVec.slt a 0#64) _) ?_)))
               rintro _ wc114 ⟨rfl, ec114⟩
               have E23 := Mt E22 ec114
               refine Me (U64 b) (Bn G G BinR.mulU64 (Bn G G ((mulhsu_q a b) ▸ BinR.subU64) (Ae (U64 (mulhsuW a b)) (Ni (WC.ret ?_)))))
               have hfin : arithQ s a b = (mulhsuW a b) := by unfold arithQ; rw [hc18, hc23, hc28, hc34, hc42, hc48, hc53, hc59, hc67, hc72, hc77, hc82, hc87, hc106]; try rfl
               exact ⟨_, Ro G G, congrArg U64 hfin.symm, E23⟩
              ·refine Sq ?_
               refine WC.orS (x := 17) (d := 118) (s := s) (cs := [[100, 105, 118]]) (ts := [119]) (by kernel_rfl) G (fun g24 => ?_)
               refine WC.cond G (fun hc118 => ?_) (fun hc118 => ?_)
               ·refine Sr (Me (I64 (divW a b)) (Cv G (ConvR.i64u64 y2 y39) (Ae (U64 (divW a b)) (Ni (WC.ret ?_)))))
                have hfin : arithQ s a b = (divW a b) := by unfold arithQ; rw [hc18, hc23, hc28, hc34, hc42, hc48, hc53, hc59, hc67, hc72, hc77, hc82, hc87, hc106, hc118]; try rfl
                exact ⟨_, Ro G G, congrArg U64 hfin.symm, E1⟩
               ·refine Sq ?_
                refine WC.orS (x := 17) (d := 122) (s := s) (cs := [[114, 101, 109]]) (ts := [123]) (by kernel_rfl) G (fun g25 => ?_)
                refine WC.cond G (fun hc122 => ?_) (fun hc122 => ?_)
                ·refine Sr (Me (I64 (remW a b)) (Cv G (ConvR.i64u64 y2 y39) (Ae (U64 (remW a b)) (Ni (WC.ret ?_)))))
                 have hfin : arithQ s a b = (remW a b) := by unfold arithQ; rw [hc18, hc23, hc28, hc34, hc42, hc48, hc53, hc59, hc67, hc72, hc77, hc82, hc87, hc106, hc118, hc122]; try rfl
                 exact ⟨_, Ro G G, congrArg U64 hfin.symm, E1⟩
                ·refine Sq ?_
                 refine WC.orS (x := 17) (d := 126) (s := s) (cs := [[100, 105, 118, 117]]) (ts := [127]) (by kernel_rfl) G (fun g26 => ?_)
                 refine WC.cond G (fun hc126 => ?_) (fun hc126 => ?_)
                 ·refine Sq (Sr (Me (U64 b) (Bn (vy := U64 0#64) G G BinR.eqlU64 (Ni ?_))))
                  refine WC.cond G (fun hc129 => ?_) (fun hc129 => ?_)
                  ·refine Sr (Ae (U64 18446744073709551615#64) (Ni (WC.ret ?_)))
                   have hfin : arithQ s a b = 18446744073709551615#64 := by unfold arithQ; rw [hc18, hc23, hc28, hc34, hc42, hc48, hc53, hc59, hc67, hc72, hc77, hc82, hc87, hc106, hc118, hc122, hc126]; show divuW a b = _; unfold divuW; rw [hc129]; rfl
                   exact ⟨_, Ro G G, congrArg U64 hfin.symm, E1⟩
                  ·refine WC.skip (Sr (Me (U64 a) (Me (U64 b) (Bn G G (BinR.quoU64 (by simpa using hc129)) (Ae (U64 ((a / b))) (Ni (WC.ret ?_)))))))
                   have hfin : arithQ s a b = (a / b) := by unfold arithQ; rw [hc18, hc23, hc28, hc34, hc42, hc48, hc53, hc59, hc67, hc72, hc77, hc82, hc87, hc106, hc118, hc122, hc126]; show divuW a b = _; unfold divuW; rw [hc129]; rfl
                   exact ⟨_, Ro G G, congrArg U64 hfin.symm, E1⟩
                 ·refine WC.skip (Sq (Sr (Me (U64 b) (Bn (vy := U64 0#64) G G BinR.eqlU64 (Ni ?_)))))
                  refine WC.cond G (fun hc134 => ?_) (fun hc134 => ?_)
                  ·refine Sr (Me (U64 a) (Ae (U64 a) (Ni (WC.ret ?_))))
                   have hfin : arithQ s a b = a := by unfold arithQ; rw [hc18, hc23, hc28, hc34, hc42, hc48, hc53, hc59, hc67, hc72, hc77, hc82, hc87, hc106, hc118, hc122, hc126]; show remuW a b = _; unfold remuW; rw [hc134]; rfl
                   exact ⟨_, Ro G G, congrArg U64 hfin.symm, E1⟩
                  ·refine WC.skip (Sr (Me (U64 a) (Me (U64 b) (Bn G G (BinR.remU64 (by simpa using hc134)) (Ae (U64 ((a % b))) (Ni (WC.ret ?_)))))))
                   have hfin : arithQ s a b = (a % b) := by unfold arithQ; rw [hc18, hc23, hc28, hc34, hc42, hc48, hc53, hc59, hc67, hc72, hc77, hc82, hc87, hc106, hc118, hc122, hc126]; show remuW a b = _; unfold remuW; rw [hc134]; rfl
                   exact ⟨_, Ro G G, congrArg U64 hfin.symm, E1⟩
end Go.Proofs.S
end
section
namespace Go.Proofs.S
open Go Go.Ux Go.Ux.Mach
def inM (e : List (BitVec 64)) (M : MS) : MS := { M with input := M.input ++ e }
def rdN : List (BitVec 8 × BitVec 64) → Nat
  | [] => 0
  | p :: r => (if p.1 == 1#8 then 1 else 0) + rdN r
theorem rdN_append : ∀ l r, rdN (l ++ r) = rdN l + rdN r
  | [], r => (Nat.zero_add _).symm
  | p :: l, r => by simp only [List.cons_append, rdN]; rw [rdN_append l r]; omega
def InOk (e : List (BitVec 64)) (M : MS) (r r' : MS × Option Bool) : Prop :=
  (r' = (inM e r.1, r.2) ∧ rdN r.1.events + r.1.input.length = rdN M.events + M.input.length ∧ rdN M.events ≤ rdN r.1.events) ∨ (M.input = [] ∧ rdN r.1.events = rdN M.events + 1)
theorem calls_in (e : List (BitVec 64)) (M : MS) : InOk e M (callsM M) (callsM (inM e M)) := by
  unfold InOk callsM
  show _ ∨ _
  by_cases h1 : (M.x 17 == 1#64) = true
  · rw [if_pos h1, if_pos (show ((inM e M).x 17 == 1#64) = true from h1)]
    cases hi : M.input with
    | nil => right; exact ⟨rfl, by simp only [rdN_append]; rfl⟩
    | cons a t =>
      left
      refine ⟨?_, ?_, ?_⟩
      · simp only [inM, hi, List.cons_append, List.tail_cons, List.headD_cons]
      · simp only [rdN_append, List.tail_cons, List.length_cons]
        have : rdN [(1#8, a)] = 1 := rfl
        simp only [List.headD_cons]
        omega
      · simp only [rdN_append]; omega
  rw [if_neg h1, if_neg (show ¬ ((inM e M).x 17 == 1#64) = true from h1)]
  left
  by_cases h2 : (M.x 17 == 2#64) = true
  · rw [if_pos h2, if_pos (show ((inM e M).x 17 == 2#64) = true from h2)]
    exact ⟨G, by simp only [rdN_append]; rfl, by simp only [rdN_append]; omega⟩
  rw [if_neg h2, if_neg (show ¬ ((inM e M).x 17 == 2#64) = true from h2)]
  by_cases h3 : (M.x 17 == 3#64) = true
  · rw [if_pos h3, if_pos (show ((inM e M).x 17 == 3#64) = true from h3)]
    exact ⟨G, by simp only [rdN_append]; rfl, by simp only [rdN_append]; omega⟩
  rw [if_neg h3, if_neg (show ¬ ((inM e M).x 17 == 3#64) = true from h3)]
  by_cases h4 : (M.x 17 == 4#64) = true
  · rw [if_pos h4, if_pos (show ((inM e M).x 17 == 4#64) = true from h4)]
    exact ⟨G, by simp only [rdN_append]; rfl, by simp only [rdN_append]; omega⟩
  rw [if_neg h4, if_neg (show ¬ ((inM e M).x 17 == 4#64) = true from h4)]
  exact ⟨G, G, Nat.le_refl _⟩
theorem store_in (e : List (BitVec 64)) (M : MS) (k : Bool) (o z : Nat) (v : BitVec 64) : storeM (inM e M) k o z v = inM e (storeM M k o z v) := by cases k <;> rfl
theorem storeM_input (M : MS) (k : Bool) (o z : Nat) (v : BitVec 64) : (storeM M k o z v).input = M.input := by cases k <;> rfl
theorem does_in (e : List (BitVec 64)) (M : MS) (a : RvInst) : InOk e M (doesM M a) (doesM (inM e M) a) := by
  have hx : (inM e M).x = M.x := rfl
  have hn : (inM e M).n = M.n := rfl
  have hp : (inM e M).pc = M.pc := rfl
  have hd : (inM e M).d = M.d := rfl
  have hs : (inM e M).s = M.s := rfl
  unfold doesM
  simp only [hx, hn, hp, hd, hs]
  split
  · split
    · exact .inl ⟨G, G, Nat.le_refl _⟩
    · exact .inl ⟨G, G, Nat.le_refl _⟩
  split
  · split
    · exact .inl ⟨G, G, Nat.le_refl _⟩
    · refine .inl ⟨by rw [store_in]; rfl, ?_, ?_⟩
      · rw [putM_events, storeM_events]; show _ + (storeM M _ _ _ _).input.length = _; rw [storeM_input]
      · rw [putM_events, storeM_events]; exact Nat.le_refl _
  split
  · rcases calls_in e M with ⟨h1, h2, h3⟩ | ⟨h1, h2⟩
    · rw [h1]
      refine .inl ?_
      dsimp only
      split
      · exact ⟨G, h2, h3⟩
      · exact ⟨G, h2, h3⟩
    · refine .inr ⟨h1, ?_⟩
      dsimp only
      split
      · exact h2
      · exact h2
  · exact .inl ⟨G, G, Nat.le_refl _⟩
theorem step_in (e : List (BitVec 64)) (M : MS) : (stepM (inM e M) = inM e (stepM M) ∧ rdN (stepM M).events + (stepM M).input.length = rdN M.events + M.input.length ∧ rdN M.events ≤ rdN (stepM M).events) ∨ (M.input = [] ∧ rdN (stepM M).events = rdN M.events + 1) := by
  have hn : nextM (inM e M) = nextM M := rfl
  unfold stepM
  rw [hn]
  cases hN : nextM M with
  | none => exact .inl ⟨rfl, rfl, Nat.le_refl _⟩
  | some a =>
    have h := does_in e { M with steps := M.steps + 1#64 } a
    have ee : inM e { M with steps := M.steps + 1#64 } = { inM e M with steps := (inM e M).steps + 1#64 } := rfl
    rw [ee] at h
    rcases h with ⟨h1, h2, h3⟩ | ⟨h1, h2⟩
    · refine .inl ⟨?_, h2, h3⟩
      dsimp only
      rw [h1]; rfl
    · exact .inr ⟨h1, h2⟩
theorem run_reads : ∀ (k : Nat) (M : MS), rdN M.events ≤ rdN (runN k M).2.events
  | 0, M => Nat.le_refl _
  | k + 1, M => by
    cases hf : M.fin with
    | some b => rw [runN_end (by rw [hf]; rfl)]; exact Nat.le_refl _
    | none =>
      rw [runN_go hf]
      have h1 := run_reads k (stepM M)
      rcases step_in [] M with ⟨_, _, h3⟩ | ⟨_, h2⟩
      · exact Nat.le_trans h3 h1
      · have h1' : rdN (stepM M).events ≤ rdN (runN k (stepM M)).2.events := h1
        show rdN M.events ≤ rdN (runN k (stepM M)).2.events
        omega
theorem runs_in (e : List (BitVec 64)) : ∀ (k : Nat) (M : MS), rdN (runN k M).2.events ≤ rdN M.events + M.input.length → runN k (inM e M) = ((runN k M).1, inM e (runN k M).2)
  | 0, M, _ => rfl
  | k + 1, M, h => by
    cases hf : M.fin with
    | some b => rw [runN_end (M := M) (by rw [hf]; rfl), runN_end (M := inM e M) (by show M.fin.isSome = true; rw [hf]; rfl)]
    | none =>
      rw [runN_go hf] at h ⊢
      rw [runN_go (M := inM e M) hf]
      have h' : rdN (runN k (stepM M)).2.events ≤ rdN M.events + M.input.length := h
      have h1 := run_reads k (stepM M)
      rcases step_in e M with ⟨h2, h3, h4⟩ | ⟨h2, h3⟩
      · rw [h2, runs_in e k (stepM M) (by omega)]
      · rw [h2, List.length_nil] at h'; omega
theorem run_ended : ∀ (k : Nat) (M : MS), (runN k M).1 < k → (runN k M).2.fin.isSome = true
  | 0, M, h => absurd h (Nat.not_lt_zero _)
  | k + 1, M, h => by
    cases hf : M.fin with
    | some b => rw [runN_end (by rw [hf]; rfl)]; rw [hf]; rfl
    | none =>
      rw [runN_go hf] at h ⊢
      exact run_ended k (stepM M) (by have h' : (runN k (stepM M)).1 + 1 < k + 1 := h; omega)
theorem newM_in (I : Image.Img) (inp more : List (BitVec 64)) : newM I (inp ++ more) = inM more (newM I inp) := rfl
theorem rdN_take (l : List (BitVec 8 × BitVec 64)) (i : Nat) (h : i < l.length) : rdN (l.take (i + 1)) = rdN (l.take i) + (if l[i].1 == 1#8 then 1 else 0) := by
  rw [List.take_add_one, rdN_append, List.getElem?_eq_getElem h]; rfl
theorem rdN_le : ∀ l : List (BitVec 8 × BitVec 64), rdN l ≤ l.length
  | [] => Nat.le_refl _
  | p :: r => by have := rdN_le r; simp only [rdN, List.length_cons]; split <;> omega
theorem does_steps (M : MS) (a : RvInst) : (doesM M a).1.steps = M.steps := by
  have hs : ∀ k o z v, (storeM M k o z v).steps = M.steps := fun k o z v => by cases k <;> rfl
  have hc : (callsM M).1.steps = M.steps := by unfold callsM; split; · rfl
                                               split; · rfl
                                               split; · rfl
                                               split <;> rfl
  unfold doesM
  dsimp only
  split
  · split <;> rfl
  split
  · split
    · rfl
    · exact hs _ _ _ _
  split
  · dsimp only
    split
    · exact hc
    · exact hc
  · rfl
theorem step_steps (M : MS) : (stepM M).steps = M.steps + 1#64 := by
  unfold stepM
  split
  · rfl
  · exact does_steps _ _
theorem run_steps : ∀ (k : Nat) (M : MS), (runN k M).2.steps = M.steps + BitVec.ofNat 64 (runN k M).1
  | 0, M => by show M.steps = M.steps + 0#64; simp
  | k + 1, M => by
    cases hf : M.fin with
    | some b => rw [runN_end (by rw [hf]; rfl)]; show M.steps = M.steps + 0#64; simp
    | none =>
      rw [runN_go hf]
      show (runN k (stepM M)).2.steps = M.steps + BitVec.ofNat 64 ((runN k (stepM M)).1 + 1)
      rw [run_steps k (stepM M), step_steps, BitVec.ofNat_add, BitVec.add_assoc, BitVec.add_comm (1#64)]
theorem steps_IN (n : Nat) (h : n < 1000) : I64 (0#64 + BitVec.ofNat 64 n) = IN n := by
  have : (0#64 + BitVec.ofNat 64 n).toInt = (n : Int) := by
    rw [BitVec.zero_add, BitVec.toInt_eq_toNat_cond, BitVec.toNat_ofNat, Nat.mod_eq_of_lt (by omega), if_pos (by omega)]
  show Value.int .i64 _ = Value.int .i64 _
  rw [this]
theorem evV_get : ∀ (l : List (BitVec 8 × BitVec 64)) (j : Nat) (h : j < l.length), (evV l)[j * 2]? = some (U8 (l[j]).1) ∧ (evV l)[j * 2 + 1]? = some (I64 (l[j]).2)
  | p :: r, 0, _ => ⟨rfl, rfl⟩
  | p :: r, j + 1, h => by
    have hh := evV_get r j (by simpa using h)
    have e : evV (p :: r) = U8 p.1 :: I64 p.2 :: evV r := rfl
    rw [e, Nat.add_mul, Nat.one_mul]
    exact hh
def FarV (w : World) (v : Value) (n : Nat) (T : Nat → Nat) : Prop := n = 0 ∨ ∀ g, v.ownBlock = some g → g < w.heap.size ∧ T g = 0
theorem FarV.of {T : Nat → Nat} {w w' : World} {b n : Nat} {M : MS} {v : Value} {xs : List Value} (ho : Ux.Own w' 2 v n xs) (hf : From w.heap.size v) (hM : MR T w b M) : FarV w' v n T := by
  by_cases h0 : n = 0
  · exact .inl h0
  refine .inr fun g hg => ⟨ho.lt (by omega) (by decide) hg, ?_⟩
  have h1 := hf g hg
  rcases Nat.eq_zero_or_pos (T g) with h | h
  · exact h
  · have := (hM.lt g (by omega)).1; omega
theorem FarV.size {O : Nat → Prop} {w w' : World} {v : Value} {n : Nat} {T : Nat → Nat} (h : FarV w v n T) (m : Mod O w w') : FarV w' v n T := h.imp id fun h g hg => ⟨Nat.lt_of_lt_of_le (h g hg).1 (Mod.size m), (h g hg).2⟩
theorem Sl.farMod {w w' : World} {v : Value} {n : Nat} {xs : List Value} {T : Nat → Nat} (h : Sl w v 2 n xs) (hF : FarV w v n T) (m : Mod (Fp T) w w') : Sl w' v 2 n xs := by
  rcases hF with h0 | hF
  · obtain ⟨ao, cap, e, h1, h2, _⟩ := h
    exact ⟨ao, cap, e, h1, h2, .inl h0⟩
  · exact h.mod m fun a l c e => by
      have := hF a.block (by rw [e]; rfl)
      exact fun hk => hk this.2
theorem long_form {w : World} {v : Value} {n : Nat} {xs : List Value} (h : Ux.Own w 1 v n xs) : v = .slice none 0 0 ∨ ∃ a c, v = .slice (some a) n c := by
  rcases h.2 with ⟨e, _⟩ | ⟨g, cap, e, _⟩
  · exact .inl e
  · exact .inr ⟨_, _, e⟩
end Go.Proofs.S
end
section
namespace Go.Proofs.S
open Go Go.Ux Go.Ux.Mach Go.Proofs Go.Proofs.M Go.Ux.Image
set_option linter.unusedVariables false
def apart (i j : Nat) : Bool := ((rvAt i).mtch &&& (rvAt j).form.mask) != ((rvAt j).mtch &&& (rvAt i).form.mask)
theorem rows_apart : ((List.range 66).all fun i => (List.range i).all fun j => j == 0 || apart i j) = true := by kernel_rfl
theorem row_zero : (rvAt 0).form.mask = 0#32 := rfl
theorem row_masks : ((List.range 66).all fun i => i == 0 || (rvAt i).form.mask != 0#32) = true := by kernel_rfl
theorem findRow_of {x : BitVec 32} {i : Nat} (h0 : 0 < i) (h : i < 66) (hx : x &&& (rvAt i).form.mask = (rvAt i).mtch) : findRow x tableD = some i := by
 unfold findRow
 rw [List.findIdx?_eq_some_iff_getElem]
 refine ⟨by rw [tableD_length]; exact h, ?_, fun j hj => ?_⟩
 ·rw [rvAt_eq i (by rw [tableD_length]; exact h)]
  have hm := List.all_eq_true.1 row_masks i (List.mem_range.2 h)
  have : (i == 0) = false := by simp; omega
  rw [this, Bool.false_or] at hm
  unfold rowIs; rw [hm, hx]; simp
 ·rw [rvAt_eq j (by rw [tableD_length]; omega)]
  unfold rowIs
  rcases Nat.eq_zero_or_pos j with rfl | hj0
  ·rw [row_zero]; simp
  ·have h1 := List.all_eq_true.1 (List.all_eq_true.1 rows_apart i (List.mem_range.2 h)) j (List.mem_range.2 hj)
   have h2 : (j == 0) = false := by simp; omega
   rw [h2, Bool.false_or] at h1
   unfold apart at h1
   intro hc
   rw [Bool.and_eq_true] at hc
   have h3 : x &&& (rvAt j).form.mask = (rvAt j).mtch := by simpa using hc.2
   have h4 : ((rvAt i).mtch &&& (rvAt j).form.mask) = ((rvAt j).mtch &&& (rvAt i).form.mask) := by
    rw [← hx, ← h3, BitVec.and_assoc, BitVec.and_assoc, BitVec.and_comm (rvAt i).form.mask]
   rw [h4] at h1
   simp at h1
theorem and_low {n : Nat} (x : BitVec n) (k : Nat) (h : k < n) : (x &&& BitVec.ofNat n (2 ^ k - 1)).toNat = x.toNat % 2 ^ k := by
 have h2 : (2 : Nat) ^ k < 2 ^ n := Nat.pow_lt_pow_right (by decide) h
 have h1 := Nat.two_pow_pos k
 rw [BitVec.toNat_and, BitVec.toNat_ofNat, Nat.mod_eq_of_lt (show 2 ^ k - 1 < 2 ^ n by omega), Nat.and_two_pow_sub_one_eq_mod]
theorem or_shl {x : BitVec 32} {a k : Nat} (ha : a < 2 ^ k) (hk : k ≤ 32) (hx : x.toNat * 2 ^ k < 2 ^ 32) : (BitVec.ofNat 32 a ||| x <<< k).toNat = a + x.toNat * 2 ^ k := by
 have e : a < 2 ^ 32 := Nat.lt_of_lt_of_le ha (Nat.pow_le_pow_right (by decide) hk)
 rw [BitVec.toNat_or, BitVec.toNat_shiftLeft, BitVec.toNat_ofNat, Nat.mod_eq_of_lt e, Nat.shiftLeft_eq, Nat.mod_eq_of_lt hx, Nat.or_comm, ← Nat.shiftLeft_eq, ← Nat.shiftLeft_add_eq_or_of_lt ha, Nat.shiftLeft_eq, Nat.add_comm]
def luiW (x : BitVec 20) : BitVec 32 := 823#32 ||| (x.setWidth 32 <<< 12)
def luiX (x : BitVec 20) : BitVec 64 := (x.setWidth 32 <<< 12).signExtend 64
theorem luiW_nat (x : BitVec 20) : (luiW x).toNat = 823 + x.toNat * 4096 := by
 have := x.isLt
 unfold luiW
 rw [show (823#32) = BitVec.ofNat 32 823 from rfl, or_shl (by decide) (by decide) (by rw [BitVec.toNat_setWidth]; omega), BitVec.toNat_setWidth]
 omega
theorem lui_row (x : BitVec 20) : findRow (luiW x) tableD = some 1 := by
 refine findRow_of (by decide) (by decide) (BitVec.eq_of_toNat_eq ?_)
 show (luiW x &&& BitVec.ofNat 32 (2 ^ 7 - 1)).toNat = 55
 rw [and_low _ _ (by decide), luiW_nat]; omega
def bitsAt (w : BitVec 32) (a b : Nat) : Nat := w.toNat / 2 ^ a % 2 ^ b
theorem bitsOf_nat (w : BitVec 32) (a b : Nat) (h : b < 32) : (bitsOf (a, b) w).toNat = bitsAt w a b := by
 unfold bitsOf bitsAt
 have e : (1#32 <<< b) - 1#32 = BitVec.ofNat 32 (2 ^ b - 1) := by
  apply BitVec.eq_of_toNat_eq
  have h2 : (2 : Nat) ^ b < 2 ^ 32 := Nat.pow_lt_pow_right (by decide) h
  have h1 := Nat.two_pow_pos b
  rw [BitVec.toNat_sub, BitVec.toNat_shiftLeft, BitVec.toNat_ofNat, BitVec.toNat_ofNat, Nat.shiftLeft_eq]
  omega
 show (w >>> a &&& ((1#32 <<< b) - 1#32)).toNat = _
 rw [e, and_low _ _ h, BitVec.toNat_ushiftRight, Nat.shiftRight_eq_div_pow]
theorem bv8 {x : BitVec 32} {n : Nat} (h : x.toNat = n) (hn : n < 256) : x.setWidth 8 = BitVec.ofNat 8 n := by
 apply BitVec.eq_of_toNat_eq; rw [BitVec.toNat_setWidth, BitVec.toNat_ofNat, h]
theorem lui_reg (x : BitVec 20) : (bitsOf (7, 5) (luiW x)).setWidth 8 = 6#8 := by
 refine bv8 (n := 6) ?_ (by decide)
 rw [bitsOf_nat _ _ _ (by decide)]; unfold bitsAt; rw [luiW_nat]; omega
theorem lui_imm (x : BitVec 20) : (bitsOf (12, 20) (luiW x)).setWidth 64 = x.setWidth 64 := by
 apply BitVec.eq_of_toNat_eq
 have := x.isLt
 rw [BitVec.toNat_setWidth, BitVec.toNat_setWidth, bitsOf_nat _ _ _ (by decide)]; unfold bitsAt; rw [luiW_nat]; omega
theorem lui_num (x : BitVec 20) : number (formOf .U) (luiW x) = luiX x := by
 show BitVec.sshiftRight (((0#64 <<< 20 ||| (bitsOf (12, 20) (luiW x)).setWidth 64) <<< 12) <<< (64 - 32)) (64 - 32) = _
 rw [lui_imm]
 unfold luiX
 have h1 := x.isLt
 have e0 : (0#64 <<< 20 ||| x.setWidth 64) = x.setWidth 64 := by rw [show (0#64 <<< 20 : BitVec 64) = 0#64 from rfl, BitVec.zero_or]
 rw [e0]
 apply BitVec.eq_of_toInt_eq
 rw [BitVec.toInt_signExtend_of_le (by decide), BitVec.toInt_sshiftRight, Int.shiftRight_eq_div_pow]
 have e1 : (x.setWidth 64 <<< 12 <<< (64 - 32)).toNat = x.toNat * 17592186044416 := by
  rw [BitVec.toNat_shiftLeft, BitVec.toNat_shiftLeft, BitVec.toNat_setWidth, Nat.shiftLeft_eq, Nat.shiftLeft_eq]; omega
 have e2 : (x.setWidth 32 <<< 12).toNat = x.toNat * 4096 := by
  rw [BitVec.toNat_shiftLeft, BitVec.toNat_setWidth, Nat.shiftLeft_eq]; omega
 rw [BitVec.toInt_eq_toNat_cond, BitVec.toInt_eq_toNat_cond, e1, e2]
 split <;> split <;> omega
theorem luiX_int (x : BitVec 20) : (luiX x).toInt = if x.toNat < 524288 then (x.toNat : Int) * 4096 else (x.toNat : Int) * 4096 - 4294967296 := by
 have h1 := x.isLt
 unfold luiX
 rw [BitVec.toInt_signExtend_of_le (by decide)]
 have e2 : (x.setWidth 32 <<< 12).toNat = x.toNat * 4096 := by
  rw [BitVec.toNat_shiftLeft, BitVec.toNat_setWidth, Nat.shiftLeft_eq]; omega
 rw [BitVec.toInt_eq_toNat_cond, e2]
 split <;> split <;> omega
theorem luiX_low (x : BitVec 20) : (luiX x &&& 4095#64) = 0#64 := by
 have h1 := x.isLt
 apply BitVec.eq_of_toNat_eq
 show (luiX x &&& BitVec.ofNat 64 (2 ^ 12 - 1)).toNat = 0
 rw [and_low _ _ (by decide)]
 have h := luiX_int x
 rw [BitVec.toInt_eq_toNat_cond] at h
 split at h <;> split at h <;> omega
theorem lui_fits (x : BitVec 20) : fitsF (formOf .U) (luiX x) = true := by
 have h1 := x.isLt
 have hi := luiX_int x
 show (BitVec.sle (BitVec.ofInt 64 (-2147483648)) (luiX x) && BitVec.slt (luiX x) (BitVec.ofInt 64 2147483648) && ((luiX x &&& 4095#64) == 0#64)) = true
 rw [luiX_low]
 have e1 : (BitVec.ofInt 64 (-2147483648)).toInt = -2147483648 := by decide
 have e2 : (BitVec.ofInt 64 2147483648).toInt = 2147483648 := by decide
 simp only [BitVec.sle, BitVec.slt, e1, e2, Bool.and_eq_true, decide_eq_true_eq]
 refine ⟨⟨?_, ?_⟩, by decide⟩ <;> (rw [hi]; split <;> omega)
theorem lui_spread (x : BitVec 20) : spreadF (formOf .U) (luiX x) = x.setWidth 32 <<< 12 := by
 have h1 := x.isLt
 show (0#32 ||| ((BitVec.sshiftRight (luiX x) 12 &&& (1#64 <<< 20 - 1#64)).signExtend 32 <<< 12)) = _
 rw [BitVec.zero_or]
 congr 1
 apply BitVec.eq_of_toNat_eq
 have e : (BitVec.sshiftRight (luiX x) 12 &&& (1#64 <<< 20 - 1#64)).toNat = x.toNat := by
  show (BitVec.sshiftRight (luiX x) 12 &&& BitVec.ofNat 64 (2 ^ 20 - 1)).toNat = _
  rw [and_low _ _ (by decide)]
  have hs : (BitVec.sshiftRight (luiX x) 12).toInt = (luiX x).toInt / 4096 := by rw [BitVec.toInt_sshiftRight, Int.shiftRight_eq_div_pow]; rfl
  rw [luiX_int, BitVec.toInt_eq_toNat_cond] at hs
  split at hs <;> split at hs <;> omega
 rw [BitVec.signExtend_eq_setWidth_of_le _ (by decide), BitVec.toNat_setWidth, BitVec.toNat_setWidth, e]
theorem decI_of {x : BitVec 32} {i : Nat} (h : findRow x tableD = some i) : decI x = decodeAt i x ∧ decE x = 0 := by
 unfold decI decE; rw [h]; exact ⟨rfl, rfl⟩
theorem decW_of {x : BitVec 32} {a : RvInst} (h : decI x = a) (h0 : decE x = 0) (ho : a.op ≠ 65#8) : decW x = (a, true) := by
 unfold decW; rw [h0, h]
 have : (a.op != 65#8) = true := by simpa using ho
 rw [this]; rfl
def luiI (x : BitVec 20) : RvInst := ⟨1#8, 6#8, 0#8, 0#8, luiX x⟩
theorem lui_enc (x : BitVec 20) : encodeR (luiI x) = (luiW x, 0) := by
 have h1 : encBad (luiI x) = false := rfl
 have h2 : fitsF (formOf (rvAt (luiI x).op.toNat).k) (luiI x).imm = true := lui_fits x
 unfold encodeR
 rw [if_neg (by show ¬ (1 < 1 ∨ 66 ≤ 1); decide), h1, h2]
 show (encW (luiI x), 0) = _
 have e : encW (luiI x) = luiW x := by
  have hc : tog [(rvAt 1).mtch, (6#8).setWidth 32 <<< 7, (0#8).setWidth 32 <<< 15, (0#8).setWidth 32 <<< 20] = 823#32 := by kernel_rfl
  show tog [(rvAt 1).mtch, (6#8).setWidth 32 <<< 7, (0#8).setWidth 32 <<< 15, (0#8).setWidth 32 <<< 20] ||| spreadF (formOf .U) (luiX x) = _
  rw [hc, lui_spread]; rfl
 rw [e]
theorem lui_dec (x : BitVec 20) : decW (luiW x) = (luiI x, true) := by
 obtain ⟨h1, h2⟩ := decI_of (lui_row x)
 refine decW_of (h1.trans ?_) h2 (by show (1#8 : BitVec 8) ≠ 65#8; decide)
 show (⟨1#8, (bitsOf (7, 5) (luiW x)).setWidth 8, 0#8, 0#8, number (formOf .U) (luiW x)⟩ : RvInst) = _
 rw [lui_reg, lui_num]; rfl
def addW (y : BitVec 12) : BitVec 32 := 197403#32 ||| (y.setWidth 32 <<< 20)
def addX (y : BitVec 12) : BitVec 64 := y.signExtend 64
def addI (y : BitVec 12) : RvInst := ⟨41#8, 6#8, 6#8, 0#8, addX y⟩
theorem addW_nat (y : BitVec 12) : (addW y).toNat = 197403 + y.toNat * 1048576 := by
 have := y.isLt
 unfold addW
 rw [show (197403#32) = BitVec.ofNat 32 197403 from rfl, or_shl (by decide) (by decide) (by rw [BitVec.toNat_setWidth]; omega), BitVec.toNat_setWidth]
 omega
theorem shl_and (z : BitVec 32) (k m : Nat) (h : m < 2 ^ k) : (z <<< k) &&& BitVec.ofNat 32 m = 0#32 := by
 apply BitVec.eq_of_getLsbD_eq
 intro i hi
 rw [BitVec.getLsbD_and, BitVec.getLsbD_shiftLeft, BitVec.getLsbD_ofNat]
 by_cases hk : i < k
 ·simp [hk]
 ·have : m.testBit i = false := Nat.testBit_lt_two_pow (Nat.lt_of_lt_of_le h (Nat.pow_le_pow_right (by decide) (by omega)))
  simp [this]
theorem add_row (y : BitVec 12) : findRow (addW y) tableD = some 41 := by
 refine findRow_of (by decide) (by decide) ?_
 show (197403#32 ||| (y.setWidth 32 <<< 20)) &&& BitVec.ofNat 32 28799 = 27#32
 have : (197403#32 ||| (y.setWidth 32 <<< 20)) &&& BitVec.ofNat 32 28799 = (197403#32 &&& BitVec.ofNat 32 28799) ||| ((y.setWidth 32 <<< 20) &&& BitVec.ofNat 32 28799) := by
  apply BitVec.eq_of_getLsbD_eq
  intro i hi
  simp only [BitVec.getLsbD_and, BitVec.getLsbD_or, Bool.and_or_distrib_right]
 rw [this, shl_and _ _ _ (by decide)]; rfl
theorem add_rd (y : BitVec 12) : (bitsOf (7, 5) (addW y)).setWidth 8 = 6#8 := by
 refine bv8 (n := 6) ?_ (by decide)
 rw [bitsOf_nat _ _ _ (by decide)]; unfold bitsAt; rw [addW_nat]; omega
theorem add_rs (y : BitVec 12) : (bitsOf (15, 5) (addW y)).setWidth 8 = 6#8 := by
 refine bv8 (n := 6) ?_ (by decide)
 rw [bitsOf_nat _ _ _ (by decide)]; unfold bitsAt; rw [addW_nat]; omega
theorem add_imm (y : BitVec 12) : (bitsOf (20, 12) (addW y)).setWidth 64 = y.setWidth 64 := by
 apply BitVec.eq_of_toNat_eq
 have := y.isLt
 rw [BitVec.toNat_setWidth, BitVec.toNat_setWidth, bitsOf_nat _ _ _ (by decide)]; unfold bitsAt; rw [addW_nat]; omega
theorem addX_int (y : BitVec 12) : (addX y).toInt = if y.toNat < 2048 then (y.toNat : Int) else (y.toNat : Int) - 4096 := by
 have h1 := y.isLt
 unfold addX
 rw [BitVec.toInt_signExtend_of_le (by decide), BitVec.toInt_eq_toNat_cond]
 split <;> split <;> omega
theorem add_num (y : BitVec 12) : number (formOf .I) (addW y) = addX y := by
 show BitVec.sshiftRight (((0#64 <<< 12 ||| (bitsOf (20, 12) (addW y)).setWidth 64) <<< 0) <<< (64 - 12)) (64 - 12) = _
 rw [add_imm]
 have h1 := y.isLt
 have e0 : (0#64 <<< 12 ||| y.setWidth 64) = y.setWidth 64 := by rw [show (0#64 <<< 12 : BitVec 64) = 0#64 from rfl, BitVec.zero_or]
 rw [e0]
 apply BitVec.eq_of_toInt_eq
 rw [addX_int, BitVec.toInt_sshiftRight, Int.shiftRight_eq_div_pow]
 have e1 : (y.setWidth 64 <<< 0 <<< (64 - 12)).toNat = y.toNat * 4503599627370496 := by
  rw [BitVec.toNat_shiftLeft, BitVec.toNat_shiftLeft, BitVec.toNat_setWidth, Nat.shiftLeft_eq, Nat.shiftLeft_eq]; omega
 rw [BitVec.toInt_eq_toNat_cond, e1]
 split <;> split <;> omega
theorem add_fits (y : BitVec 12) : fitsF (formOf .I) (addX y) = true := by
 have h1 := y.isLt
 have hi := addX_int y
 show (BitVec.sle (BitVec.ofInt 64 (-2048)) (addX y) && BitVec.slt (addX y) (BitVec.ofInt 64 2048) && ((addX y &&& 0#64) == 0#64)) = true
 have e1 : (BitVec.ofInt 64 (-2048)).toInt = -2048 := by decide
 have e2 : (BitVec.ofInt 64 2048).toInt = 2048 := by decide
 simp only [BitVec.sle, BitVec.slt, e1, e2, Bool.and_eq_true, decide_eq_true_eq, BitVec.and_zero]
 refine ⟨⟨?_, ?_⟩, by decide⟩ <;> (rw [hi]; split <;> omega)
theorem add_spread (y : BitVec 12) : spreadF (formOf .I) (addX y) = y.setWidth 32 <<< 20 := by
 have h1 := y.isLt
 show (0#32 ||| ((BitVec.sshiftRight (addX y) 0 &&& (1#64 <<< 12 - 1#64)).signExtend 32 <<< 20)) = _
 rw [BitVec.zero_or]
 congr 1
 apply BitVec.eq_of_toNat_eq
 have e : (BitVec.sshiftRight (addX y) 0 &&& (1#64 <<< 12 - 1#64)).toNat = y.toNat := by
  show (BitVec.sshiftRight (addX y) 0 &&& BitVec.ofNat 64 (2 ^ 12 - 1)).toNat = _
  rw [and_low _ _ (by decide)]
  have hs : (BitVec.sshiftRight (addX y) 0).toInt = (addX y).toInt := by rw [BitVec.toInt_sshiftRight, Int.shiftRight_eq_div_pow]; simp
  rw [addX_int, BitVec.toInt_eq_toNat_cond] at hs
  split at hs <;> split at hs <;> omega
 rw [BitVec.signExtend_eq_setWidth_of_le _ (by decide), BitVec.toNat_setWidth, BitVec.toNat_setWidth, e]
theorem add_enc (y : BitVec 12) : encodeR (addI y) = (addW y, 0) := by
 have h1 : encBad (addI y) = false := rfl
 have h2 : fitsF (formOf (rvAt (addI y).op.toNat).k) (addI y).imm = true := add_fits y
 unfold encodeR
 rw [if_neg (by show ¬ (41 < 1 ∨ 66 ≤ 41); decide), h1, h2]
 show (encW (addI y), 0) = _
 have e : encW (addI y) = addW y := by
  have hc : tog [(rvAt 41).mtch, (6#8).setWidth 32 <<< 7, (6#8).setWidth 32 <<< 15, (0#8).setWidth 32 <<< 20] = 197403#32 := by kernel_rfl
  show tog [(rvAt 41).mtch, (6#8).setWidth 32 <<< 7, (6#8).setWidth 32 <<< 15, (0#8).setWidth 32 <<< 20] ||| spreadF (formOf .I) (addX y) = _
  rw [hc, add_spread]; rfl
 rw [e]
theorem add_dec (y : BitVec 12) : decW (addW y) = (addI y, true) := by
 obtain ⟨h1, h2⟩ := decI_of (add_row y)
 refine decW_of (h1.trans ?_) h2 (by show (41#8 : BitVec 8) ≠ 65#8; decide)
 show (⟨41#8, (bitsOf (7, 5) (addW y)).setWidth 8, (bitsOf (15, 5) (addW y)).setWidth 8, 0#8, number (formOf .I) (addW y)⟩ : RvInst) = _
 rw [add_rd, add_rs, add_num]; rfl
def keepX (k : Nat) : BitVec 64 := if k < 64 then BitVec.ofNat 64 k else BitVec.ofInt 64 ((k : Int) - 128)
def keepB (k : Nat) : BitVec 8 := if k < 64 then 5#8 else 2#8
def stI (s k : Nat) : RvInst := ⟨BitVec.ofNat 8 (18 + s), 0#8, keepB k, 6#8, keepX k⟩
theorem st_all : ((List.range 4).all fun s => (List.range 128).all fun k => decide ((encodeR (stI s k)).2 = 0) && decide (decW (encodeR (stI s k)).1 = (stI s k, true))) = true := by kernel_rfl
theorem st_enc {s k : Nat} (hs : s < 4) (hk : k < 128) : (encodeR (stI s k)).2 = 0 ∧ decW (encodeR (stI s k)).1 = (stI s k, true) := by
 have h := List.all_eq_true.1 (List.all_eq_true.1 st_all s (List.mem_range.2 hs)) k (List.mem_range.2 hk)
 rw [Bool.and_eq_true] at h
 exact ⟨of_decide_eq_true h.1, of_decide_eq_true h.2⟩
end Go.Proofs.S
end
section
namespace Go.Proofs.S
open Go Go.Ux Go.Ux.Mach Go.Proofs Go.Proofs.M Go.Ux.Image
open Go.Proofs.N (doM loadsM)
set_option linter.unusedVariables false
def fch : FK → BitVec 8
 | .R => 82#8 | .I => 73#8 | .H => 72#8 | .W => 87#8 | .S => 83#8 | .B => 66#8 | .U => 85#8 | .J => 74#8 | .E => 69#8 | .Z => 0#8
def rowC (i : Nat) : List Value := [U8 (fch (rvAt i).k), St (rvAt i).name, U32 ((rvAt i).mtch &&& 127#32), U32 (((rvAt i).mtch >>> 12) &&& 7#32), U32 ((rvAt i).mtch >>> 25)]
def rowQ (i : Nat) : Value := .agg (rowC i).toArray
def rowsC : Array Value := ((List.range 65).flatMap fun i => rowC (i + 1)).toArray
theorem rowsC_get (i : Nat) (h : i < 65) : ∀ q u, (rowC (i + 1))[q]? = some u → rowsC.toList[i * 5 + q]? = some u := by
 have gen : ∀ (l : List Nat) (i : Nat) (h : i < l.length) (q : Nat) (u : Value), (rowC (l[i] + 1))[q]? = some u → (l.flatMap fun i => rowC (i + 1))[i * 5 + q]? = some u := by
  intro l
  induction l with
  | nil => intro i h; simp at h
  | cons a r ih =>
   intro i h q u hq
   rw [List.flatMap_cons]
   cases i with
   | zero =>
    have hl : q < (rowC (a + 1)).length := (List.getElem?_eq_some_iff.1 hq).1
    rw [Nat.zero_mul, Nat.zero_add, List.getElem?_append_left hl]; exact hq
   | succ i =>
    have hl : (rowC (a + 1)).length = 5 := rfl
    rw [List.getElem?_append_right (by rw [hl]; omega), hl, show (i + 1) * 5 + q - 5 = i * 5 + q by omega]
    exact ih i (by simpa using h) q u hq
 intro q u hq
 have := gen (List.range 65) i (by simpa using h) q u (by rw [List.getElem_range]; exact hq)
 exact this
theorem rowsC_cells {w : World} {b : Nat} {t : TypeId} (h : Blk w b rowsC t) {i : Nat} (hi : i < 65) : Cells w b (0 + i * 5) (rowC (i + 1)) := by
 intro q u hq
 rw [Nat.add_assoc]
 exact h.cells (i * 5 + q) u (rowsC_get i hi q u hq)
theorem and_split {x c m n : BitVec 32} (h : c &&& (m ||| n) = c) : (x &&& (m ||| n)) = c ↔ (x &&& m) = (c &&& m) ∧ (x &&& n) = (c &&& n) := by
 have d : ∀ y : BitVec 32, y &&& (m ||| n) = (y &&& m) ||| (y &&& n) := fun y => by
  apply BitVec.eq_of_getLsbD_eq; intro i hi
  simp only [BitVec.getLsbD_and, BitVec.getLsbD_or, Bool.and_or_distrib_left]
 have e : ∀ y : BitVec 32, (y &&& (m ||| n)) &&& m = y &&& m := fun y => by
  apply BitVec.eq_of_getLsbD_eq; intro i hi
  simp only [BitVec.getLsbD_and, BitVec.getLsbD_or]
  cases y.getLsbD i <;> cases m.getLsbD i <;> cases n.getLsbD i <;> rfl
 have e' : ∀ y : BitVec 32, (y &&& (m ||| n)) &&& n = y &&& n := fun y => by
  apply BitVec.eq_of_getLsbD_eq; intro i hi
  simp only [BitVec.getLsbD_and, BitVec.getLsbD_or]
  cases y.getLsbD i <;> cases m.getLsbD i <;> cases n.getLsbD i <;> rfl
 constructor
 ·intro hx
  exact ⟨by rw [← e x, hx], by rw [← e' x, hx]⟩
 ·rintro ⟨h1, h2⟩
  rw [d x, h1, h2, ← d c, h]
theorem fld_iff {x c o : BitVec 32} {a : Nat} (h : (o <<< a) >>> a = o) : (x &&& (o <<< a)) = (c &&& (o <<< a)) ↔ ((x >>> a) &&& o) = ((c >>> a) &&& o) := by
 have s : ∀ y : BitVec 32, (y &&& (o <<< a)) >>> a = (y >>> a) &&& o := fun y => by
  rw [BitVec.ushiftRight_and_distrib, h]
 have t : ∀ y : BitVec 32, y &&& (o <<< a) = ((y >>> a) &&& o) <<< a := fun y => by
  apply BitVec.eq_of_getLsbD_eq; intro i hi
  simp only [BitVec.getLsbD_and, BitVec.getLsbD_shiftLeft, BitVec.getLsbD_ushiftRight]
  by_cases hia : i < a
  ·simp [hia]
  ·rw [show a + (i - a) = i by omega]
   cases y.getLsbD i <;> simp
 exact ⟨fun e => by rw [← s, ← s, e], fun e => by rw [t, t, e]⟩
theorem beq_iff {α : Type} [BEq α] [LawfulBEq α] {a b : α} {p : Bool} (h : a = b ↔ p = true) : (a == b) = p := by
 cases p with
 | true => exact beq_iff_eq.2 (h.2 rfl)
 | false =>
  rcases hab : (a == b) with _ | _
  ·rfl
  ·exact absurd (h.1 (beq_iff_eq.1 hab)) (by decide)
theorem is_base (x m : BitVec 32) (h : m &&& 127#32 = m) : ((x &&& 127#32) == m) = (fieldQ x 0 7 == (m &&& 127#32)) := by
 have e : fieldQ x 0 7 = x &&& 127#32 := by unfold fieldQ; rw [BitVec.ushiftRight_zero]; rfl
 rw [e, h]
theorem is_three (x m : BitVec 32) (h : m &&& 28799#32 = m) : ((x &&& 28799#32) == m) = (fieldQ x 0 7 == (m &&& 127#32) && fieldQ x 12 3 == ((m >>> 12) &&& 7#32)) := by
 have e : fieldQ x 0 7 = x &&& 127#32 := by unfold fieldQ; rw [BitVec.ushiftRight_zero]; rfl
 refine beq_iff ?_
 have hs := and_split (x := x) (c := m) (m := 127#32) (n := 7#32 <<< 12) (by exact h)
 have hf := fld_iff (x := x) (c := m) (o := 7#32) (a := 12) (by decide)
 rw [e, Bool.and_eq_true, beq_iff_eq, beq_iff_eq]
 show (x &&& (127#32 ||| 7#32 <<< 12)) = m ↔ _
 rw [hs, hf]; exact Iff.rfl
theorem is_four (x m : BitVec 32) (h : m &&& 4261441663#32 = m) : ((x &&& 4261441663#32) == m) = ((fieldQ x 0 7 == (m &&& 127#32) && fieldQ x 12 3 == ((m >>> 12) &&& 7#32)) && fieldQ x 25 7 == m >>> 25) := by
 have e : fieldQ x 0 7 = x &&& 127#32 := by unfold fieldQ; rw [BitVec.ushiftRight_zero]; rfl
 refine beq_iff ?_
 have h1 : (m &&& 28799#32) &&& (127#32 ||| 7#32 <<< 12) = m &&& 28799#32 := by rw [BitVec.and_assoc]; rfl
 have hs := and_split (x := x) (c := m) (m := 28799#32) (n := 127#32 <<< 25) (by exact h)
 have hs2 := and_split (x := x) (c := m &&& 28799#32) (m := 127#32) (n := 7#32 <<< 12) h1
 have hf := fld_iff (x := x) (c := m) (o := 7#32) (a := 12) (by decide)
 have hf2 := fld_iff (x := x) (c := m) (o := 127#32) (a := 25) (by decide)
 have a1 : (m &&& 28799#32) &&& 127#32 = m &&& 127#32 := by rw [BitVec.and_assoc]; rfl
 have a2 : (m &&& 28799#32) &&& (7#32 <<< 12) = m &&& (7#32 <<< 12) := by rw [BitVec.and_assoc]; rfl
 have a3 : (m >>> 25) &&& 127#32 = m >>> 25 := by
  apply BitVec.eq_of_toNat_eq
  rw [show (127#32) = BitVec.ofNat 32 (2 ^ 7 - 1) from rfl, and_low _ _ (by decide), BitVec.toNat_ushiftRight, Nat.shiftRight_eq_div_pow]
  have := m.isLt; omega
 rw [e, Bool.and_eq_true, Bool.and_eq_true, beq_iff_eq, beq_iff_eq, beq_iff_eq]
 show (x &&& (28799#32 ||| 127#32 <<< 25)) = m ↔ _
 rw [hs, hf2, a3]
 have : (x &&& 28799#32 = m &&& 28799#32) ↔ (x &&& (127#32 ||| 7#32 <<< 12)) = m &&& 28799#32 := Iff.rfl
 rw [this, hs2, a1, a2, hf]; exact Iff.rfl
theorem is_six (x m : BitVec 32) (h : m &&& 4227887231#32 = m) : ((x &&& 4227887231#32) == m) = ((fieldQ x 0 7 == (m &&& 127#32) && fieldQ x 12 3 == ((m >>> 12) &&& 7#32)) && fieldQ x 26 6 == (m >>> 25) >>> 1) := by
 have e : fieldQ x 0 7 = x &&& 127#32 := by unfold fieldQ; rw [BitVec.ushiftRight_zero]; rfl
 refine beq_iff ?_
 have h1 : (m &&& 28799#32) &&& (127#32 ||| 7#32 <<< 12) = m &&& 28799#32 := by rw [BitVec.and_assoc]; rfl
 have hs := and_split (x := x) (c := m) (m := 28799#32) (n := 63#32 <<< 26) (by exact h)
 have hs2 := and_split (x := x) (c := m &&& 28799#32) (m := 127#32) (n := 7#32 <<< 12) h1
 have hf := fld_iff (x := x) (c := m) (o := 7#32) (a := 12) (by decide)
 have hf2 := fld_iff (x := x) (c := m) (o := 63#32) (a := 26) (by decide)
 have a1 : (m &&& 28799#32) &&& 127#32 = m &&& 127#32 := by rw [BitVec.and_assoc]; rfl
 have a2 : (m &&& 28799#32) &&& (7#32 <<< 12) = m &&& (7#32 <<< 12) := by rw [BitVec.and_assoc]; rfl
 have a3 : (m >>> 26) &&& 63#32 = (m >>> 25) >>> 1 := by
  apply BitVec.eq_of_toNat_eq
  rw [show (63#32) = BitVec.ofNat 32 (2 ^ 6 - 1) from rfl, and_low _ _ (by decide), BitVec.toNat_ushiftRight, BitVec.toNat_ushiftRight, BitVec.toNat_ushiftRight, Nat.shiftRight_eq_div_pow, Nat.shiftRight_eq_div_pow, Nat.shiftRight_eq_div_pow]
  have := m.isLt; omega
 rw [e, Bool.and_eq_true, Bool.and_eq_true, beq_iff_eq, beq_iff_eq, beq_iff_eq]
 show (x &&& (28799#32 ||| 63#32 <<< 26)) = m ↔ _
 rw [hs, hf2, a3]
 have : (x &&& 28799#32 = m &&& 28799#32) ↔ (x &&& (127#32 ||| 7#32 <<< 12)) = m &&& 28799#32 := Iff.rfl
 rw [this, hs2, a1, a2, hf]; exact Iff.rfl
theorem rows_mask : ((List.range 66).all fun i => ((rvAt i).mtch &&& (rvAt i).form.mask) == (rvAt i).mtch) = true := by kernel_rfl
theorem rows_E : ((List.range 66).all fun i => (rvAt i).k != .E || (i == 64 || i == 65)) = true := by kernel_rfl
theorem rows_Z : ((List.range 66).all fun i => (rvAt i).k != .Z || i == 0) = true := by kernel_rfl
theorem is_eq (x : BitVec 32) (i : Nat) (h0 : 0 < i) (h : i < 66) : isQ x (fch (rvAt i).k) (rvAt i).name ((rvAt i).mtch &&& 127#32) (((rvAt i).mtch >>> 12) &&& 7#32) ((rvAt i).mtch >>> 25) = rowIs (rvAt i) x := by
 have hm := List.all_eq_true.1 rows_mask i (List.mem_range.2 h)
 have hE := List.all_eq_true.1 rows_E i (List.mem_range.2 h)
 have hZ := List.all_eq_true.1 rows_Z i (List.mem_range.2 h)
 by_cases he : i = 64 ∨ i = 65
 ·rcases he with rfl | rfl
  ·have e : rowIs (rvAt 64) x = (x == 115#32) := by
    show ((4294967295#32 != 0#32) && ((x &&& 4294967295#32) == 115#32)) = _
    rw [show (4294967295#32) = BitVec.allOnes 32 from rfl, BitVec.and_allOnes]; rfl
   rw [e]
   show ((x == (115#32 &&& 127#32)) && true || (x == 1048691#32) && false) = _
   rw [Bool.and_true, Bool.and_false, Bool.or_false]; rfl
  ·have e : rowIs (rvAt 65) x = (x == 1048691#32) := by
    show ((4294967295#32 != 0#32) && ((x &&& 4294967295#32) == 1048691#32)) = _
    rw [show (4294967295#32) = BitVec.allOnes 32 from rfl, BitVec.and_allOnes]; rfl
   rw [e]
   show ((x == (1048691#32 &&& 127#32)) && false || (x == 1048691#32) && true) = _
   rw [Bool.and_false, Bool.and_true, Bool.false_or]
 unfold rowIs
 generalize hr : rvAt i = r at *
 have hk : r.form = formOf r.k := rfl
 rw [hk] at hm ⊢
 have hm' : r.mtch &&& (formOf r.k).mask = r.mtch := by simpa using hm
 cases hkk : r.k <;> rw [hkk] at hm' hE hZ
 ·exact (is_four x _ hm').symm
 ·exact (is_three x _ hm').symm
 ·exact (is_six x _ hm').symm
 ·exact (is_four x _ hm').symm
 ·exact (is_three x _ hm').symm
 ·exact (is_three x _ hm').symm
 ·exact (is_base x _ hm').symm
 ·exact (is_base x _ hm').symm
 ·exfalso
  simp at hE
  omega
 ·exfalso
  simp at hZ
  omega
theorem nat_or_add {X Y k : Nat} (h : X % 2 ^ k = 0) (h2 : Y < 2 ^ k) : X ||| Y = X + Y := by
 have e : X = (X / 2 ^ k) <<< k := by rw [Nat.shiftLeft_eq]; exact (Nat.div_mul_cancel (Nat.dvd_of_mod_eq_zero h)).symm
 rw [e, Nat.shiftLeft_add_eq_or_of_lt h2]
theorem fld_lt (x : BitVec 32) (a b : Nat) (h : b < 32) : (fieldQ x a b).toNat < 2 ^ b := by
 rw [fieldQ_eq, bitsOf_nat _ _ _ h]; exact Nat.mod_lt _ (Nat.two_pow_pos b)
theorem sgn_nat (y : BitVec 64) (b : Nat) (hb : b = 12 ∨ b = 13 ∨ b = 21 ∨ b = 32) (h : y.toNat < 2 ^ b) : signedQ y b = BitVec.sshiftRight (y <<< (64 - b)) (64 - b) := by
 apply BitVec.eq_of_toInt_eq
 rw [BitVec.toInt_sshiftRight, Int.shiftRight_eq_div_pow]
 have e : (y <<< (64 - b)).toNat = y.toNat * 2 ^ (64 - b) := by
  rw [BitVec.toNat_shiftLeft, Nat.shiftLeft_eq]
  rcases hb with rfl | rfl | rfl | rfl <;> omega
 rw [BitVec.toInt_eq_toNat_cond (y <<< (64 - b)), e]
 have c : ∀ s : Bool, (bif s then y - 1#64 <<< b else y).toInt = bif s then (y - 1#64 <<< b).toInt else y.toInt := fun s => by cases s <;> rfl
 unfold signedQ
 rw [c]
 have hy : y.toInt = (y.toNat : Int) := by rw [BitVec.toInt_eq_toNat_cond]; rcases hb with rfl | rfl | rfl | rfl <;> (split <;> omega)
 have h1 : (1#64 <<< (b - 1)).toInt = 2 ^ (b - 1) := by rcases hb with rfl | rfl | rfl | rfl <;> decide
 have h2 : (y - 1#64 <<< b).toNat = (18446744073709551616 - 2 ^ b + y.toNat) % 18446744073709551616 := by rw [BitVec.toNat_sub]; rcases hb with rfl | rfl | rfl | rfl <;> rfl
 have hs : BitVec.sle (1#64 <<< (b - 1)) y = decide ((2 : Int) ^ (b - 1) ≤ (y.toNat : Int)) := by unfold BitVec.sle; rw [h1, hy]
 rw [hs, hy, BitVec.toInt_eq_toNat_cond, h2]
 by_cases hc : (2 : Int) ^ (b - 1) ≤ (y.toNat : Int)
 ·rw [decide_eq_true hc]
  simp only [cond_true]
  rcases hb with rfl | rfl | rfl | rfl <;> (split <;> split <;> omega)
 ·rw [decide_eq_false hc]
  simp only [cond_false]
  rcases hb with rfl | rfl | rfl | rfl <;> (split <;> omega)
end Go.Proofs.S
end
section
namespace Go.Proofs.S
open Go Go.Ux Go.Ux.Mach Go.Proofs Go.Proofs.M Go.Ux.Image
open Go.Proofs.N (doM loadsM)
set_option linter.unusedVariables false
theorem or0 (k : Nat) (y : BitVec 64) : (0#64 <<< k ||| y) = y := by rw [BitVec.zero_shiftLeft, BitVec.zero_or]
theorem or_toNat {n : Nat} {X Y : BitVec n} (k : Nat) (h : X.toNat % 2 ^ k = 0) (h2 : Y.toNat < 2 ^ k) : (X ||| Y).toNat = X.toNat + Y.toNat := by rw [BitVec.toNat_or, nat_or_add h h2]
theorem sl32 (a : BitVec 32) (k : Nat) (h : a.toNat * 2 ^ k < 4294967296) : (a <<< k).toNat = a.toNat * 2 ^ k := by rw [BitVec.toNat_shiftLeft, Nat.shiftLeft_eq, Nat.mod_eq_of_lt h]
theorem sl64 (a : BitVec 64) (k : Nat) (h : a.toNat * 2 ^ k < 18446744073709551616) : (a <<< k).toNat = a.toNat * 2 ^ k := by rw [BitVec.toNat_shiftLeft, Nat.shiftLeft_eq, Nat.mod_eq_of_lt h]
theorem sw64 (a : BitVec 32) : (a.setWidth 64).toNat = a.toNat := by rw [BitVec.toNat_setWidth]; have := a.isLt; omega
theorem num_S (a b : BitVec 32) (ha : a.toNat < 128) (hb : b.toNat < 32) : (a <<< 5 ||| b).setWidth 64 = (a.setWidth 64 <<< 5 ||| b.setWidth 64) <<< 0 ∧ ((a <<< 5 ||| b).setWidth 64).toNat < 4096 := by
 have e1 := sl32 a 5 (by omega)
 have e2 := or_toNat (X := a <<< 5) (Y := b) 5 (by omega) (by omega)
 have e3 := sl64 (a.setWidth 64) 5 (by rw [sw64]; omega)
 rw [sw64] at e3
 have e4 := or_toNat (X := a.setWidth 64 <<< 5) (Y := b.setWidth 64) 5 (by omega) (by rw [sw64]; omega)
 rw [sw64] at e4
 refine ⟨?_, by rw [sw64]; omega⟩
 apply BitVec.eq_of_toNat_eq
 rw [sw64, BitVec.shiftLeft_zero]; omega
theorem num_B (a b c d : BitVec 32) (ha : a.toNat < 2) (hb : b.toNat < 2) (hc : c.toNat < 64) (hd : d.toNat < 16) :
  (a <<< 12 ||| b <<< 11 ||| c <<< 5 ||| d <<< 1).setWidth 64 = ((((a.setWidth 64 <<< 1 ||| b.setWidth 64) <<< 6 ||| c.setWidth 64) <<< 4 ||| d.setWidth 64) <<< 1) ∧ ((a <<< 12 ||| b <<< 11 ||| c <<< 5 ||| d <<< 1).setWidth 64).toNat < 8192 := by
 have a1 := sl32 a 12 (by omega)
 have b1 := sl32 b 11 (by omega)
 have c1 := sl32 c 5 (by omega)
 have d1 := sl32 d 1 (by omega)
 have e1 := or_toNat (X := a <<< 12) (Y := b <<< 11) 12 (by omega) (by omega)
 have e2 := or_toNat (X := a <<< 12 ||| b <<< 11) (Y := c <<< 5) 11 (by omega) (by omega)
 have e3 := or_toNat (X := a <<< 12 ||| b <<< 11 ||| c <<< 5) (Y := d <<< 1) 5 (by omega) (by omega)
 have A := sw64 a; have B := sw64 b; have C := sw64 c; have D := sw64 d
 have f1 := sl64 (a.setWidth 64) 1 (by omega)
 have f2 := or_toNat (X := a.setWidth 64 <<< 1) (Y := b.setWidth 64) 1 (by omega) (by omega)
 have f3 := sl64 (a.setWidth 64 <<< 1 ||| b.setWidth 64) 6 (by omega)
 have f4 := or_toNat (X := (a.setWidth 64 <<< 1 ||| b.setWidth 64) <<< 6) (Y := c.setWidth 64) 6 (by omega) (by omega)
 have f5 := sl64 ((a.setWidth 64 <<< 1 ||| b.setWidth 64) <<< 6 ||| c.setWidth 64) 4 (by omega)
 have f6 := or_toNat (X := ((a.setWidth 64 <<< 1 ||| b.setWidth 64) <<< 6 ||| c.setWidth 64) <<< 4) (Y := d.setWidth 64) 4 (by omega) (by omega)
 have f7 := sl64 (((a.setWidth 64 <<< 1 ||| b.setWidth 64) <<< 6 ||| c.setWidth 64) <<< 4 ||| d.setWidth 64) 1 (by omega)
 have g := sw64 (a <<< 12 ||| b <<< 11 ||| c <<< 5 ||| d <<< 1)
 refine ⟨?_, by omega⟩
 apply BitVec.eq_of_toNat_eq
 omega
theorem num_J (a b c d : BitVec 32) (ha : a.toNat < 2) (hb : b.toNat < 256) (hc : c.toNat < 2) (hd : d.toNat < 1024) :
  (a <<< 20 ||| b <<< 12 ||| c <<< 11 ||| d <<< 1).setWidth 64 = ((((a.setWidth 64 <<< 8 ||| b.setWidth 64) <<< 1 ||| c.setWidth 64) <<< 10 ||| d.setWidth 64) <<< 1) ∧ ((a <<< 20 ||| b <<< 12 ||| c <<< 11 ||| d <<< 1).setWidth 64).toNat < 2097152 := by
 have a1 := sl32 a 20 (by omega)
 have b1 := sl32 b 12 (by omega)
 have c1 := sl32 c 11 (by omega)
 have d1 := sl32 d 1 (by omega)
 have e1 := or_toNat (X := a <<< 20) (Y := b <<< 12) 20 (by omega) (by omega)
 have e2 := or_toNat (X := a <<< 20 ||| b <<< 12) (Y := c <<< 11) 12 (by omega) (by omega)
 have e3 := or_toNat (X := a <<< 20 ||| b <<< 12 ||| c <<< 11) (Y := d <<< 1) 11 (by omega) (by omega)
 have A := sw64 a; have B := sw64 b; have C := sw64 c; have D := sw64 d
 have f1 := sl64 (a.setWidth 64) 8 (by omega)
 have f2 := or_toNat (X := a.setWidth 64 <<< 8) (Y := b.setWidth 64) 8 (by omega) (by omega)
 have f3 := sl64 (a.setWidth 64 <<< 8 ||| b.setWidth 64) 1 (by omega)
 have f4 := or_toNat (X := (a.setWidth 64 <<< 8 ||| b.setWidth 64) <<< 1) (Y := c.setWidth 64) 1 (by omega) (by omega)
 have f5 := sl64 ((a.setWidth 64 <<< 8 ||| b.setWidth 64) <<< 1 ||| c.setWidth 64) 10 (by omega)
 have f6 := or_toNat (X := ((a.setWidth 64 <<< 8 ||| b.setWidth 64) <<< 1 ||| c.setWidth 64) <<< 10) (Y := d.setWidth 64) 10 (by omega) (by omega)
 have f7 := sl64 (((a.setWidth 64 <<< 8 ||| b.setWidth 64) <<< 1 ||| c.setWidth 64) <<< 10 ||| d.setWidth 64) 1 (by omega)
 have g := sw64 (a <<< 20 ||| b <<< 12 ||| c <<< 11 ||| d <<< 1)
 refine ⟨?_, by omega⟩
 apply BitVec.eq_of_toNat_eq
 omega
set_option maxHeartbeats 4000000 in
theorem number_eq (x : BitVec 32) (k : FK) : numberQ x (fch k) = number (formOf k) x := by
 cases k
 ·kernel_rfl
 ·show signedQ ((fieldQ x 20 12).setWidth 64) 12 = BitVec.sshiftRight (((0#64 <<< 12 ||| (fieldQ x 20 12).setWidth 64) <<< 0) <<< (64 - 12)) (64 - 12)
  rw [or0, BitVec.shiftLeft_zero, sgn_nat _ 12 (.inl rfl) (by rw [sw64]; exact fld_lt x 20 12 (by decide))]
 ·show (fieldQ x 20 6).setWidth 64 = (0#64 <<< 6 ||| (fieldQ x 20 6).setWidth 64) <<< 0
  rw [or0, BitVec.shiftLeft_zero]
 ·show (fieldQ x 20 5).setWidth 64 = (0#64 <<< 5 ||| (fieldQ x 20 5).setWidth 64) <<< 0
  rw [or0, BitVec.shiftLeft_zero]
 ·obtain ⟨h1, h2⟩ := num_S (fieldQ x 25 7) (fieldQ x 7 5) (fld_lt x 25 7 (by decide)) (fld_lt x 7 5 (by decide))
  show signedQ ((fieldQ x 25 7 <<< 5 ||| fieldQ x 7 5).setWidth 64) 12 = BitVec.sshiftRight ((((0#64 <<< 7 ||| (fieldQ x 25 7).setWidth 64) <<< 5 ||| (fieldQ x 7 5).setWidth 64) <<< 0) <<< (64 - 12)) (64 - 12)
  rw [or0, ← h1, sgn_nat _ 12 (.inl rfl) h2]
 ·obtain ⟨h1, h2⟩ := num_B (fieldQ x 31 1) (fieldQ x 7 1) (fieldQ x 25 6) (fieldQ x 8 4) (fld_lt x 31 1 (by decide)) (fld_lt x 7 1 (by decide)) (fld_lt x 25 6 (by decide)) (fld_lt x 8 4 (by decide))
  show signedQ _ 13 = BitVec.sshiftRight ((((((0#64 <<< 1 ||| (fieldQ x 31 1).setWidth 64) <<< 1 ||| (fieldQ x 7 1).setWidth 64) <<< 6 ||| (fieldQ x 25 6).setWidth 64) <<< 4 ||| (fieldQ x 8 4).setWidth 64) <<< 1) <<< (64 - 13)) (64 - 13)
  rw [or0, ← h1]
  exact sgn_nat _ 13 (.inr (.inl G)) h2
 ·have e : number (formOf .U) x = BitVec.sshiftRight (((0#64 <<< 20 ||| (fieldQ x 12 20).setWidth 64) <<< 12) <<< (64 - 32)) (64 - 32) := by kernel_rfl
  have h := fld_lt x 12 20 (by decide)
  have h2 : ((fieldQ x 12 20).setWidth 64 <<< 12).toNat < 2 ^ 32 := by rw [sl64 _ 12 (by rw [sw64]; omega), sw64]; omega
  have h3 := sgn_nat ((fieldQ x 12 20).setWidth 64 <<< 12) 32 (.inr (.inr (.inr rfl))) h2
  rw [e, or0, ← h3]; rfl
 ·obtain ⟨h1, h2⟩ := num_J (fieldQ x 31 1) (fieldQ x 12 8) (fieldQ x 20 1) (fieldQ x 21 10) (fld_lt x 31 1 (by decide)) (fld_lt x 12 8 (by decide)) (fld_lt x 20 1 (by decide)) (fld_lt x 21 10 (by decide))
  show signedQ _ 21 = BitVec.sshiftRight ((((((0#64 <<< 1 ||| (fieldQ x 31 1).setWidth 64) <<< 8 ||| (fieldQ x 12 8).setWidth 64) <<< 1 ||| (fieldQ x 20 1).setWidth 64) <<< 10 ||| (fieldQ x 21 10).setWidth 64) <<< 1) <<< (64 - 21)) (64 - 21)
  rw [or0, ← h1]
  exact sgn_nat _ 21 (.inr (.inr (.inl G))) h2
 ·kernel_rfl
 ·kernel_rfl
theorem has_eq (k : FK) : hasQ (fch k) = ((formOf k).rd, (formOf k).rs1, (formOf k).rs2) := by cases k <;> rfl
theorem dec_hit {x : BitVec 32} {i : Nat} (hi : i < 65) (hl : ∀ j, j < i → rowIs (rvAt (j + 1)) x = false) (h : rowIs (rvAt (i + 1)) x = true) : decI x = decodeAt (i + 1) x ∧ decE x = 0 := by
 refine decI_of ?_
 unfold findRow
 rw [List.findIdx?_eq_some_iff_getElem]
 refine ⟨by rw [tableD_length]; omega, ?_, fun j hj => ?_⟩
 ·rw [rvAt_eq _ (by rw [tableD_length]; omega)]; exact h
 ·rw [rvAt_eq j (by rw [tableD_length]; omega)]
  rcases Nat.eq_zero_or_pos j with rfl | h0
  ·unfold rowIs; rw [row_zero]; simp
  ·have := hl (j - 1) (by omega)
   rw [show j - 1 + 1 = j by omega] at this
   rw [this]; decide
theorem dec_miss {x : BitVec 32} (hl : ∀ j, j < 65 → rowIs (rvAt (j + 1)) x = false) : decI x = ⟨0, 0, 0, 0, 0⟩ ∧ decE x = 100 := by
 have : findRow x tableD = none := by
  unfold findRow
  rw [List.findIdx?_eq_none_iff]
  intro r hr
  obtain ⟨j, hj, rfl⟩ := List.getElem_of_mem hr
  rw [rvAt_eq j hj]
  rw [tableD_length] at hj
  rcases Nat.eq_zero_or_pos j with rfl | h0
  ·unfold rowIs; rw [row_zero]; rfl
  ·have := hl (j - 1) (by omega)
   rwa [show j - 1 + 1 = j by omega] at this
 unfold decI decE; rw [this]; exact ⟨rfl, rfl⟩
end Go.Proofs.S
end
section
namespace Go.Proofs.S
open Go Go.Ux Go.Ux.Mach Go.Proofs Go.Proofs.M Go.Ux.Image
open Go.Proofs.N (doM loadsM)
set_option linter.unusedVariables false
def hi20 (n : BitVec 32) : BitVec 20 := ((n + 2048#32) >>> 12).setWidth 20
def lo12 (n : BitVec 32) : BitVec 12 := n.setWidth 12
theorem signW_nat (v : BitVec 64) : (signW v 32).toInt = if v.toNat % 4294967296 < 2147483648 then ((v.toNat % 4294967296 : Nat) : Int) else ((v.toNat % 4294967296 : Nat) : Int) - 4294967296 := by
 unfold signW
 rw [BitVec.toInt_sshiftRight, Int.shiftRight_eq_div_pow, BitVec.toInt_eq_toNat_cond, BitVec.toNat_shiftLeft, Nat.shiftLeft_eq]
 have := v.isLt
 split <;> split <;> omega
theorem hi20_nat (n : BitVec 32) : (hi20 n).toNat = (n.toNat + 2048) % 4294967296 / 4096 := by
 unfold hi20
 rw [BitVec.toNat_setWidth, BitVec.toNat_ushiftRight, Nat.shiftRight_eq_div_pow, BitVec.toNat_add]
 show (n.toNat + 2048) % 2 ^ 32 / 2 ^ 12 % 2 ^ 20 = _
 omega
theorem lo12_nat (n : BitVec 32) : (lo12 n).toNat = n.toNat % 4096 := by
 unfold lo12; rw [BitVec.toNat_setWidth]
theorem nat_of_int {x : BitVec 64} {z : Int} (h : x.toInt = z) : (x.toNat : Int) = if z < 0 then z + 18446744073709551616 else z := by
 have := x.isLt
 rw [BitVec.toInt_eq_toNat_cond] at h
 split at h <;> split <;> omega
theorem keep_num (n : BitVec 32) : signedF (fun x y => x + y) (luiX (hi20 n)) (addX (lo12 n)) = n.signExtend 64 := by
 have hn := n.isLt
 have h1 := nat_of_int (luiX_int (hi20 n))
 have h2 := nat_of_int (addX_int (lo12 n))
 rw [hi20_nat] at h1
 rw [lo12_nat] at h2
 have s1 := signW_nat (luiX (hi20 n))
 have s2 := signW_nat (addX (lo12 n))
 have t1 := nat_of_int s1
 have t2 := nat_of_int s2
 unfold signedF
 apply BitVec.eq_of_toInt_eq
 rw [signW_nat, BitVec.toInt_signExtend_of_le (by decide), BitVec.toInt_eq_toNat_cond]
 have hs : (signW (luiX (hi20 n)) 32 + signW (addX (lo12 n)) 32).toNat % 4294967296 = n.toNat := by
  rw [BitVec.toNat_add]
  generalize (signW (luiX (hi20 n)) 32).toNat = a at *
  generalize (signW (addX (lo12 n)) 32).toNat = b at *
  generalize (luiX (hi20 n)).toNat = c at *
  generalize (addX (lo12 n)).toNat = d at *
  generalize n.toNat = m at *
  clear s1 s2
  have e1 : (a : Int) % 4294967296 = (m + 2048) % 4294967296 / 4096 * 4096 := by
   split at h1 <;> split at h1 <;> split at t1 <;> split at t1 <;> omega
  have e2 : (b : Int) % 4294967296 = (if m % 4096 < 2048 then ((m % 4096 : Nat) : Int) else ((m % 4096 : Nat) : Int) + 4294963200) := by
   split at h2 <;> split at h2 <;> split at t2 <;> split at t2 <;> split <;> omega
  split at e2 <;> omega
 rw [hs]
 split <;> split <;> omega
abbrev KR := BitVec 8 × BitVec 8 × BitVec 32
def KR.s (r : KR) : Nat := (r.2.1 % 4#8).toNat
def KR.k (r : KR) : Nat := (r.1 % 128#8).toNat / 2 ^ r.s * 2 ^ r.s
def KR.v (r : KR) : BitVec 64 := r.2.2.signExtend 64
theorem KR.s_lt (r : KR) : r.s < 4 := by unfold KR.s; rw [BitVec.toNat_umod]; exact Nat.mod_lt _ (by decide)
theorem KR.size (r : KR) : 2 ^ r.s = 1 ∨ 2 ^ r.s = 2 ∨ 2 ^ r.s = 4 ∨ 2 ^ r.s = 8 := by
 have := r.s_lt
 have : r.s = 0 ∨ r.s = 1 ∨ r.s = 2 ∨ r.s = 3 := by omega
 rcases this with h | h | h | h <;> (rw [h]; decide)
theorem KR.at (r : KR) : r.k % 2 ^ r.s = 0 ∧ r.k + 2 ^ r.s ≤ 128 ∧ (r.k < 64 → r.k + 2 ^ r.s ≤ 64) := by
 have h : (r.1 % 128#8).toNat < 128 := by rw [BitVec.toNat_umod]; exact Nat.mod_lt _ (by decide)
 unfold KR.k
 generalize (r.1 % 128#8).toNat = a at h
 rcases r.size with e | e | e | e <;> (rw [e]; omega)
def keepI (r : KR) : List RvInst := [luiI (hi20 r.2.2), addI (lo12 r.2.2), stI r.s r.k]
def keepTail : List RvInst := [⟨22#8, 0#8, 5#8, 0#8, 7#64⟩, ⟨22#8, 17#8, 0#8, 0#8, 3#64⟩, ⟨64#8, 0#8, 0#8, 0#8, 0#64⟩]
def keepHead : List RvInst := [⟨1#8, 5#8, 0#8, 0#8, 4194304#64⟩]
def keepL (rs : List KR) : List RvInst := keepHead ++ rs.flatMap keepI ++ keepTail
theorem keepFlat_length (rs : List KR) : (rs.flatMap keepI).length = 3 * rs.length := by
 induction rs with
 | nil => rfl
 | cons r l ih => rw [List.flatMap_cons, List.length_append, ih, List.length_cons]; show 3 + _ = _; omega
theorem keepL_length (rs : List KR) : (keepL rs).length = 3 * rs.length + 4 := by
 unfold keepL; rw [List.length_append, List.length_append, keepFlat_length]; show 1 + _ + 3 = _; omega
def Words (l : List RvInst) : Prop := ∀ a ∈ l, (encodeR a).2 = 0 ∧ decW (encodeR a).1 = (a, true)
theorem Words.code {l : List RvInst} (h : Words l) : (codeW l).length = l.length ∧ (codeW l).map decW = l.map fun a => (a, true) := by
 induction l with
 | nil => exact ⟨rfl, rfl⟩
 | cons a r ih =>
  obtain ⟨h1, h2⟩ := h a (List.mem_cons_self ..)
  obtain ⟨h3, h4⟩ := ih fun b hb => h b (List.mem_cons_of_mem _ hb)
  have e : codeW (a :: r) = (encodeR a).1 :: codeW r := by
   unfold codeW; rw [List.filterMap_cons]; simp only [h1, if_true]
  rw [e]
  refine ⟨by rw [List.length_cons, List.length_cons, h3], ?_⟩
  rw [List.map_cons, List.map_cons, h2, h4]
theorem keep_words (rs : List KR) : Words (keepL rs) := by
 intro a ha
 unfold keepL at ha
 rw [List.mem_append, List.mem_append] at ha
 rcases ha with (ha | ha) | ha
 ·simp only [keepHead, List.mem_singleton] at ha
  subst ha; exact ⟨by kernel_rfl, by kernel_rfl⟩
 ·rw [List.mem_flatMap] at ha
  obtain ⟨r, _, ha⟩ := ha
  simp only [keepI, List.mem_cons, List.not_mem_nil, or_false] at ha
  rcases ha with rfl | rfl | rfl
  ·rw [lui_enc]; exact ⟨rfl, lui_dec _⟩
  ·rw [add_enc]; exact ⟨rfl, add_dec _⟩
  ·exact st_enc r.s_lt (by have := r.at; have := r.size; omega)
 ·simp only [keepTail, List.mem_cons, List.not_mem_nil, or_false] at ha
  rcases ha with rfl | rfl | rfl
  ·exact ⟨by kernel_rfl, by kernel_rfl⟩
  ·exact ⟨by kernel_rfl, by kernel_rfl⟩
  ·exact ⟨by kernel_rfl, by kernel_rfl⟩
def keepImg (rs : List KR) : Img := ⟨64, [([115, 116, 97, 114, 116], 0)], codeW (keepL rs)⟩
theorem keep_right (rs : List KR) (h : rs.length ≤ 40) : rightB (keepImg rs) = true := by
 have hl : (codeW (keepL rs)).length = 3 * rs.length + 4 := (keep_words rs).code.1.trans (keepL_length rs)
 have h3 : right3 (keepImg rs) = true := by
  show (decide (1 ≤ (codeW (keepL rs)).length) && decide ((codeW (keepL rs)).length ≤ 262144)) = true
  rw [hl, Bool.and_eq_true]; exact ⟨decide_eq_true (by omega), decide_eq_true (by omega)⟩
 have h5 : right5 (keepImg rs) = true := by
  show symsOk (codeW (keepL rs)).length [] (-1) [([115, 116, 97, 114, 116], 0)] = true
  rw [hl]
  have : ∀ m : Nat, symsOk (m + 1) [] (-1) [([115, 116, 97, 114, 116], 0)] = true := fun m => by
   simp [symsOk, symOk]; omega
  exact this (3 * rs.length + 3)
 unfold rightB
 rw [h3, h5]; rfl
def keepMem (rs : List KR) : Nat → BitVec 8 := rs.foldl (fun m r => storeB m r.k r.v (2 ^ r.s)) (fun _ => 0#8)
theorem storeB_at (f : Nat → BitVec 8) (o : Nat) (v : BitVec 64) (j : Nat) : ∀ n, storeB f o v n j = if o ≤ j ∧ j < o + n then (v >>> (8 * (j - o))).setWidth 8 else f j
 | 0 => by show f j = _; rw [if_neg (by omega)]
 | n + 1 => by
  show updB (storeB f o v n) (o + n) ((v >>> (8 * n)).setWidth 8) j = _
  unfold updB
  by_cases e : j = o + n
  ·rw [if_pos e, if_pos (by omega), e, Nat.add_sub_cancel_left]
  ·rw [if_neg e, storeB_at f o v j n]
   by_cases h : o ≤ j ∧ j < o + n
   ·rw [if_pos h, if_pos (by omega)]
   ·rw [if_neg h, if_neg (by omega)]
def MemIs (mem : Nat → BitVec 8) (M : MS) : Prop := ∀ k, k < 128 → mem k = if k < 64 then M.d k else M.s (65408 + k)
structure KI (L : List RvInst) (mem : Nat → BitVec 8) (i : Nat) (M : MS) : Prop where
 code : M.code = L.map fun a => (a, true)
 pc : M.pc = 65536#64 + BitVec.ofNat 64 (4 * i)
 n : M.n = 64
 x0 : M.x 0 = 0#64
 x2 : M.x 2 = 8388608#64
 x5 : M.x 5 = 4194304#64
 fin : M.fin = none
 mem : MemIs mem M
theorem nextM_at {M : MS} {i : Nat} {a : RvInst} (hpc : M.pc = 65536#64 + BitVec.ofNat 64 (4 * i)) (hl : M.code.length ≤ 1000000) (h : M.code[i]? = some (a, true)) : nextM M = some a := by
 have hi : i < M.code.length := (List.getElem?_eq_some_iff.1 h).1
 have e : M.pc - 65536#64 = BitVec.ofNat 64 (4 * i) := by rw [hpc, BitVec.add_comm, BitVec.add_sub_cancel]
 have e1 : M.pc.toNat = 65536 + 4 * i := by rw [hpc, BitVec.toNat_add, BitVec.toNat_ofNat, BitVec.toNat_ofNat]; omega
 have e2 : (BitVec.ofNat 64 (4 * i)).toNat = 4 * i := by rw [BitVec.toNat_ofNat]; omega
 have e3 : (BitVec.ofNat 64 (4 * i) / 4#64).toNat = i := by rw [BitVec.toNat_udiv, e2]; show 4 * i / 4 = i; omega
 unfold nextM
 rw [if_neg, if_neg, if_neg]
 ·have : nextI M = i := by unfold nextI; rw [e, e3]
  rw [this, h]
 ·rw [e]
  simp only [BitVec.ule, e3, BitVec.toNat_ofNat, decide_eq_true_eq]
  omega
 ·rw [e]
  have : BitVec.ofNat 64 (4 * i) % 4#64 = 0#64 := by
   apply BitVec.eq_of_toNat_eq; rw [BitVec.toNat_umod, e2]; show 4 * i % 4 = 0; omega
  rw [this]; decide
 ·simp only [BitVec.ult, e1, decide_eq_true_eq]
  show ¬ (65536 + 4 * i < 65536); omega
theorem KI.next {L : List RvInst} {mem : Nat → BitVec 8} {i : Nat} {M : MS} (h : KI L mem i M) (hl : L.length ≤ 1000000) {a : RvInst} (ha : L[i]? = some a) : nextM M = some a := by
 refine nextM_at h.pc (by rw [h.code, List.length_map]; exact hl) ?_
 rw [h.code, List.getElem?_map, ha]; rfl
theorem pc_step (i : Nat) : (65536#64 + BitVec.ofNat 64 (4 * i)) + 4#64 = 65536#64 + BitVec.ofNat 64 (4 * (i + 1)) := by
 apply BitVec.eq_of_toNat_eq
 simp only [BitVec.toNat_add, BitVec.toNat_ofNat]; omega
theorem does_plain {M : MS} {a : RvInst} (h0 : (loadsM a.op.toNat).1 = 0) (hs : ¬ (18 ≤ a.op.toNat ∧ a.op.toNat ≤ 21)) (he : a.op.toNat ≠ 64) : doesM M a = (putM M a (doM a.op.toNat a.imm M.pc (M.x a.rs1.toNat) (M.x a.rs2.toNat)).1 (doM a.op.toNat a.imm M.pc (M.x a.rs1.toNat) (M.x a.rs2.toNat)).2, none) := by
 unfold doesM; dsimp only; rw [if_neg (by rw [h0]; decide), if_neg hs, if_neg he]
theorem writes_of {a : RvInst} (h : (encodeR a).2 = 0) : writesF a = ((formOf (rvAt a.op.toNat).k).rd && !(a.rd == 0#8)) := by
 unfold writesF; rw [h]; rfl
theorem writes_zero {a : RvInst} (h : a.rd = 0#8) : writesF a = false := by
 unfold writesF; rw [h]; simp
theorem KI.put {L : List RvInst} {mem : Nat → BitVec 8} {i : Nat} {M : MS} (h : KI L mem i M) (hl : L.length ≤ 1000000) {a : RvInst} (ha : L[i]? = some a) (h0 : (loadsM a.op.toNat).1 = 0) (hs : ¬ (18 ≤ a.op.toNat ∧ a.op.toNat ≤ 21)) (he : a.op.toNat ≠ 64) (hf : (a.op != 63#8) = true)
  (hx : ∀ pc x y, (doM a.op.toNat a.imm pc x y).2 = pc + 4#64) (hw : writesF a = true) (hr : a.rd.toNat ≠ 0 ∧ a.rd.toNat ≠ 2 ∧ a.rd.toNat ≠ 5) :
  KI L mem (i + 1) (stepM M) ∧ (stepM M).x = updR M.x a.rd.toNat (doM a.op.toNat a.imm M.pc (M.x a.rs1.toNat) (M.x a.rs2.toNat)).1 ∧ (stepM M).events = M.events := by
 have e : stepM M = { M with steps := M.steps + 1#64, x := updR M.x a.rd.toNat (doM a.op.toNat a.imm M.pc (M.x a.rs1.toNat) (M.x a.rs2.toNat)).1, pc := M.pc + 4#64, fin := none } := by
  unfold stepM; rw [h.next hl ha]; dsimp only
  rw [does_plain h0 hs he]
  unfold putM; dsimp only
  rw [hw, hf, hx]; rfl
 rw [e]
 refine ⟨⟨h.code, ?_, h.n, ?_, ?_, ?_, G, h.mem⟩, G, G⟩
 ·show M.pc + 4#64 = _; rw [h.pc, pc_step]
 ·show updR _ _ _ 0 = _; unfold updR; rw [if_neg (by omega)]; exact h.x0
 ·show updR _ _ _ 2 = _; unfold updR; rw [if_neg (by omega)]; exact h.x2
 ·show updR _ _ _ 5 = _; unfold updR; rw [if_neg (by omega)]; exact h.x5
theorem KI.lui {L : List RvInst} {mem : Nat → BitVec 8} {i : Nat} {M : MS} (h : KI L mem i M) (hl : L.length ≤ 1000000) {x : BitVec 20} (ha : L[i]? = some (luiI x)) : KI L mem (i + 1) (stepM M) ∧ (stepM M).x 6 = luiX x ∧ (stepM M).events = M.events := by
 have hw : writesF (luiI x) = true := by rw [writes_of (by rw [lui_enc])]; rfl
 obtain ⟨h1, h2, h3⟩ := h.put hl ha rfl (by show ¬ (18 ≤ 1 ∧ 1 ≤ 21); omega) (by show (1 : Nat) ≠ 64; decide) rfl (fun _ _ _ => rfl) hw ⟨by show (6 : Nat) ≠ 0; decide, by show (6 : Nat) ≠ 2; decide, by show (6 : Nat) ≠ 5; decide⟩
 exact ⟨h1, by rw [h2]; rfl, h3⟩
theorem KI.addi {L : List RvInst} {mem : Nat → BitVec 8} {i : Nat} {M : MS} (h : KI L mem i M) (hl : L.length ≤ 1000000) {y : BitVec 12} (ha : L[i]? = some (addI y)) : KI L mem (i + 1) (stepM M) ∧ (stepM M).x 6 = signedF (fun x y => x + y) (M.x 6) (addX y) ∧ (stepM M).events = M.events := by
 have hw : writesF (addI y) = true := by rw [writes_of (by rw [add_enc])]; rfl
 obtain ⟨h1, h2, h3⟩ := h.put hl ha rfl (by show ¬ (18 ≤ 41 ∧ 41 ≤ 21); omega) (by show (41 : Nat) ≠ 64; decide) rfl (fun _ _ _ => rfl) hw ⟨by show (6 : Nat) ≠ 0; decide, by show (6 : Nat) ≠ 2; decide, by show (6 : Nat) ≠ 5; decide⟩
 exact ⟨h1, by rw [h2]; rfl, h3⟩
theorem st_where {s k : Nat} (hs : 2 ^ s = 1 ∨ 2 ^ s = 2 ∨ 2 ^ s = 4 ∨ 2 ^ s = 8) (hk : k % 2 ^ s = 0 ∧ k + 2 ^ s ≤ 128 ∧ (k < 64 → k + 2 ^ s ≤ 64)) : whereM 64 ((if k < 64 then 4194304#64 else 8388608#64) + keepX k) (2 ^ s) = some (decide (k < 64), if k < 64 then k else 65408 + k) := by
 unfold keepX
 generalize hz : 2 ^ s = z at *
 by_cases h : k < 64
 ·rw [if_pos h, if_pos h, if_pos h]
  have e : (4194304#64 + BitVec.ofNat 64 k).toNat = 4194304 + k := by rw [BitVec.toNat_add, BitVec.toNat_ofNat, BitVec.toNat_ofNat]; omega
  unfold whereM
  rw [e, if_neg (by rcases hs with e | e | e | e <;> (subst e; omega)), if_pos (by have := hk.2.2 h; omega)]
  rw [decide_eq_true h, show 4194304 + k - 4194304 = k by omega]
 ·rw [if_neg h, if_neg h, if_neg h]
  have e : (8388608#64 + BitVec.ofInt 64 ((k : Int) - 128)).toNat = 8388608 + k - 128 := by
   rw [BitVec.toNat_add, BitVec.toNat_ofInt, BitVec.toNat_ofNat]; omega
  unfold whereM
  rw [e, if_neg (by rcases hs with e | e | e | e <;> (subst e; omega)), if_neg (by omega), if_pos (by omega)]
  rw [decide_eq_false h, show 8388608 + k - 128 - 8323072 = 65408 + k by omega]
theorem does_store {M : MS} {a : RvInst} {k : Bool} {o : Nat} (h0 : ¬ 0 < (loadsM a.op.toNat).1) (hs : 18 ≤ a.op.toNat ∧ a.op.toNat ≤ 21) (hw : whereM M.n (M.x a.rs1.toNat + a.imm) (2 ^ (a.op.toNat - 18)) = some (k, o)) :
  doesM M a = (putM (storeM M k o (2 ^ (a.op.toNat - 18)) (M.x a.rs2.toNat)) a (doM a.op.toNat a.imm M.pc (M.x a.rs1.toNat) (M.x a.rs2.toNat)).1 (doM a.op.toNat a.imm M.pc (M.x a.rs1.toNat) (M.x a.rs2.toNat)).2, none) := by
 unfold doesM; dsimp only; rw [if_neg h0, if_pos hs, hw]
theorem KI.store {L : List RvInst} {mem : Nat → BitVec 8} {i : Nat} {M : MS} (h : KI L mem i M) (hl : L.length ≤ 1000000) {s k : Nat} (hs4 : s < 4) (hs : 2 ^ s = 1 ∨ 2 ^ s = 2 ∨ 2 ^ s = 4 ∨ 2 ^ s = 8) (hk : k % 2 ^ s = 0 ∧ k + 2 ^ s ≤ 128 ∧ (k < 64 → k + 2 ^ s ≤ 64)) (ha : L[i]? = some (stI s k)) :
  KI L (storeB mem k (M.x 6) (2 ^ s)) (i + 1) (stepM M) ∧ (stepM M).events = M.events := by
 have ho : (stI s k).op.toNat = 18 + s := by show (BitVec.ofNat 8 (18 + s)).toNat = _; rw [BitVec.toNat_ofNat]; omega
 have hx : ∀ imm pc x y, (doM (18 + s) imm pc x y).2 = pc + 4#64 := by
  have : s = 0 ∨ s = 1 ∨ s = 2 ∨ s = 3 := by omega
  rcases this with rfl | rfl | rfl | rfl <;> (intros; rfl)
 have hz : (loadsM (18 + s)).1 = 0 := by
  have : s = 0 ∨ s = 1 ∨ s = 2 ∨ s = 3 := by omega
  rcases this with rfl | rfl | rfl | rfl <;> rfl
 have hb : M.x (stI s k).rs1.toNat = if k < 64 then 4194304#64 else 8388608#64 := by
  show M.x (keepB k).toNat = _
  unfold keepB
  by_cases h64 : k < 64
  ·rw [if_pos h64, if_pos h64]; exact h.x5
  ·rw [if_neg h64, if_neg h64]; exact h.x2
 have hW : whereM M.n (M.x (stI s k).rs1.toNat + (stI s k).imm) (2 ^ ((stI s k).op.toNat - 18)) = some (decide (k < 64), if k < 64 then k else 65408 + k) := by
  rw [ho, h.n, hb, show 18 + s - 18 = s by omega]; exact st_where hs hk
 have hd := does_store (M := { M with steps := M.steps + 1#64 }) (a := stI s k) (by rw [ho, hz]; omega) (by rw [ho]; omega) hW
 have hwz : writesF (stI s k) = false := writes_zero rfl
 have e : stepM M = { storeM { M with steps := M.steps + 1#64 } (decide (k < 64)) (if k < 64 then k else 65408 + k) (2 ^ s) (M.x 6) with pc := M.pc + 4#64, fin := none } := by
  unfold stepM; rw [h.next hl ha]; dsimp only
  rw [hd]
  unfold putM; dsimp only
  rw [hwz, ho, hx, show 18 + s - 18 = s by omega]
  cases decide (k < 64) <;> rfl
 rw [e]
 have hm : MemIs (storeB mem k (M.x 6) (2 ^ s)) (storeM { M with steps := M.steps + 1#64 } (decide (k < 64)) (if k < 64 then k else 65408 + k) (2 ^ s) (M.x 6)) := by
  intro j hj
  have hmj := h.mem j hj
  rw [storeB_at, hmj]
  by_cases h64 : k < 64
  ·rw [decide_eq_true h64, if_pos h64]
   show _ = if j < 64 then storeB M.d k (M.x 6) (2 ^ s) j else M.s (65408 + j)
   rw [storeB_at]
   have := hk.2.2 h64
   by_cases hj64 : j < 64
   ·rw [if_pos hj64, if_pos hj64]
   ·rw [if_neg hj64, if_neg hj64, if_neg (by omega)]
  ·rw [decide_eq_false h64, if_neg h64]
   show _ = if j < 64 then M.d j else storeB M.s (65408 + k) (M.x 6) (2 ^ s) (65408 + j)
   rw [storeB_at]
   by_cases hj64 : j < 64
   ·rw [if_pos hj64, if_pos hj64, if_neg (by omega)]
   ·rw [if_neg hj64, if_neg hj64]
    by_cases hin : k ≤ j ∧ j < k + 2 ^ s
    ·rw [if_pos hin, if_pos (by omega), show 65408 + j - (65408 + k) = j - k by omega]
    ·rw [if_neg hin, if_neg (by omega)]
 refine ⟨⟨?_, ?_, ?_, ?_, ?_, ?_, G, hm⟩, ?_⟩
 ·cases decide (k < 64) <;> exact h.code
 ·show M.pc + 4#64 = _; rw [h.pc, pc_step]
 ·cases decide (k < 64) <;> exact h.n
 ·cases decide (k < 64) <;> exact h.x0
 ·cases decide (k < 64) <;> exact h.x2
 ·cases decide (k < 64) <;> exact h.x5
 ·cases decide (k < 64) <;> rfl
theorem KI.round {L : List RvInst} {mem : Nat → BitVec 8} {i : Nat} {M : MS} (h : KI L mem i M) (hl : L.length ≤ 1000000) (r : KR) (h0 : L[i]? = some (luiI (hi20 r.2.2))) (h1 : L[i + 1]? = some (addI (lo12 r.2.2))) (h2 : L[i + 1 + 1]? = some (stI r.s r.k)) :
  KI L (storeB mem r.k r.v (2 ^ r.s)) (i + 3) (stepM (stepM (stepM M))) ∧ (stepM (stepM (stepM M))).events = M.events ∧ (stepM M).fin = none ∧ (stepM (stepM M)).fin = none := by
 obtain ⟨k1, x1, e1⟩ := h.lui hl h0
 obtain ⟨k2, x2, e2⟩ := k1.addi hl h1
 obtain ⟨k3, e3⟩ := k2.store hl r.s_lt r.size r.at h2
 rw [x2, x1, keep_num] at k3
 exact ⟨k3, e3.trans (e2.trans e1), k1.fin, k2.fin⟩
theorem keepL_split (pre rest : List KR) (r : KR) : keepL (pre ++ r :: rest) = (keepHead ++ pre.flatMap keepI) ++ (keepI r ++ (rest.flatMap keepI ++ keepTail)) := by
 unfold keepL
 rw [List.flatMap_append, List.flatMap_cons]
 simp only [List.append_assoc]
theorem keepPre_length (pre : List KR) : (keepHead ++ pre.flatMap keepI).length = 1 + 3 * pre.length := by rw [List.length_append, keepFlat_length]; rfl
theorem keepL_at (pre rest : List KR) (r : KR) (j : Nat) (hj : j < 3) : (keepL (pre ++ r :: rest))[1 + 3 * pre.length + j]? = (keepI r)[j]? := by
 rw [keepL_split, List.getElem?_append_right (by rw [keepPre_length]; omega), keepPre_length, List.getElem?_append_left (by show _ < 3; omega)]
 congr 1; omega
theorem keepL_tail (rs : List KR) (j : Nat) : (keepL rs)[1 + 3 * rs.length + j]? = keepTail[j]? := by
 unfold keepL
 rw [List.getElem?_append_right (by rw [keepPre_length]; omega), keepPre_length]
 congr 1; omega
theorem keepMem_snoc (pre : List KR) (r : KR) : keepMem (pre ++ [r]) = storeB (keepMem pre) r.k r.v (2 ^ r.s) := by
 unfold keepMem; rw [List.foldl_append]; rfl
theorem keep_rounds (rs : List KR) (hl : (keepL rs).length ≤ 1000000) : ∀ (rest pre : List KR) (M : MS), rs = pre ++ rest → KI (keepL rs) (keepMem pre) (1 + 3 * pre.length) M → M.events = [] → ∃ M', runN (3 * rest.length) M = (3 * rest.length, M') ∧ KI (keepL rs) (keepMem rs) (1 + 3 * rs.length) M' ∧ M'.events = []
 | [], pre, M, e, h, he => by
  rw [List.append_nil] at e; subst e
  exact ⟨M, G, h, he⟩
 | r :: rest, pre, M, e, h, he => by
  have g : ∀ j, j < 3 → (keepL rs)[1 + 3 * pre.length + j]? = (keepI r)[j]? := fun j hj => by rw [e]; exact keepL_at pre rest r j hj
  obtain ⟨k3, e3, f1, f2⟩ := h.round hl r (g 0 (by decide)) (g 1 (by decide)) (g 2 (by decide))
  rw [← keepMem_snoc] at k3
  obtain ⟨M', h1, h2, h3⟩ := keep_rounds rs hl rest (pre ++ [r]) _ (by rw [e]; simp) (by
   rw [List.length_append, show 1 + 3 * (pre.length + [r].length) = 1 + 3 * pre.length + 3 from by show 1 + 3 * (pre.length + 1) = _; omega]; exact k3) (e3.trans he)
  refine ⟨M', ?_, h2, h3⟩
  rw [List.length_cons, show 3 * (rest.length + 1) = 3 * rest.length + 1 + 1 + 1 by omega, runN_go h.fin, runN_go f1, runN_go f2, h1]
theorem keep_first (rs : List KR) (hl : (keepL rs).length ≤ 1000000) : KI (keepL rs) (keepMem []) 1 (stepM (newM (keepImg rs) [])) ∧ (stepM (newM (keepImg rs) [])).events = [] := by
 have hcode : (newM (keepImg rs) []).code = (keepL rs).map fun a => (a, true) := (keep_words rs).code.2
 have hn : nextM (newM (keepImg rs) []) = some ⟨1#8, 5#8, 0#8, 0#8, 4194304#64⟩ := by
  refine nextM_at (i := 0) G (by rw [hcode, List.length_map]; exact hl) ?_
  rw [hcode]; rfl
 have hw : writesF ⟨1#8, 5#8, 0#8, 0#8, 4194304#64⟩ = true := by kernel_rfl
 have e : stepM (newM (keepImg rs) []) = { newM (keepImg rs) [] with steps := 1#64, x := updR (newM (keepImg rs) []).x 5 4194304#64, pc := 65540#64, fin := none } := by
  unfold stepM; rw [hn]; dsimp only
  rw [does_plain (a := ⟨1#8, 5#8, 0#8, 0#8, 4194304#64⟩) rfl (by show ¬ (18 ≤ 1 ∧ 1 ≤ 21); omega) (by show (1 : Nat) ≠ 64; decide)]
  unfold putM; dsimp only
  rw [hw]; rfl
 rw [e]
 refine ⟨⟨hcode, G, G, G, G, G, G, fun k hk => ?_⟩, G⟩
 show (0#8 : BitVec 8) = if k < 64 then 0#8 else 0#8
 split <;> rfl
theorem keep_last (rs : List KR) (hl : (keepL rs).length ≤ 1000000) (M : MS) (mem : Nat → BitVec 8) (h : KI (keepL rs) mem (1 + 3 * rs.length) M) : ∃ M', runN 3 M = (3, M') ∧ M'.fin = some false ∧ M'.x 0 = 0#64 ∧ M'.n = 64 ∧ MemIs mem M' ∧ M'.events.length = M.events.length + 1 := by
 have hn := h.next hl (a := ⟨22#8, 0#8, 5#8, 0#8, 7#64⟩) (keepL_tail rs 0)
 have hw : writesF ⟨22#8, 0#8, 5#8, 0#8, 7#64⟩ = false := writes_zero rfl
 have e : stepM M = { M with steps := M.steps + 1#64, pc := M.pc + 4#64, fin := none } := by
  unfold stepM; rw [hn]; dsimp only
  rw [does_plain (a := ⟨22#8, 0#8, 5#8, 0#8, 7#64⟩) rfl (by show ¬ (18 ≤ 22 ∧ 22 ≤ 21); omega) (by show (22 : Nat) ≠ 64; decide)]
  unfold putM; dsimp only
  rw [hw]; rfl
 have k1 : KI (keepL rs) mem (1 + 3 * rs.length + 1) (stepM M) := by
  rw [e]
  refine ⟨h.code, ?_, h.n, h.x0, h.x2, h.x5, G, h.mem⟩
  show M.pc + 4#64 = _; rw [h.pc, pc_step]
 have hw2 : writesF ⟨22#8, 17#8, 0#8, 0#8, 3#64⟩ = true := by kernel_rfl
 obtain ⟨k2, x2, ev2⟩ := k1.put hl (a := ⟨22#8, 17#8, 0#8, 0#8, 3#64⟩) (keepL_tail rs 1) rfl (by show ¬ (18 ≤ 22 ∧ 22 ≤ 21); omega) (by show (22 : Nat) ≠ 64; decide) rfl (fun _ _ _ => rfl) hw2 ⟨by show (17 : Nat) ≠ 0; decide, by show (17 : Nat) ≠ 2; decide, by show (17 : Nat) ≠ 5; decide⟩
 have x17 : (stepM (stepM M)).x 17 = 3#64 := by
  rw [x2]
  show (stepM M).x 0 + 3#64 = 3#64
  rw [k1.x0]; rfl
 have hn3 := k2.next hl (a := ⟨64#8, 0#8, 0#8, 0#8, 0#64⟩) (keepL_tail rs 2)
 have hw3 : writesF ⟨64#8, 0#8, 0#8, 0#8, 0#64⟩ = false := writes_zero rfl
 generalize hM2 : stepM (stepM M) = M2 at *
 have hc : callsM { M2 with steps := M2.steps + 1#64 } = ({ M2 with steps := M2.steps + 1#64, events := M2.events ++ [(3#8, M2.x 10)] }, some false) := by
  unfold callsM; dsimp only; rw [x17]; rfl
 have e3 : stepM M2 = { M2 with steps := M2.steps + 1#64, events := M2.events ++ [(3#8, M2.x 10)], pc := M2.pc + 4#64, fin := some false } := by
  unfold stepM; rw [hn3]; dsimp only
  unfold doesM; dsimp only
  rw [if_neg (by show ¬ (0 < 0); omega), if_neg (by show ¬ (18 ≤ 64 ∧ 64 ≤ 21); omega), if_pos (by rfl), hc]
  dsimp only
  unfold putM; dsimp only
  rw [hw3]; rfl
 refine ⟨stepM M2, ?_, ?_, ?_, ?_, ?_, ?_⟩
 ·rw [show (3 : Nat) = 0 + 1 + 1 + 1 from rfl, runN_go h.fin, runN_go k1.fin, hM2, runN_go k2.fin]; rfl
 ·rw [e3]
 ·rw [e3]; exact k2.x0
 ·rw [e3]; exact k2.n
 ·rw [e3]; exact k2.mem
 ·rw [e3]
  show (M2.events ++ [_]).length = _
  rw [List.length_append, ev2, e]; rfl
theorem keep_run (rs : List KR) (h40 : rs.length ≤ 40) : ∃ M, runN 1000 (newM (keepImg rs) []) = ((keepL rs).length, M) ∧ M.fin = some false ∧ M.x 0 = 0#64 ∧ M.n = 64 ∧ MemIs (keepMem rs) M := by
 have hl : (keepL rs).length ≤ 1000000 := by rw [keepL_length]; omega
 obtain ⟨k1, e1⟩ := keep_first rs hl
 obtain ⟨M2, r2, k2, e2⟩ := keep_rounds rs hl rs [] _ rfl k1 e1
 obtain ⟨M3, r3, f3, x3, n3, m3, _⟩ := keep_last rs hl M2 _ k2
 refine ⟨M3, ?_, f3, x3, n3, m3⟩
 rw [show (1000 : Nat) = (3 * rs.length + (3 + (996 - 3 * rs.length))) + 1 by omega, runN_go (by rfl), runN_add, r2]
 dsimp only
 rw [runN_add, r3]
 dsimp only
 rw [runN_end (by rw [f3]; rfl), keepL_length]
 refine Prod.ext ?_ G
 show 3 * rs.length + (3 + 0) + 1 = 3 * rs.length + 4
 omega
end Go.Proofs.S
end
section
namespace Go.Ux
open Go
theorem ba_size (l : List UInt8) : (⟨l.toArray⟩ : ByteArray).size = l.length := by simp [ByteArray.size]
theorem ba_take (l : List UInt8) (j : Nat) : (⟨l.toArray⟩ : ByteArray).extract 0 j = ⟨(l.take j).toArray⟩ := by
 apply ByteArray.ext
 simp [ByteArray.extract, ByteArray.copySlice]
section
variable {P : Program} {ops : Array Oper} {l : List Oper} {n : Nat} {f : Fr} {w : World} {Q : Exit → Fr → World → Prop}
variable {d : Nat} {ty : TypeId} {pos : String} {aft : Array Edge}
theorem WL.sliceToSt {t j : Nat} {x hi : Operand} {bl : List UInt8} {kd : IntKind} (ht : P.underlying t = some .string) (hx : ev f x = St bl) (hhi : ev f hi = .int kd (j : Int)) (hj : j ≤ bl.length) (hd : decide (d < n) = true)
  (k : WL P ops l n (upd f d (St (bl.take j))) w Q) : WL P ops (⟨some d, .slice t x none (some hi) none, ty, pos, aft, none⟩ :: l) n f w Q := by
 refine WL.val G hd (v := St (bl.take j)) (w' := w) ?_ k
 have h1 : (0 : Int) ≤ (j : Int) ∧ (j : Int) ≤ (bl.length : Int) := by omega
 simp [execOp, hx, hhi, St, Instr.sliceAt, Instr.slice, run_underlying ht, Instr.sliceBounds, Instr.sliceBound, asIntOf, ba_size, hj, Result.andThen, ba_take]
theorem WL.indexSt {t i : Nat} {x y : Operand} {bl : List UInt8} {kd : IntKind} (ht : P.underlying t = some .string) (hx : ev f x = St bl) (hy : ev f y = .int kd (i : Int)) (hi : i < bl.length) (hd : decide (d < n) = true)
  (k : WL P ops l n (upd f d (U8 (bl.getD i 0).toBitVec)) w Q) : WL P ops (⟨some d, .index t x y, ty, pos, aft, none⟩ :: l) n f w Q := by
 refine WL.val G hd (v := U8 (bl.getD i 0).toBitVec) (w' := w) ?_ k
 have e : (⟨bl.toArray⟩ : ByteArray)[i]? = some bl[i] := by
  have : i < (⟨bl.toArray⟩ : ByteArray).size := by rw [ba_size]; exact hi
  rw [getElem?_pos (⟨bl.toArray⟩ : ByteArray) i this]; rfl
 have e2 : bl.getD i 0 = bl[i] := by rw [List.getD_eq_getElem?_getD, List.getElem?_eq_getElem hi]; rfl
 rw [e2]
 simp [execOp, hx, hy, St, Instr.index, run_underlying ht, asIntOf, e, Result.andThen]
end
theorem BinR.addS {P : Program} {t : TypeId} {a b : List UInt8} (h : a.length + b.length ≤ 9223372036854775807) : BinR P .add t (St a) (St b) (St (a ++ b)) := fun x y w => by
 have e : (⟨a.toArray⟩ ++ ⟨b.toArray⟩ : ByteArray) = ⟨(a ++ b).toArray⟩ := by apply ByteArray.ext; simp
 have h2 : ¬ (((a.length + b.length : Nat) : Int) > 9223372036854775807) := by omega
 simp [eqGuard, binOp, St, Op.stringOp, ba_size, e]
 omega
theorem any_len {s : List UInt8} {cs : List (List UInt8)} {k : Nat} (h : (cs.any fun c => s == c) = true) (hl : (cs.all fun c => decide (k ≤ c.length)) = true) : k ≤ s.length := by
 obtain ⟨c, hc, e⟩ := List.any_eq_true.1 h
 have : s = c := by simpa using e
 subst this
 exact of_decide_eq_true (List.all_eq_true.1 hl _ hc)
end Go.Ux
end
section
set_option linter.unusedSimpArgs false
set_option linter.unusedVariables false
namespace Go.Proofs.S
open Go Go.Ux Go.Ux.Mach Go.Proofs
open Tryz
def immQ (s : List UInt8) : List UInt8 := bif ([[115, 108, 116, 105, 117]].any fun c => s == c) then [115, 108, 116, 117] else bif ([[97, 100, 100, 105], [115, 108, 116, 105], [120, 111, 114, 105], [111, 114, 105], [97, 110, 100, 105], [115, 108, 108, 105], [115, 114, 108, 105], [115, 114, 97, 105]].any fun c => s == c) then (s.take (s.length - 1)) else bif ([[97, 100, 100, 105, 119], [115, 108, 108, 105, 119], [115, 114, 108, 105, 119], [115, 114, 97, 105, 119]].any fun c => s == c) then (s.take 3 ++ [119]) else []
theorem imm_q (s : List UInt8) (w : World) (hs : s.length ≤ 1000) : Cx 81 #[St s] w (St (immQ s)) := by
 refine Co func81 G G ?_
 refine Sr (Ae (St []) (Ni (Sq (Sr (Me (St s) (Ni (Bk (Sq ?_))))))))
 refine WC.orS (x := 3) (d := 4) (s := s) (cs := [[115, 108, 116, 105, 117]]) (ts := [5]) (by kernel_rfl) G (fun g1 => ?_)
 refine WC.cond G (fun hc4 => ?_) (fun hc4 => ?_)
 ·refine Sr (Ae (St [115, 108, 116, 117]) (Ni (WC.ret ?_)))
  have hfin : immQ s = [115, 108, 116, 117] := by unfold immQ; rw [hc4]; try rfl
  exact ⟨_, Ro G G, congrArg St hfin.symm, Mod.refl _ _⟩
 ·refine Sq ?_
  refine WC.orS (x := 3) (d := 6) (s := s) (cs := [[97, 100, 100, 105], [115, 108, 116, 105], [120, 111, 114, 105], [111, 114, 105], [97, 110, 100, 105], [115, 108, 108, 105], [115, 114, 108, 105], [115, 114, 97, 105]]) (ts := [7, 8, 9, 10, 11, 12, 13, 14]) (by kernel_rfl) G (fun g2 => ?_)
  refine WC.cond G (fun hc6 => ?_) (fun hc6 => ?_)
  ·have hl := any_len (k := 1) hc6 (by decide)
   refine Sr (Me (St s) (Me (St s) (WL.lenSt y9 G G (Bn G G (BinR.subN (b := 1) (by omega) (by omega)) (WL.sliceToSt (j := s.length - 1) y9 G G (by omega) G (Ae (St (s.take (s.length - 1))) (Ni (WC.ret ?_))))))))
   have hfin : immQ s = (s.take (s.length - 1)) := by unfold immQ; rw [hc4, hc6]; try rfl
   exact ⟨_, Ro G G, congrArg St hfin.symm, Mod.refl _ _⟩
  ·refine Sq ?_
   refine WC.orS (x := 3) (d := 20) (s := s) (cs := [[97, 100, 100, 105, 119], [115, 108, 108, 105, 119], [115, 114, 108, 105, 119], [115, 114, 97, 105, 119]]) (ts := [21, 22, 23, 24]) (by kernel_rfl) G (fun g3 => ?_)
   refine WC.cond G (fun hc20 => ?_) (fun hc20 => ?_)
   ·have hl := any_len (k := 3) hc20 (by decide)
    refine Sr (Me (St s) (WL.sliceToSt (j := 3) y9 G G hl G (Bn G G (BinR.addS (by rw [List.length_take]; simp; omega)) (Ae (St (s.take 3 ++ [119])) (Ni (WC.ret ?_))))))
    have hfin : immQ s = (s.take 3 ++ [119]) := by unfold immQ; rw [hc4, hc6, hc20]; try rfl
    exact ⟨_, Ro G G, congrArg St hfin.symm, Mod.refl _ _⟩
   ·refine WC.skip (Sr (Ae (St []) (Ni (WC.ret ?_))))
    have hfin : immQ s = [] := by unfold immQ; rw [hc4, hc6, hc20]; try rfl
    exact ⟨_, Ro G G, congrArg St hfin.symm, Mod.refl _ _⟩
def jumpsQ (s : List UInt8) (a b : BitVec 64) : Bool := bif ([[98, 101, 113]].any fun c => s == c) then (a == b) else bif ([[98, 110, 101]].any fun c => s == c) then (a != b) else bif ([[98, 108, 116]].any fun c => s == c) then BitVec.slt a b else bif ([[98, 103, 101]].any fun c => s == c) then BitVec.sle b a else bif ([[98, 108, 116, 117]].any fun c => s == c) then BitVec.ult a b else BitVec.ule b a
theorem jumps_q (s : List UInt8) (a b : BitVec 64) (w : World) : Cx 82 #[St s, U64 a, U64 b] w (.bool (jumpsQ s a b)) := by
 refine Co func82 G G ?_
 refine Sr (Ae (.bool false) (Ni (Sq (Sr (Me (St s) (Ni (Bk (Sq ?_))))))))
 refine WC.orS (x := 7) (d := 8) (s := s) (cs := [[98, 101, 113]]) (ts := [9]) (by kernel_rfl) G (fun g1 => ?_)
 refine WC.cond G (fun hc8 => ?_) (fun hc8 => ?_)
 ·refine Sr (Me (U64 a) (Me (U64 b) (Bn G G BinR.eqlU64 (Ae (.bool ((a == b))) (Ni (WC.ret ?_))))))
  have hfin : jumpsQ s a b = (a == b) := by unfold jumpsQ; rw [hc8]; try rfl
  exact ⟨_, Ro G G, congrArg Value.bool hfin.symm, Mod.refl _ _⟩
 ·refine Sq ?_
  refine WC.orS (x := 7) (d := 13) (s := s) (cs := [[98, 110, 101]]) (ts := [14]) (by kernel_rfl) G (fun g2 => ?_)
  refine WC.cond G (fun hc13 => ?_) (fun hc13 => ?_)
  ·refine Sr (Me (U64 a) (Me (U64 b) (Bn G G BinR.neqU64 (Ae (.bool ((a != b))) (Ni (WC.ret ?_))))))
   have hfin : jumpsQ s a b = (a != b) := by unfold jumpsQ; rw [hc8, hc13]; try rfl
   exact ⟨_, Ro G G, congrArg Value.bool hfin.symm, Mod.refl _ _⟩
  ·refine Sq ?_
   refine WC.orS (x := 7) (d := 18) (s := s) (cs := [[98, 108, 116]]) (ts := [19]) (by kernel_rfl) G (fun g3 => ?_)
   refine WC.cond G (fun hc18 => ?_) (fun hc18 => ?_)
   ·refine Sr (Me (U64 a) (Cv G (ConvR.u64i64 y39 y2) (Me (U64 b) (Cv G (ConvR.u64i64 y39 y2) (Bn G G BinR.lss64 (Ae (.bool (BitVec.slt a b)) (Ni (WC.ret ?_))))))))
    have hfin : jumpsQ s a b = BitVec.slt a b := by unfold jumpsQ; rw [hc8, hc13, hc18]; try rfl
    exact ⟨_, Ro G G, congrArg Value.bool hfin.symm, Mod.refl _ _⟩
   ·refine Sq ?_
    refine WC.orS (x := 7) (d := 25) (s := s) (cs := [[98, 103, 101]]) (ts := [26]) (by kernel_rfl) G (fun g4 => ?_)
    refine WC.cond G (fun hc25 => ?_) (fun hc25 => ?_)
    ·refine Sr (Me (U64 a) (Cv G (ConvR.u64i64 y39 y2) (Me (U64 b) (Cv G (ConvR.u64i64 y39 y2) (Bn G G BinR.geq64 (Ae (.bool (BitVec.sle b a)) (Ni (WC.ret ?_))))))))
     have hfin : jumpsQ s a b = BitVec.sle b a := by unfold jumpsQ; rw [hc8, hc13, hc18, hc25]; try rfl
     exact ⟨_, Ro G G, congrArg Value.bool hfin.symm, Mod.refl _ _⟩
    ·refine Sq ?_
     refine WC.orS (x := 7) (d := 32) (s := s) (cs := [[98, 108, 116, 117]]) (ts := [33]) (by kernel_rfl) G (fun g5 => ?_)
     refine WC.cond G (fun hc32 => ?_) (fun hc32 => ?_)
     ·refine Sr (Me (U64 a) (Me (U64 b) (Bn G G BinR.lssU64 (Ae (.bool (BitVec.ult a b)) (Ni (WC.ret ?_))))))
      have hfin : jumpsQ s a b = BitVec.ult a b := by unfold jumpsQ; rw [hc8, hc13, hc18, hc25, hc32]; try rfl
      exact ⟨_, Ro G G, congrArg Value.bool hfin.symm, Mod.refl _ _⟩
     ·refine WC.skip (Sr (Me (U64 a) (Me (U64 b) (Bn G G BinR.geqU64 (Ae (.bool (BitVec.ule b a)) (Ni (WC.ret ?_)))))))
      have hfin : jumpsQ s a b = BitVec.ule b a := by unfold jumpsQ; rw [hc8, hc13, hc18, hc25, hc32]; try rfl
      exact ⟨_, Ro G G, congrArg Value.bool hfin.symm, Mod.refl _ _⟩
theorem half_eq (x : BitVec 64) : halfQ x = signW x 32 := by
 apply BitVec.eq_of_toInt_eq
 rw [signW_nat]
 unfold halfQ
 rw [BitVec.toInt_signExtend_of_le (by decide), BitVec.toInt_eq_toNat_cond, BitVec.toNat_setWidth]
 split <;> split <;> omega
theorem rem32 (b : BitVec 64) : b % 32#64 = b &&& 31#64 := by
 apply BitVec.eq_of_toNat_eq
 rw [BitVec.toNat_umod, BitVec.toNat_and]
 exact (Nat.and_two_pow_sub_one_eq_mod b.toNat 5).symm
theorem rem32_sign (b : BitVec 64) : b % 32#64 = signW (b &&& 31#64) 32 := by
 have h : (b % 32#64).toNat < 32 := by rw [BitVec.toNat_umod]; exact Nat.mod_lt _ (by decide)
 rw [← rem32]
 apply BitVec.eq_of_toInt_eq
 rw [signW_nat, BitVec.toInt_eq_toNat_cond]
 split <;> split <;> omega
theorem rem32_low (b : BitVec 64) : b % 32#64 = (b &&& 31#64) &&& 4294967295#64 := by
 have h : (b % 32#64).toNat < 32 := by rw [BitVec.toNat_umod]; exact Nat.mod_lt _ (by decide)
 rw [← rem32]
 apply BitVec.eq_of_toNat_eq
 rw [show 4294967295#64 = BitVec.ofNat 64 (2 ^ 32 - 1) from rfl, and_low _ _ (by decide)]; omega
def wordQ (s : List UInt8) (a b : BitVec 64) : BitVec 64 :=
 bif ([[115, 114, 108, 119], [100, 105, 118, 117, 119], [114, 101, 109, 117, 119]].any fun c => s == c) then (if (s == [115, 114, 108, 119]) = true then signW (arithQ [115, 114, 108] (a &&& 4294967295#64) ((b &&& 31#64) &&& 4294967295#64)) 32 else signW (arithQ (s.take 4) (a &&& 4294967295#64) (b &&& 4294967295#64)) 32)
 else bif ([[115, 108, 108, 119], [115, 114, 97, 119]].any fun c => s == c) then signW (arithQ (s.take 3) (signW a 32) (signW (b &&& 31#64) 32)) 32 else signW (arithQ (s.take 3) (signW a 32) (signW b 32)) 32
theorem word_q (s : List UInt8) (a b : BitVec 64) (w : World) (h3 : 3 ≤ s.length) : Cx 83 #[St s, U64 a, U64 b] w (U64 (wordQ s a b)) := by
 refine Co func83 G G ?_
 refine Sr (Ae (U64 0#64) (Ni (Sq (Sr (Me (St s) (Ni (Bk (Sq ?_))))))))
 refine WC.orS (x := 7) (d := 8) (s := s) (cs := [[115, 114, 108, 119], [100, 105, 118, 117, 119], [114, 101, 109, 117, 119]]) (ts := [9, 10, 11]) (by kernel_rfl) G (fun g1 => ?_)
 refine WC.cond G (fun hc8 => ?_) (fun hc8 => ?_)
 ·have hl := any_len (k := 4) hc8 (by decide)
  refine Sr (Me (U64 a) (Bn (vy := U64 4294967295#64) G G BinR.andU64 (Ae (U64 ((a &&& 4294967295#64))) (Ni (Sq (Sr (Me (St s) (Bn (vy := St [115, 114, 108, 119]) G G BinR.eqlS (Ni ?_)))))))))
  refine WC.cond G (fun hc15 => ?_) (fun hc15 => ?_)
  ·refine Sr (Me (U64 ((a &&& 4294967295#64))) (Me (U64 b) (Bn (vy := U64 32#64) G G ((rem32_low b) ▸ BinR.remU64 (by decide)) (Ca (arith_q [115, 114, 108] ((a &&& 4294967295#64)) (((b &&& 31#64) &&& 4294967295#64)) _) ?_))))
   rintro _ wc19 ⟨rfl, ec19⟩
   have E2 : Ext w wc19 := ec19
   refine Ca (half_q ((arithQ [115, 114, 108] ((a &&& 4294967295#64)) (((b &&& 31#64) &&& 4294967295#64)))) _) ?_
   rintro _ wc20 ⟨rfl, ec20⟩
   rw [half_eq]
   have E3 := Mt E2 ec20
   refine Ae (U64 ((signW ((arithQ [115, 114, 108] ((a &&& 4294967295#64)) (((b &&& 31#64) &&& 4294967295#64)))) 32))) (Ni (WC.ret ?_))
   have hfin : wordQ s a b = (signW ((arithQ [115, 114, 108] ((a &&& 4294967295#64)) (((b &&& 31#64) &&& 4294967295#64)))) 32) := by
    unfold wordQ; rw [hc8]
    show (if (s == [115, 114, 108, 119]) = true then _ else _) = _
    rw [hc15]; rfl
   exact ⟨_, Ro G G, congrArg U64 hfin.symm, E3⟩
  ·refine WC.skip (Sr (Me (St s) (WL.sliceToSt (j := 4) y9 G G hl G (Me (U64 ((a &&& 4294967295#64))) (Me (U64 b) (Bn (vy := U64 4294967295#64) G G BinR.andU64 (Ca (arith_q (s.take 4) ((a &&& 4294967295#64)) ((b &&& 4294967295#64)) _) ?_)))))))
   rintro _ wc26 ⟨rfl, ec26⟩
   have E4 : Ext w wc26 := ec26
   refine Ca (half_q ((arithQ (s.take 4) ((a &&& 4294967295#64)) ((b &&& 4294967295#64)))) _) ?_
   rintro _ wc27 ⟨rfl, ec27⟩
   rw [half_eq]
   have E5 := Mt E4 ec27
   refine Ae (U64 ((signW ((arithQ (s.take 4) ((a &&& 4294967295#64)) ((b &&& 4294967295#64)))) 32))) (Ni (WC.ret ?_))
   have hfin : wordQ s a b = (signW ((arithQ (s.take 4) ((a &&& 4294967295#64)) ((b &&& 4294967295#64)))) 32) := by
    unfold wordQ; rw [hc8]
    show (if (s == [115, 114, 108, 119]) = true then _ else _) = _
    rw [hc15]; rfl
   exact ⟨_, Ro G G, congrArg U64 hfin.symm, E5⟩
 ·refine Sq ?_
  refine WC.orS (x := 7) (d := 28) (s := s) (cs := [[115, 108, 108, 119], [115, 114, 97, 119]]) (ts := [29, 30]) (by kernel_rfl) G (fun g6 => ?_)
  refine WC.cond G (fun hc28 => ?_) (fun hc28 => ?_)
  ·refine Sq (WC.draw (fun w_ => Ext w w_) 9 G mixed ?_)
   intro wd_11 ed_11
   have R7 : Ext w wd_11 := ed_11
   have E8 : Ext w wd_11 := ed_11
   refine Tm 0 (St s) G G R7 (Tp 1 (St (s.take 3)) G G (WL.sliceToSt (j := 3) y9 G G h3 G Ok) R7 (Tm 2 (U64 a) G G R7 (Tm 4 (U64 b) G G R7 (Tp 5 (U64 ((signW (b &&& 31#64) 32))) G G (Bn (vy := U64 32#64) G G ((rem32_sign b) ▸ BinR.remU64 (by decide)) Ok) R7 (WA.one (i := 3) (m' := 63) (by kernel_rfl) G G (Ca (half_q a _) ?_))))))
   rintro _ wc34 ⟨rfl, ec34⟩
   rw [half_eq]
   have R14 := Mt R7 ec34
   have E15 := Mt E8 ec34
   refine WL.behind R14 (WA.one (i := 6) (m' := 127) (by kernel_rfl) G G (Ca (arith_q (s.take 3) (signW a 32) ((signW (b &&& 31#64) 32)) _) ?_))
   rintro _ wc37 ⟨rfl, ec37⟩
   have R16 := Mt R14 ec37
   have E17 := Mt E15 ec37
   refine WL.behind R16 (WA.one (i := 7) (m' := 255) (by kernel_rfl) G G (Ca (half_q ((arithQ (s.take 3) (signW a 32) ((signW (b &&& 31#64) 32)))) _) ?_))
   rintro _ wc38 ⟨rfl, ec38⟩
   rw [half_eq]
   have R18 := Mt R16 ec38
   have E19 := Mt E17 ec38
   refine WL.behind R18 (Tm 8 (U64 ((signW ((arithQ (s.take 3) (signW a 32) ((signW (b &&& 31#64) 32)))) 32))) G G R18 (WA.done (by kernel_rfl) (WC.ret ?_)))
   have hfin : wordQ s a b = (signW ((arithQ (s.take 3) (signW a 32) ((signW (b &&& 31#64) 32)))) 32) := by unfold wordQ; rw [hc8, hc28]; try rfl
   exact ⟨_, Ro G G, congrArg U64 hfin.symm, E19⟩
  ·refine WC.skip (Sq (WC.draw (fun w_ => Ext w w_) 9 G mixed ?_))
   intro wd_12 ed_12
   have R21 : Ext w wd_12 := ed_12
   have E22 : Ext w wd_12 := ed_12
   refine Tm 0 (St s) G G R21 (Tp 1 (St (s.take 3)) G G (WL.sliceToSt (j := 3) y9 G G h3 G Ok) R21 (Tm 2 (U64 a) G G R21 (Tm 4 (U64 b) G G R21 (WA.one (i := 3) (m' := 31) (by kernel_rfl) G G (Ca (half_q a _) ?_)))))
   rintro _ wc42 ⟨rfl, ec42⟩
   rw [half_eq]
   have R27 := Mt R21 ec42
   have E28 := Mt E22 ec42
   refine WL.behind R27 (WA.one (i := 5) (m' := 63) (by kernel_rfl) G G (Ca (half_q b _) ?_))
   rintro _ wc44 ⟨rfl, ec44⟩
   rw [half_eq]
   have R29 := Mt R27 ec44
   have E30 := Mt E28 ec44
   refine WL.behind R29 (WA.one (i := 6) (m' := 127) (by kernel_rfl) G G (Ca (arith_q (s.take 3) (signW a 32) (signW b 32) _) ?_))
   rintro _ wc45 ⟨rfl, ec45⟩
   have R31 := Mt R29 ec45
   have E32 := Mt E30 ec45
   refine WL.behind R31 (WA.one (i := 7) (m' := 255) (by kernel_rfl) G G (Ca (half_q ((arithQ (s.take 3) (signW a 32) (signW b 32))) _) ?_))
   rintro _ wc46 ⟨rfl, ec46⟩
   rw [half_eq]
   have R33 := Mt R31 ec46
   have E34 := Mt E32 ec46
   refine WL.behind R33 (Tm 8 (U64 ((signW ((arithQ (s.take 3) (signW a 32) (signW b 32))) 32))) G G R33 (WA.done (by kernel_rfl) (WC.ret ?_)))
   have hfin : wordQ s a b = (signW ((arithQ (s.take 3) (signW a 32) (signW b 32))) 32) := by unfold wordQ; rw [hc8, hc28]; try rfl
   exact ⟨_, Ro G G, congrArg U64 hfin.symm, E34⟩
theorem wide_q (x : BitVec 64) (z : Nat) (w : World) (h : z ≤ 8) : Cx 44 #[U64 x, IN z] w (U64 (signW x (8 * z))) := by
 refine Co func44 G G ?_
 refine Sr (Ae (U64 0#64) (Ni (Sr (Me (IN z) (Bn G G (BinR.mulN (a := 8) (b := z) (by omega)) (Bn G G (BinR.subN (a := 64) (b := 8 * z) (by omega) (by omega)) (Ae (IN ((64 - 8 * z))) (Ni (Sr (Me (U64 x) (Me (IN ((64 - 8 * z))) (Bn G G BinR.shlU64 (Cv G (ConvR.u64i64 y39 y2) (Me (IN ((64 - 8 * z))) (Bn G G BinR.shr64 (Cv G (ConvR.i64u64 y2 y39) (Ae (U64 ((BitVec.sshiftRight ((x <<< ((64 - 8 * z)))) ((64 - 8 * z))))) (Ni (WC.ret ?_)))))))))))))))))))
 exact ⟨_, Ro G G, G, Mod.refl _ _⟩
end Go.Proofs.S
end
section
set_option linter.unusedSimpArgs false
set_option linter.unusedVariables false
namespace Go.Proofs.S
open Go Go.Ux Go.Ux.Mach Go.Proofs
open Tryz
theorem ag163 : isAggT prog 163 = some true := by kernel_rfl
theorem sz163 : sizeT prog 163 = some 5 := by kernel_rfl
theorem zt163 : zeroT prog 163 = some #[Z1, .string ⟨#[]⟩, .int .u32 0, .int .u32 0, .int .u32 0] := by kernel_rfl
theorem el159 : elemT prog 159 = some 163 := by kernel_rfl
theorem row_one (i : Nat) : ((Value.agg (rowC i).toArray).cells.toList.all fun u => u.oneCell') = true := rfl
theorem names_len : ((List.range 66).all fun i => decide ((rvAt i).name.length ≤ 6)) = true := by kernel_rfl
theorem name_len {i : Nat} (h : i < 66) : (rvAt i).name.length ≤ 6 := of_decide_eq_true (List.all_eq_true.1 names_len i (List.mem_range.2 h))
theorem rows_q (w : World) : CallsR prog 75 #[] w (fun v w' => ∃ b, v = Sv b 65 65 ∧ Blk w' b rowsC 163 ∧ w.heap.size ≤ b ∧ Ext w w') := by
 refine Co func75 G G ?_
 refine Sr (Ae (.slice none 0 0) (Ni (Sr (WL.build (v := rowQ 1) G (fun _ => by kernel_rfl) G (WL.build (v := rowQ 2) G (fun _ => by kernel_rfl) G (WL.build (v := rowQ 3) G (fun _ => by kernel_rfl) G (WL.build (v := rowQ 4) G (fun _ => by kernel_rfl) G (WL.build (v := rowQ 5) G (fun _ => by kernel_rfl) G (WL.build (v := rowQ 6) G (fun _ => by kernel_rfl) G (WL.build (v := rowQ 7) G (fun _ => by kernel_rfl) G (WL.build (v := rowQ 8) G (fun _ => by kernel_rfl) G (WL.build (v := rowQ 9) G (fun _ => by kernel_rfl) G (WL.build (v := rowQ 10) G (fun _ => by kernel_rfl) G (WL.build (v := rowQ 11) G (fun _ => by kernel_rfl) G (WL.build (v := rowQ 12) G (fun _ => by kernel_rfl) G (WL.build (v := rowQ 13) G (fun _ => by kernel_rfl) G (WL.build (v := rowQ 14) G (fun _ => by kernel_rfl) G (WL.build (v := rowQ 15) G (fun _ => by kernel_rfl) G (WL.build (v := rowQ 16) G (fun _ => by kernel_rfl) G (WL.build (v := rowQ 17) G (fun _ => by kernel_rfl) G (WL.build (v := rowQ 18) G (fun _ => by kernel_rfl) G ?_)))))))))))))))))))))
 refine WL.build (v := rowQ 19) G (fun _ => by kernel_rfl) G (WL.build (v := rowQ 20) G (fun _ => by kernel_rfl) G (WL.build (v := rowQ 21) G (fun _ => by kernel_rfl) G (WL.build (v := rowQ 22) G (fun _ => by kernel_rfl) G (WL.build (v := rowQ 23) G (fun _ => by kernel_rfl) G (WL.build (v := rowQ 24) G (fun _ => by kernel_rfl) G (WL.build (v := rowQ 25) G (fun _ => by kernel_rfl) G (WL.build (v := rowQ 26) G (fun _ => by kernel_rfl) G (WL.build (v := rowQ 27) G (fun _ => by kernel_rfl) G (WL.build (v := rowQ 28) G (fun _ => by kernel_rfl) G (WL.build (v := rowQ 29) G (fun _ => by kernel_rfl) G (WL.build (v := rowQ 30) G (fun _ => by kernel_rfl) G (WL.build (v := rowQ 31) G (fun _ => by kernel_rfl) G (WL.build (v := rowQ 32) G (fun _ => by kernel_rfl) G (WL.build (v := rowQ 33) G (fun _ => by kernel_rfl) G (WL.build (v := rowQ 34) G (fun _ => by kernel_rfl) G (WL.build (v := rowQ 35) G (fun _ => by kernel_rfl) G (WL.build (v := rowQ 36) G (fun _ => by kernel_rfl) G (WL.build (v := rowQ 37) G (fun _ => by kernel_rfl) G (WL.build (v := rowQ 38) G (fun _ => by kernel_rfl) G (WL.build (v := rowQ 39) G (fun _ => by kernel_rfl) G (WL.build (v := rowQ 40) G (fun _ => by kernel_rfl) G (WL.build (v := rowQ 41) G (fun _ => by kernel_rfl) G (WL.build (v := rowQ 42) G (fun _ => by kernel_rfl) G ?_)))))))))))))))))))))))
 refine WL.build (v := rowQ 43) rfl (fun _ => by kernel_rfl) rfl (WL.build (v := rowQ 44) rfl (fun _ => by kernel_rfl) rfl (WL.build (v := rowQ 45) rfl (fun _ => by kernel_rfl) rfl (WL.build (v := rowQ 46) rfl (fun _ => by kernel_rfl) rfl (WL.build (v := rowQ 47) rfl (fun _ => by kernel_rfl) rfl (WL.build (v := rowQ 48) rfl (fun _ => by kernel_rfl) rfl (WL.build (v := rowQ 49) rfl (fun _ => by kernel_rfl) rfl (WL.build (v := rowQ 50) rfl (fun _ => by kernel_rfl) rfl (WL.build (v := rowQ 51) rfl (fun _ => by kernel_rfl) rfl (WL.build (v := rowQ 52) rfl (fun _ => by kernel_rfl) rfl (WL.build (v := rowQ 53) rfl (fun _ => by kernel_rfl) rfl (WL.build (v := rowQ 54) rfl (fun _ => by kernel_rfl) rfl (WL.build (v := rowQ 55) rfl (fun _ => by kernel_rfl) rfl (WL.build (v := rowQ 56) rfl (fun _ => by kernel_rfl) rfl (WL.build (v := rowQ 57) rfl (fun _ => by kernel_rfl) rfl (WL.build (v := rowQ 58) rfl (fun _ => by kernel_rfl) rfl (WL.build (v := rowQ 59) rfl (fun _ => by kernel_rfl) rfl (WL.build (v := rowQ 60) rfl (fun _ => by kernel_rfl) rfl (WL.build (v := rowQ 61) rfl (fun _ => by kernel_rfl) rfl (WL.build (v := rowQ 62) rfl (fun _ => by kernel_rfl) rfl (WL.build (v := rowQ 63) rfl (fun _ => by kernel_rfl) rfl (WL.build (v := rowQ 64) rfl (fun _ => by kernel_rfl) rfl (WL.build (v := rowQ 65) rfl (fun _ => by kernel_rfl) rfl (WL.buildSlice rfl (show ∀ w : World, (Instr.buildSlice 159 65 _).run prog w = .ok (Sv w.heap.size 65 65) (w.alloc (.cells rowsC 163)) from fun _ => by kernel_rfl) rfl ?_)))))))))))))))))))))))
 intro b w1 n1
 have E1 : Ext w w1 := n1.ext
 refine Ae (Sv b 65 65) (Ni (WC.ret ?_))
 exact ⟨_, Res.one (v := Sv b 65 65) G G, b, G, n1.blk, by have := n1.num; omega, E1⟩
theorem row_0 (w : World) : Cx 80 #[U8 0#8] w (rowQ 0) := by
 refine Co func80 G G ?_
 refine Sr (WL.alloc zt163 G ?_)
 intro b2 w2 n2
 have E1 : Ext w w2 := n2.ext
 refine Ni (Sr (Ca (rows_q _) ?_))
 rintro _ wR ⟨bR, rfl, hR, zR, eR⟩
 have ne_b2 : b2 ≠ bR := by have h1 := n2.blk.lt; omega
 have E2 := Mt E1 eR
 refine Ae (Sv bR 65 65) (Ni (Sq (Sr (Me (U8 0#8) (Bt (vy := U8 1#8) G G BinR.lssU8 G (Me (.bool true) (Gx (Gx (Gx (Gx (Gx (Pt G (Ni (Ct G (Sr (Bl (.agg #[Z1, St [], .int .u32 0, .int .u32 0, .int .u32 0]) [] ?_))))))))))))))))
 have B3 := n2.blk.ext eR
 refine WL.storeS (v := .agg #[Z1, St [], .int .u32 0, .int .u32 0, .int .u32 0]) G G B3 G sz163 G G ?_
 intro ws4 ms4 bs4 zs4
 have E4 : Ext w ws4 := Mod.own (Mod.refl _ _) n2 E2 ms4
 refine Ni (WC.ret ?_)
 exact ⟨_, Res.cell G G (loadVar_agg [U8 0#8, St [], U32 0#32, U32 0#32, U32 0#32] ag163 sz163 G (bs4.sub (o := 0) G)), (by kernel_rfl), E4⟩
theorem row_q (op : BitVec 8) (w : World) (h1 : 1 ≤ op.toNat) (h2 : op.toNat < 66) : Cx 80 #[U8 op] w (rowQ op.toNat) := by
 have e1 : (op - 1#8).toNat = op.toNat - 1 := by rw [BitVec.toNat_sub]; show (2 ^ 8 - 1 + op.toNat) % 2 ^ 8 = _; omega
 have e2 : (op - 1#8).toNat + 1 = op.toNat := by omega
 have hi : (op - 1#8).toNat < 65 := by omega
 have hu : BitVec.ult op 1#8 = false := by unfold BitVec.ult; exact decide_eq_false (by show ¬ op.toNat < 1; omega)
 refine Co func80 G G ?_
 refine Sr (WL.alloc zt163 G ?_)
 intro b2 w2 n2
 have E1 : Ext w w2 := n2.ext
 refine Ni (Sr (Ca (rows_q _) ?_))
 rintro _ wR ⟨bR, rfl, hR, zR, eR⟩
 have ne_b2 : b2 ≠ bR := by have h1 := n2.blk.lt; omega
 have E2 := Mt E1 eR
 refine Ae (Sv bR 65 65) (Ni (Sq (Sr (Me (U8 op) (Bf (vy := U8 1#8) G G BinR.lssU8 hu (Me (.bool false) (Gr (Me (U8 op) (Gr (Cv G (ConvR.u8n y5 y3) (Gr (Me (Sv bR 65 65) (Gr (WL.lenS el159 G G (Gr (Bo G G BinR.gtr (Pf G (Ni (Cf G (WC.skip (Sr ?_)))))))))))))))))))))
 refine Me (Sv bR 65 65) (Me (U8 op) (Bn (vy := U8 1#8) G G BinR.subU8 (WL.indexAddr (i := (op - 1#8).toNat) (b := bR) (o := 0) el159 sz163 G G hi G (WL.loadS (rowC ((op - 1#8).toNat + 1)) G ag163 sz163 G (rowsC_cells hR hi) G ?_))))
 have B3 := n2.blk.ext eR
 refine WL.storeS (v := .agg (rowC ((op - 1#8).toNat + 1)).toArray) G G B3 G sz163 G (row_one _) ?_
 intro ws4 ms4 bs4 zs4
 have E4 : Ext w ws4 := Mod.own (Mod.refl _ _) n2 E2 ms4
 refine Ni (WC.ret ?_)
 exact ⟨_, Res.cell G G (loadVar_agg (rowC ((op - 1#8).toNat + 1)) ag163 sz163 G (bs4.sub (o := 0) G)), by rw [e2]; rfl, E4⟩
theorem row_spec (op : BitVec 8) (w : World) (h : op.toNat < 66) : Cx 80 #[U8 op] w (rowQ op.toNat) := by
 by_cases h0 : op.toNat = 0
 ·obtain rfl : op = 0#8 := BitVec.eq_of_toNat_eq h0
  exact row_0 w
 ·exact row_q op w (by omega) h
theorem name_q (op : BitVec 8) (w : World) (h : op.toNat < 66) : Cx 41 #[U8 op] w (St (rvAt op.toNat).name) := by
 refine Co func41 G G ?_
 refine Sr (Ae (St []) (Ni (Sr (Me (U8 op) (Ca (row_spec op _ h) ?_)))))
 rintro _ w4 ⟨rfl, e4⟩
 have E1 : Ext w w4 := e4
 refine WL.field1 G y163 G ag9 G G G (Ae (St (rvAt op.toNat).name) (Ni (WC.ret ?_)))
 exact ⟨_, Ro G G, G, E1⟩
end Go.Proofs.S
end
