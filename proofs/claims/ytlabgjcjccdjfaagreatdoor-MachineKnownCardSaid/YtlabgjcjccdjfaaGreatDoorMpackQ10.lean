/- Steps of the proof, packed by program: McO6 McRf McO7 McRef McRR McN1 McTr McN2 McN3 McN4 MiY1 MiY4 McTq. -/
import Derived.Test.YtlabgjcjccdjfaaGreatDoorRows
import Derived.Test.YtlabgjcjccdjfaaGreatDoorMpackQ02
import Derived.Test.YtlabgjcjccdjfaaGreatDoorMpackQ03
import Derived.Test.YtlabgjcjccdjfaaGreatDoorMpackQ08
import Derived.Test.YtlabgjcjccdjfaaGreatDoorMpackQ09
set_option linter.unusedVariables false
set_option linter.unusedSimpArgs false
set_option linter.unnecessarySimpa false
set_option maxRecDepth 100000
set_option maxHeartbeats 4000000
section
set_option linter.unusedSimpArgs false
set_option linter.unusedVariables false
namespace Go.Proofs.S
open Go Go.Ux Go.Ux.Mach Go.Proofs
open Tryz
theorem fo104_0 : fieldOff prog 104 0 = some 0 := by kernel_rfl
theorem fo104_4 : fieldOff prog 104 4 = some 4 := by kernel_rfl
theorem half2 (y : BitVec 64) : y / 2#64 * 2#64 = y &&& ~~~1#64 := by
 apply BitVec.eq_of_getLsbD_eq
 intro i hi
 have e : y / 2#64 * 2#64 = (y >>> 1) <<< 1 := by
  apply BitVec.eq_of_toNat_eq
  rw [BitVec.toNat_mul, BitVec.toNat_udiv, BitVec.toNat_shiftLeft, BitVec.toNat_ushiftRight, Nat.shiftLeft_eq, Nat.shiftRight_eq_div_pow]; rfl
 rw [e, BitVec.getLsbD_shiftLeft, BitVec.getLsbD_ushiftRight, BitVec.getLsbD_and, BitVec.getLsbD_not]
 have h1 : (1#64).getLsbD i = decide (i = 0) := by rw [BitVec.getLsbD_one]; simp
 rw [h1]
 by_cases h0 : i = 0
 ·subst h0; simp
 ·have : 1 + (i - 1) = i := by omega
  rw [this]
  have h3 : ¬ i < 1 := by omega
  simp [h0, hi, h3]
def nmQ (s : List UInt8) : List UInt8 := if (immQ s != []) = true then immQ s else s
def yQ (s : List UInt8) (n y : BitVec 64) : BitVec 64 := if (immQ s != []) = true then n else y
def doQ (s : List UInt8) (n pc x y : BitVec 64) : BitVec 64 × BitVec 64 := bif ([[108, 117, 105]].any fun c => nmQ s == c) then (n, pc + 4#64) else bif ([[97, 117, 105, 112, 99]].any fun c => nmQ s == c) then (pc + n, pc + 4#64) else bif ([[106, 97, 108]].any fun c => nmQ s == c) then (pc + 4#64, pc + n) else bif ([[106, 97, 108, 114]].any fun c => nmQ s == c) then (pc + 4#64, (x + n) &&& ~~~1#64) else bif ([[98, 101, 113], [98, 110, 101], [98, 108, 116], [98, 103, 101], [98, 108, 116, 117], [98, 103, 101, 117]].any fun c => nmQ s == c) then (0#64, if jumpsQ (nmQ s) x (yQ s n y) = true then pc + n else pc + 4#64) else bif ([[108, 98], [108, 104], [108, 119], [108, 100], [108, 98, 117], [108, 104, 117], [108, 119, 117], [115, 98], [115, 104], [115, 119], [115, 100], [102, 101, 110, 99, 101], [101, 99, 97, 108, 108], [101, 98, 114, 101, 97, 107]].any fun c => nmQ s == c) then (0#64, pc + 4#64) else if (decide ((3 : Int) < (((nmQ s).length : Nat) : Int)) && (((nmQ s).getD ((nmQ s).length - 1) 0).toBitVec == 119#8)) = true then (wordQ (nmQ s) x (yQ s n y), pc + 4#64) else (arithQ (nmQ s) x (yQ s n y), pc + 4#64)
theorem nm_len {s : List UInt8} (h : s.length ≤ 1000) : (nmQ s).length ≤ 1000 := by
 unfold nmQ; split
 ·unfold immQ
  have e : ∀ (b : Bool) (x y : List UInt8), x.length ≤ 1000 → y.length ≤ 1000 → (bif b then x else y).length ≤ 1000 := fun b x y hx hy => by cases b <;> assumption
  refine e _ _ _ (by decide) (e _ _ _ (by rw [List.length_take]; omega) (e _ _ _ (by rw [List.length_append, List.length_take]; show _ + 1 ≤ _; omega) (by decide)))
 ·exact h
theorem do_q (op rd rs1 rs2 : BitVec 8) (imm pc x y : BitVec 64) (w : World) (s : List UInt8) (h2 : op.toNat < 66) (hs : s = (rvAt op.toNat).name) : Cx 42 #[.agg #[U8 op, U8 rd, U8 rs1, U8 rs2, I64 imm], U64 pc, U64 x, U64 y] w (.tuple #[U64 (doQ s imm pc x y).1, U64 (doQ s imm pc x y).2]) := by
 have hsl : s.length ≤ 1000 := by rw [hs]; have := name_len h2; omega
 refine Co func42 G G ?_
 refine Sr (WL.box (v := .agg #[U8 op, U8 rd, U8 rs1, U8 rs2, I64 imm]) G G ?_)
 intro b4 w4 n4
 have E1 : Ext w w4 := n4.ext
 refine Ae (U64 0#64) (Ae (U64 0#64) (Ni (Sr (Fa G fo104_0 (Le (n4.blk.cell (j := 0) G) (Ca (name_q op _ h2) ?_))))))
 rintro _ w14 ⟨rfl, e14⟩
 rw [← hs]
 have E2 := Mt E1 e14
 refine Ae (St s) (Ni (Sr (Fa G fo104_4 ?_)))
 have B3 := n4.blk.ext e14
 refine Le (B3.cell (j := 4) G) (Cv G (ConvR.i64u64 y2 y39) (Ae (U64 imm) (Ni (Sq (Sr (Me (St s) (Ca (imm_q s _ hsl) ?_)))))))
 rintro _ wc19 ⟨rfl, ec19⟩
 have E4 := Mt E2 ec19
 refine Bn (vy := St []) G G BinR.neqS (Ni ?_)
 refine WC.cut (fun f' w_ => f' 0 = .agg #[U8 op, U8 rd, U8 rs1, U8 rs2, I64 imm] ∧ f' 1 = U64 pc ∧ f' 2 = U64 x ∧ f' 3 = U64 (yQ s imm y) ∧ f' 4 = ptr b4 0 ∧ f' 8 = U64 0#64 ∧ f' 9 = U64 0#64 ∧ f' 10 = St (nmQ s) ∧ f' 11 = U64 imm ∧ f' 12 = ptr b4 0 ∧ f' 13 = U8 op ∧ f' 14 = St s ∧ f' 15 = ptr b4 4 ∧ f' 16 = I64 imm ∧ f' 17 = U64 imm ∧ f' 18 = St s ∧ f' 19 = St (immQ s) ∧ f' 20 = .bool (((immQ s) != [])) ∧ Ext w w_) ?_ ?_
 ·refine WC.cond G (fun hc20 => ?_) (fun hc20 => ?_)
  ·refine Sr (Me (St s) (Ca (imm_q s _ hsl) ?_))
   rintro _ wc22 ⟨rfl, ec22⟩
   have E5 := Mt E4 ec22
   refine Ae (St (immQ s)) (Ni (Rg (Me (U64 imm) (Ae (U64 imm) (Ni ?_)))))
   have e10 : (immQ s) = nmQ s := by unfold nmQ; rw [hc20]; rfl
   have e3 : imm = yQ s imm y := by unfold yQ; rw [hc20]; rfl
   exact ⟨G, G, G, G, (congrArg U64 e3), G, G, G, (congrArg St e10), G, G, G, G, G, G, G, G, G, G, E5⟩
  ·refine WC.skip ?_
   have e10 : s = nmQ s := by unfold nmQ; rw [hc20]; rfl
   have e3 : y = yQ s imm y := by unfold yQ; rw [hc20]; rfl
   exact ⟨G, G, G, G, (congrArg U64 e3), G, G, G, (congrArg St e10), G, G, G, G, G, G, G, G, G, G, E4⟩
 rintro fc90020 wcc ⟨hc90020_0, hc90020_1, hc90020_2, hc90020_3, hc90020_4, hc90020_8, hc90020_9, hc90020_10, hc90020_11, hc90020_12, hc90020_13, hc90020_14, hc90020_15, hc90020_16, hc90020_17, hc90020_18, hc90020_19, hc90020_20, hEc⟩
 refine Sq (Sr (Mv (St (nmQ s)) hc90020_10 (Ni (Bk (Sq ?_)))))
 refine WC.orS (x := 24) (d := 25) (s := (nmQ s)) (cs := [[108, 117, 105]]) (ts := [26]) (by kernel_rfl) G (fun g6 => ?_)
 refine WC.cond G (fun hc25 => ?_) (fun hc25 => ?_)
 ·refine Sr (Mv (U64 imm) hc90020_11 (Mv (U64 pc) hc90020_1 (Bn (vy := U64 4#64) G G BinR.addU64 (Ae (U64 imm) (Ae (U64 ((pc + 4#64))) (Ni (WC.ret ?_)))))))
  have hfin : doQ s imm pc x y = (imm, (pc + 4#64)) := by unfold doQ; rw [hc25]; first | rfl | rfl
  exact ⟨_, Res.two (v := U64 imm) (v' := U64 ((pc + 4#64))) G G G, by rw [hfin], hEc⟩
 ·refine Sq ?_
  refine WC.orS (x := 24) (d := 30) (s := (nmQ s)) (cs := [[97, 117, 105, 112, 99]]) (ts := [31]) (by kernel_rfl) G (fun g7 => ?_)
  refine WC.cond G (fun hc30 => ?_) (fun hc30 => ?_)
  ·refine Sr (Mv (U64 pc) hc90020_1 (Mv (U64 imm) hc90020_11 (Bn G G BinR.addU64 (Mv (U64 pc) hc90020_1 (Bn (vy := U64 4#64) G G BinR.addU64 (Ae (U64 ((pc + imm))) (Ae (U64 ((pc + 4#64))) (Ni (WC.ret ?_)))))))))
   have hfin : doQ s imm pc x y = ((pc + imm), (pc + 4#64)) := by unfold doQ; rw [hc25, hc30]; first | rfl | rfl
   exact ⟨_, Res.two (v := U64 ((pc + imm))) (v' := U64 ((pc + 4#64))) G G G, by rw [hfin], hEc⟩
  ·refine Sq ?_
   refine WC.orS (x := 24) (d := 37) (s := (nmQ s)) (cs := [[106, 97, 108]]) (ts := [38]) (by kernel_rfl) G (fun g8 => ?_)
   refine WC.cond G (fun hc37 => ?_) (fun hc37 => ?_)
   ·refine Sr (Mv (U64 pc) hc90020_1 (Bn (vy := U64 4#64) G G BinR.addU64 (Mv (U64 pc) hc90020_1 (Mv (U64 imm) hc90020_11 (Bn G G BinR.addU64 (Ae (U64 ((pc + 4#64))) (Ae (U64 ((pc + imm))) (Ni (WC.ret ?_)))))))))
    have hfin : doQ s imm pc x y = ((pc + 4#64), (pc + imm)) := by unfold doQ; rw [hc25, hc30, hc37]; first | rfl | rfl
    exact ⟨_, Res.two (v := U64 ((pc + 4#64))) (v' := U64 ((pc + imm))) G G G, by rw [hfin], hEc⟩
   ·refine Sq ?_
    refine WC.orS (x := 24) (d := 44) (s := (nmQ s)) (cs := [[106, 97, 108, 114]]) (ts := [45]) (by kernel_rfl) G (fun g9 => ?_)
    refine WC.cond G (fun hc44 => ?_) (fun hc44 => ?_)
    ·refine Sr (Mv (U64 pc) hc90020_1 (Bn (vy := U64 4#64) G G BinR.addU64 (Mv (U64 x) hc90020_2 (Mv (U64 imm) hc90020_11 (Bn G G BinR.addU64 (Bn (vy := U64 2#64) G G (BinR.quoU64 (by decide)) (Bn (vy := U64 2#64) G G ((half2 (x + imm)) ▸ BinR.mulU64) (Ae (U64 ((pc + 4#64))) (Ae (U64 (((x + imm) &&& ~~~1#64))) (Ni (WC.ret ?_)))))))))))
     have hfin : doQ s imm pc x y = ((pc + 4#64), ((x + imm) &&& ~~~1#64)) := by unfold doQ; rw [hc25, hc30, hc37, hc44]; first | rfl | rfl
     exact ⟨_, Res.two (v := U64 ((pc + 4#64))) (v' := U64 (((x + imm) &&& ~~~1#64))) G G G, by rw [hfin], hEc⟩
    ·refine Sq ?_
     refine WC.orS (x := 24) (d := 53) (s := (nmQ s)) (cs := [[98, 101, 113], [98, 110, 101], [98, 108, 116], [98, 103, 101], [98, 108, 116, 117], [98, 103, 101, 117]]) (ts := [54, 55, 56, 57, 58, 59]) (by kernel_rfl) G (fun g10 => ?_)
     refine WC.cond G (fun hc53 => ?_) (fun hc53 => ?_)
     ·refine Sq (Sr (Mv (St (nmQ s)) hc90020_10 (Mv (U64 x) hc90020_2 (Mv (U64 (yQ s imm y)) hc90020_3 (Ca (jumps_q (nmQ s) x (yQ s imm y) _) ?_)))))
      rintro _ wc63 ⟨rfl, ec63⟩
      have E11 := Mt hEc ec63
      refine Ni ?_
      refine WC.cond G (fun hc63 => ?_) (fun hc63 => ?_)
      ·refine Sr (Mv (U64 pc) hc90020_1 (Mv (U64 imm) hc90020_11 (Bn G G BinR.addU64 (Ae (U64 0#64) (Ae (U64 ((pc + imm))) (Ni (WC.ret ?_)))))))
       have hfin : doQ s imm pc x y = (0#64, (pc + imm)) := by unfold doQ; rw [hc25, hc30, hc37, hc44, hc53]; first | rfl | (rw [hc63]; rfl)
       exact ⟨_, Res.two (v := U64 0#64) (v' := U64 ((pc + imm))) G G G, by rw [hfin], E11⟩
      ·refine WC.skip (Sr (Mv (U64 pc) hc90020_1 (Bn (vy := U64 4#64) G G BinR.addU64 (Ae (U64 0#64) (Ae (U64 ((pc + 4#64))) (Ni (WC.ret ?_)))))))
       have hfin : doQ s imm pc x y = (0#64, (pc + 4#64)) := by unfold doQ; rw [hc25, hc30, hc37, hc44, hc53]; first | rfl | (rw [hc63]; rfl)
       exact ⟨_, Res.two (v := U64 0#64) (v' := U64 ((pc + 4#64))) G G G, by rw [hfin], E11⟩
     ·refine Sq ?_
      refine WC.orS (x := 24) (d := 69) (s := (nmQ s)) (cs := [[108, 98], [108, 104], [108, 119], [108, 100], [108, 98, 117], [108, 104, 117], [108, 119, 117], [115, 98], [115, 104], [115, 119], [115, 100], [102, 101, 110, 99, 101], [101, 99, 97, 108, 108], [101, 98, 114, 101, 97, 107]]) (ts := [70, 71, 72, 73, 74, 75, 76, 77, 78, 79, 80, 81, 82, 83]) (by kernel_rfl) G (fun g12 => ?_)
      refine WC.cond G (fun hc69 => ?_) (fun hc69 => ?_)
      ·refine Sr (Mv (U64 pc) hc90020_1 (Bn (vy := U64 4#64) G G BinR.addU64 (Ae (U64 0#64) (Ae (U64 ((pc + 4#64))) (Ni (WC.ret ?_))))))
       have hfin : doQ s imm pc x y = (0#64, (pc + 4#64)) := by unfold doQ; rw [hc25, hc30, hc37, hc44, hc53, hc69]; first | rfl | rfl
       exact ⟨_, Res.two (v := U64 0#64) (v' := U64 ((pc + 4#64))) G G G, by rw [hfin], hEc⟩
      ·refine WC.skip (Sq (Sr (Mv (St (nmQ s)) hc90020_10 (WL.lenSt y9 G G (Bn G G BinR.gtr (Me (.bool (decide ((3 : Int) < (((nmQ s).length : Nat) : Int)))) ?_))))))
       rcases Bool.eq_false_or_eq_true (decide ((3 : Int) < (((nmQ s).length : Nat) : Int))) with hg89 | hg89
       ·refine Gy hg89 (Mv (St (nmQ s)) hc90020_10 (Gy hg89 (Mv (St (nmQ s)) hc90020_10 (Gy hg89 (WL.lenSt y9 G G (Gy hg89 (Bn G G (BinR.subN (b := 1) (by have := of_decide_eq_true hg89; omega) (by have : (nmQ s).length ≤ 1000 := nm_len hsl; omega)) (Gy hg89 (WL.indexSt (i := (nmQ s).length - 1) y9 G G (by have := of_decide_eq_true hg89; omega) G (Gy hg89 (Bn (vy := U8 119#8) G G BinR.eqlU8 (Qt hg89 G (Ni ?_)))))))))))))
        refine WC.cond G (fun hc96 => ?_) (fun hc96 => ?_)
        ·refine Sr (Mv (St (nmQ s)) hc90020_10 (Mv (U64 x) hc90020_2 (Mv (U64 (yQ s imm y)) hc90020_3 (Ca (word_q (nmQ s) x (yQ s imm y) _ (by have := of_decide_eq_true hg89; omega)) ?_))))
         rintro _ wc100 ⟨rfl, ec100⟩
         have E13 := Mt hEc ec100
         refine Mv (U64 pc) hc90020_1 (Bn (vy := U64 4#64) G G BinR.addU64 (Ae (U64 ((wordQ (nmQ s) x (yQ s imm y)))) (Ae (U64 ((pc + 4#64))) (Ni (WC.ret ?_)))))
         have hfin : doQ s imm pc x y = ((wordQ (nmQ s) x (yQ s imm y)), (pc + 4#64)) := by unfold doQ; rw [hc25, hc30, hc37, hc44, hc53, hc69]; first | rfl | (rw [hg89, hc96]; rfl)
         exact ⟨_, Res.two (v := U64 ((wordQ (nmQ s) x (yQ s imm y)))) (v' := U64 ((pc + 4#64))) G G G, by rw [hfin], E13⟩
        ·refine WC.skip (Sr (Mv (St (nmQ s)) hc90020_10 (Mv (U64 x) hc90020_2 (Mv (U64 (yQ s imm y)) hc90020_3 (Ca (arith_q (nmQ s) x (yQ s imm y) _) ?_)))))
         rintro _ wc106 ⟨rfl, ec106⟩
         have E14 := Mt hEc ec106
         refine Mv (U64 pc) hc90020_1 (Bn (vy := U64 4#64) G G BinR.addU64 (Ae (U64 ((arithQ (nmQ s) x (yQ s imm y)))) (Ae (U64 ((pc + 4#64))) (Ni (WC.ret ?_)))))
         have hfin : doQ s imm pc x y = ((arithQ (nmQ s) x (yQ s imm y)), (pc + 4#64)) := by unfold doQ; rw [hc25, hc30, hc37, hc44, hc53, hc69]; first | rfl | (rw [hg89, hc96]; rfl)
         exact ⟨_, Res.two (v := U64 ((arithQ (nmQ s) x (yQ s imm y)))) (v' := U64 ((pc + 4#64))) G G G, by rw [hfin], E14⟩
       ·refine Gz hg89 (Gz hg89 (Gz hg89 (Gz hg89 (Gz hg89 (Gz hg89 (Qf hg89 G (Ni (Cf G (WC.skip (Sr (Mv (St (nmQ s)) hc90020_10 (Mv (U64 x) hc90020_2 (Mv (U64 (yQ s imm y)) hc90020_3 (Ca (arith_q (nmQ s) x (yQ s imm y) _) ?_))))))))))))))
        rintro _ wc106 ⟨rfl, ec106⟩
        have E15 := Mt hEc ec106
        refine Mv (U64 pc) hc90020_1 (Bn (vy := U64 4#64) G G BinR.addU64 (Ae (U64 ((arithQ (nmQ s) x (yQ s imm y)))) (Ae (U64 ((pc + 4#64))) (Ni (WC.ret ?_)))))
        have hfin : doQ s imm pc x y = ((arithQ (nmQ s) x (yQ s imm y)), (pc + 4#64)) := by unfold doQ; rw [hc25, hc30, hc37, hc44, hc53, hc69]; first | rfl | (rw [hg89]; rfl)
        exact ⟨_, Res.two (v := U64 ((arithQ (nmQ s) x (yQ s imm y)))) (v' := U64 ((pc + 4#64))) G G G, by rw [hfin], E15⟩
end Go.Proofs.S
end
section
namespace Go.Proofs.S
open Go Go.Ux Go.Ux.Mach Go.Proofs Go.Proofs.M Go.Ux.Image
open Go.Proofs.N (doM loadsM)
set_option linter.unusedVariables false
theorem do_eq : ∀ (op : Nat) (imm pc x y : BitVec 64), 1 ≤ op → op < 66 → doQ (rvAt op).name imm pc x y = doM op imm pc x y
 | 0, _, _, _, _, h, _ => absurd h (by decide)
 | 1, imm, pc, x, y, _, _ => by kernel_rfl
 | 2, imm, pc, x, y, _, _ => by kernel_rfl
 | 3, imm, pc, x, y, _, _ => by kernel_rfl
 | 4, imm, pc, x, y, _, _ => by kernel_rfl
 | 5, imm, pc, x, y, _, _ => by kernel_rfl
 | 6, imm, pc, x, y, _, _ => by kernel_rfl
 | 7, imm, pc, x, y, _, _ => by kernel_rfl
 | 8, imm, pc, x, y, _, _ => by kernel_rfl
 | 9, imm, pc, x, y, _, _ => by kernel_rfl
 | 10, imm, pc, x, y, _, _ => by kernel_rfl
 | 11, imm, pc, x, y, _, _ => by kernel_rfl
 | 12, imm, pc, x, y, _, _ => by kernel_rfl
 | 13, imm, pc, x, y, _, _ => by kernel_rfl
 | 14, imm, pc, x, y, _, _ => by kernel_rfl
 | 15, imm, pc, x, y, _, _ => by kernel_rfl
 | 16, imm, pc, x, y, _, _ => by kernel_rfl
 | 17, imm, pc, x, y, _, _ => by kernel_rfl
 | 18, imm, pc, x, y, _, _ => by kernel_rfl
 | 19, imm, pc, x, y, _, _ => by kernel_rfl
 | 20, imm, pc, x, y, _, _ => by kernel_rfl
 | 21, imm, pc, x, y, _, _ => by kernel_rfl
 | 22, imm, pc, x, y, _, _ => by kernel_rfl
 | 23, imm, pc, x, y, _, _ => by kernel_rfl
 | 24, imm, pc, x, y, _, _ => by kernel_rfl
 | 25, imm, pc, x, y, _, _ => by kernel_rfl
 | 26, imm, pc, x, y, _, _ => by kernel_rfl
 | 27, imm, pc, x, y, _, _ => by kernel_rfl
 | 28, imm, pc, x, y, _, _ => by kernel_rfl
 | 29, imm, pc, x, y, _, _ => by kernel_rfl
 | 30, imm, pc, x, y, _, _ => by kernel_rfl
 | 31, imm, pc, x, y, _, _ => by kernel_rfl
 | 32, imm, pc, x, y, _, _ => by kernel_rfl
 | 33, imm, pc, x, y, _, _ => by kernel_rfl
 | 34, imm, pc, x, y, _, _ => by kernel_rfl
 | 35, imm, pc, x, y, _, _ => by kernel_rfl
 | 36, imm, pc, x, y, _, _ => by kernel_rfl
 | 37, imm, pc, x, y, _, _ => by kernel_rfl
 | 38, imm, pc, x, y, _, _ => by kernel_rfl
 | 39, imm, pc, x, y, _, _ => by kernel_rfl
 | 40, imm, pc, x, y, _, _ => by kernel_rfl
 | 41, imm, pc, x, y, _, _ => by kernel_rfl
 | 42, imm, pc, x, y, _, _ => by kernel_rfl
 | 43, imm, pc, x, y, _, _ => by kernel_rfl
 | 44, imm, pc, x, y, _, _ => by kernel_rfl
 | 45, imm, pc, x, y, _, _ => by kernel_rfl
 | 46, imm, pc, x, y, _, _ => by kernel_rfl
 | 47, imm, pc, x, y, _, _ => by kernel_rfl
 | 48, imm, pc, x, y, _, _ => by kernel_rfl
 | 49, imm, pc, x, y, _, _ => by kernel_rfl
 | 50, imm, pc, x, y, _, _ => by kernel_rfl
 | 51, imm, pc, x, y, _, _ => by kernel_rfl
 | 52, imm, pc, x, y, _, _ => by kernel_rfl
 | 53, imm, pc, x, y, _, _ => by kernel_rfl
 | 54, imm, pc, x, y, _, _ => by kernel_rfl
 | 55, imm, pc, x, y, _, _ => by kernel_rfl
 | 56, imm, pc, x, y, _, _ => by kernel_rfl
 | 57, imm, pc, x, y, _, _ => by kernel_rfl
 | 58, imm, pc, x, y, _, _ => by kernel_rfl
 | 59, imm, pc, x, y, _, _ => by kernel_rfl
 | 60, imm, pc, x, y, _, _ => by kernel_rfl
 | 61, imm, pc, x, y, _, _ => by kernel_rfl
 | 62, imm, pc, x, y, _, _ => by kernel_rfl
 | 63, imm, pc, x, y, _, _ => by kernel_rfl
 | 64, imm, pc, x, y, _, _ => by kernel_rfl
 | 65, imm, pc, x, y, _, _ => by kernel_rfl
 | n + 66, _, _, _, _, _, h => absurd h (by omega)
end Go.Proofs.S
end
section
set_option linter.unusedSimpArgs false
set_option linter.unusedVariables false
namespace Go.Proofs.S
open Go Go.Ux Go.Ux.Mach Go.Proofs
open Tryz
theorem zt104 : zeroT prog 104 = some #[Z1, Z1, Z1, Z1, .int .i64 0] := by kernel_rfl
theorem bld40_34 (p : BitVec 8) (z : BitVec 64) : ∀ w : World, (Instr.build 104 #[(0, U8 p), (4, I64 z)]).run prog w = .ok (.agg #[U8 p, Z1, Z1, Z1, I64 z]) w := fun _ => by kernel_rfl
theorem sz104 : sizeT prog 104 = some 5 := by kernel_rfl
theorem fo104_1 : fieldOff prog 104 1 = some 1 := by kernel_rfl
theorem fo104_2 : fieldOff prog 104 2 = some 2 := by kernel_rfl
theorem fo104_3 : fieldOff prog 104 3 = some 3 := by kernel_rfl
theorem ag104 : isAggT prog 104 = some true := by kernel_rfl
open Go.Proofs.M (instV rowIs decReg decodeAt)
theorem hl_next {i : Nat} {x : BitVec 32} (hl : ∀ j, j < i → rowIs (rvAt (j + 1)) x = false) (h : rowIs (rvAt (i + 1)) x = false) : ∀ j, j < i + 1 → rowIs (rvAt (j + 1)) x = false := fun j hj => by
 rcases Nat.lt_or_ge j i with h' | h'
 ·exact hl j h'
 ·obtain rfl : j = i := by omega
  exact h
theorem decode_q (x : BitVec 32) (w : World) : Cx 40 #[U32 x] w (.tuple #[instV (decI x), IN (decE x)]) := by
 refine Co func40 G G ?_
 refine Sr (WL.alloc zt104 G ?_)
 intro b2 w2 n2
 have E1 : Ext w w2 := n2.ext
 have hb2 : w.heap.size ≤ b2 := by have := n2.num; omega
 refine Ae (IN 0) (Ni (Sr (Ca (rows_q _) ?_)))
 rintro _ wR ⟨bR, rfl, hR, zR, eR⟩
 have ne_b2 : b2 ≠ bR := by have h1 := n2.blk.lt; omega
 have E2 := Mt E1 eR
 refine Ae (Sv bR 65 65) (Ni ?_)
 have B3 := n2.blk.ext eR
 have h2z : Blk wR b2 #[U8 0#8, U8 0#8, U8 0#8, U8 0#8, I64 0#64] 104 := B3
 refine Sq (Sr (Ae (IN 0) (Ni (Bk ?_))))
 refine WC.loop (fun k f w_ => ∃ i, (k + i = 65) ∧ (∀ j, j < i → rowIs (rvAt (j + 1)) x = false) ∧ f 0 = U32 x ∧ f 2 = ptr b2 0 ∧ f 4 = Sv bR 65 65 ∧ f 5 = IN i ∧ (Blk w_ b2 #[U8 0#8, U8 0#8, U8 0#8, U8 0#8, I64 0#64] 104) ∧ (Blk w_ bR rowsC 163) ∧ (Ext w w_)) 65 ?_ ?_
 ·exact ⟨0, by omega, fun _ h => absurd h (Nat.not_lt_zero _), G, G, G, G, h2z, hR, E2⟩
 rintro ka f1 wr ⟨i, hki, hl, h0_1, h2_1, h4_1, h5_1, h2, hR, hE⟩
 refine Sq (Sr (Mv (IN i) h5_1 (Mv (Sv bR 65 65) h4_1 (WL.lenS el159 G G (Bn G G BinR.lss (Ni ?_))))))
 refine WC.cond G (fun hc14 => ?_) (fun hc14 => ?_)
 ·have hi : i < 65 := by have := of_decide_eq_true hc14; omega
  refine WC.skip (Sq (Bk (Sq (Sr (Mv (U32 x) h0_1 (Mv (Sv bR 65 65) h4_1 (Mv (IN i) h5_1 (WL.indexAddr (i := i) (b := bR) (o := 0) el159 sz163 G G hi G (WL.loadS (rowC (i + 1)) G ag163 sz163 G (rowsC_cells hR hi) G (Ca (is_q x (fch (rvAt (i + 1)).k) (rvAt (i + 1)).name ((rvAt (i + 1)).mtch &&& 127#32) (((rvAt (i + 1)).mtch >>> 12) &&& 7#32) ((rvAt (i + 1)).mtch >>> 25) _) ?_))))))))))
  rintro _ wc22 ⟨rfl, ec22⟩
  rw [is_eq x (i + 1) (by omega) (by omega)]
  have E5 := Mt hE ec22
  refine WL.un G G UnR.not (Ni ?_)
  refine WC.cond G (fun hc23 => ?_) (fun hc23 => ?_)
  ·have hmiss : rowIs (rvAt (i + 1)) x = false := by simpa using hc23
   refine WC.exit (Rg (Mv (IN i) h5_1 (Bn G G (BinR.succN (by omega)) (Ae (IN (i + 1)) (Ni ?_)))))
   have B6 := h2.ext ec22
   have B7 := hR.ext ec22
   exact ⟨ka - 1, by omega, (i + 1), by omega, hl_next hl hmiss, h0_1, h2_1, h4_1, G, B6, B7, E5⟩
  ·obtain ⟨hd1, hd2⟩ := dec_hit hi hl (show rowIs (rvAt (i + 1)) x = true by simpa using hc23)
   refine WC.skip (Sr (Mv (IN i) h5_1 (Bn G G (BinR.succN (by omega)) (Cv G (ConvR.nu8 y3 y5) (Mv (U32 x) h0_1 (Mv (Sv bR 65 65) h4_1 (Mv (IN i) h5_1 (WL.indexAddr (i := i) (b := bR) (o := 0) el159 sz163 G G hi G (Fa G fo163_0 ?_)))))))))
   have B8 := hR.ext ec22
   refine Lx G (rowsC_cells B8 hi 0 _ G) (Ca (number_q x (fch (rvAt (i + 1)).k) _) ?_)
   rintro _ wc33 ⟨rfl, ec33⟩
   rw [number_eq x (rvAt (i + 1)).k]
   have E10 := Mt E5 ec33
   refine WL.build (v := .agg #[U8 ((BitVec.ofNat 8 (i + 1))), Z1, Z1, Z1, I64 ((number (rvAt (i + 1)).form x))]) (vs := [(0, U8 ((BitVec.ofNat 8 (i + 1)))), (4, I64 ((number (rvAt (i + 1)).form x)))]) G (bld40_34 (BitVec.ofNat 8 (i + 1)) (number (rvAt (i + 1)).form x)) G ?_
   have B11 := (h2.ext ec22).ext ec33
   have B12 := B8.ext ec33
   refine WL.allocStore (v := .agg #[U8 ((BitVec.ofNat 8 (i + 1))), Z1, Z1, Z1, I64 ((number (rvAt (i + 1)).form x))]) zt104 G sz104 G G G G ?_
   intro b6 w6 n6
   have hl_b2_b6 : b2 < b6 := by have := B11.lt; have := n6.num; omega
   have hl_bR_b6 : bR < b6 := by have := B12.lt; have := n6.num; omega
   have E14 := Mt E10 n6.ext
   refine Ni ?_
   have hb6 : w.heap.size ≤ b6 := by have := n6.num; have := Mod.size E10; omega
   refine Sr (Mv (Sv bR 65 65) h4_1 (Mv (IN i) h5_1 (WL.indexAddr (i := i) (b := bR) (o := 0) el159 sz163 G G hi G (Fa G fo163_0 ?_))))
   have B15 := B12.ext n6.ext
   refine Lx G (rowsC_cells B15 hi 0 _ G) (Ca (has_q (fch (rvAt (i + 1)).k) _) ?_)
   rintro _ wc41 ⟨rfl, ec41⟩
   rw [has_eq (rvAt (i + 1)).k]
   have E17 := Mt E14 ec41
   refine Me (.tuple #[.bool ((rvAt (i + 1)).form.rd), .bool ((rvAt (i + 1)).form.rs1), .bool ((rvAt (i + 1)).form.rs2)]) (Et G G (Et G G (Et G G (Ae (.bool ((rvAt (i + 1)).form.rd)) (Ae (.bool ((rvAt (i + 1)).form.rs1)) (Ae (.bool ((rvAt (i + 1)).form.rs2)) (Ni (Sq (Sr (Me (.bool ((rvAt (i + 1)).form.rd)) (Ni ?_)))))))))))
   refine WC.cut (fun f' w_ => f' 0 = U32 x ∧ f' 2 = ptr b2 0 ∧ f' 4 = Sv bR 65 65 ∧ f' 5 = IN i ∧ f' 6 = ptr b6 0 ∧ f' 7 = .bool ((rvAt (i + 1)).form.rd) ∧ f' 8 = .bool ((rvAt (i + 1)).form.rs1) ∧ f' 9 = .bool ((rvAt (i + 1)).form.rs2) ∧ f' 11 = IN i ∧ f' 12 = Sv bR 65 65 ∧ f' 13 = IN 65 ∧ f' 14 = .bool (decide (((i : Nat) : Int) < ((65 : Nat) : Int))) ∧ f' 17 = U32 x ∧ f' 18 = Sv bR 65 65 ∧ f' 19 = IN i ∧ f' 20 = ptr bR (0 + i * 5) ∧ f' 21 = .agg (rowC (i + 1)).toArray ∧ f' 22 = .bool ((rowIs (rvAt (i + 1)) x)) ∧ f' 23 = .bool (!((rowIs (rvAt (i + 1)) x))) ∧ f' 24 = IN i ∧ f' 25 = IN (i + 1) ∧ f' 26 = U8 ((BitVec.ofNat 8 (i + 1))) ∧ f' 27 = U32 x ∧ f' 28 = Sv bR 65 65 ∧ f' 29 = IN i ∧ f' 30 = ptr bR (0 + i * 5) ∧ f' 31 = ptr bR (0 + i * 5) ∧ f' 32 = U8 ((fch (rvAt (i + 1)).k)) ∧ f' 33 = I64 ((number (rvAt (i + 1)).form x)) ∧ f' 34 = .agg #[U8 ((BitVec.ofNat 8 (i + 1))), Z1, Z1, Z1, I64 ((number (rvAt (i + 1)).form x))] ∧ f' 35 = .tuple #[.bool ((rvAt (i + 1)).form.rd), .bool ((rvAt (i + 1)).form.rs1), .bool ((rvAt (i + 1)).form.rs2)] ∧ f' 36 = Sv bR 65 65 ∧ f' 37 = IN i ∧ f' 38 = ptr bR (0 + i * 5) ∧ f' 39 = ptr bR (0 + i * 5) ∧ f' 40 = U8 ((fch (rvAt (i + 1)).k)) ∧ f' 41 = .tuple #[.bool ((rvAt (i + 1)).form.rd), .bool ((rvAt (i + 1)).form.rs1), .bool ((rvAt (i + 1)).form.rs2)] ∧ f' 42 = .bool ((rvAt (i + 1)).form.rd) ∧ f' 43 = .bool ((rvAt (i + 1)).form.rs1) ∧ f' 44 = .bool ((rvAt (i + 1)).form.rs2) ∧ f' 45 = .bool ((rvAt (i + 1)).form.rd) ∧ (Blk w_ b6 #[U8 ((BitVec.ofNat 8 (i + 1))), U8 ((decReg (rvAt (i + 1)).form.rd (7, 5) x)), U8 0#8, U8 0#8, I64 ((number (rvAt (i + 1)).form x))] 104) ∧ (Blk w_ b2 #[U8 0#8, U8 0#8, U8 0#8, U8 0#8, I64 0#64] 104) ∧ (Blk w_ bR rowsC 163) ∧ Ext w w_) ?_ ?_
   ·refine WC.cond G (fun hc45 => ?_) (fun hc45 => ?_)
    ·refine Rg (Mv (U32 x) h0_1 (Ca (field_q x 7 5 _) ?_))
     rintro _ wc47 ⟨rfl, ec47⟩
     have E19 := Mt E17 ec47
     refine Cv G (ConvR.u32u8 y50 y5) (Fa G fo104_1 ?_)
     have B20 := (n6.blk.ext ec41).ext ec47
     refine WL.storeB (v := U8 ((fieldQ x 7 5).setWidth 8)) G G G sz5 B20 (Nat.le_of_ble_eq_true G) ?_
     intro ws21 ms21 bs21 zs21
     have E22 : Ext w ws21 := Mod.own E10 n6 E19 ms21
     refine Ni ?_
     have B23 := (((B11.ext n6.ext).ext ec41).ext ec47).mod ms21 (by omega)
     have B24 := ((B15.ext ec41).ext ec47).mod ms21 (by omega)
     exact ⟨G, h0_1, h2_1, h4_1, h5_1, G, G, G, G, G, G, G, G, G, G, G, G, G, G, G, G, G, G, G, G, G, G, G, G, G, G, G, G, G, G, G, G, G, G, G, G, G, (by rw [hc45]; exact bs21), B23, B24, E22⟩
    ·refine WC.skip ?_
     have B25 := n6.blk.ext ec41
     have B26 := (B11.ext n6.ext).ext ec41
     have B27 := B15.ext ec41
     exact ⟨G, h0_1, h2_1, h4_1, h5_1, G, G, G, G, G, G, G, G, G, G, G, G, G, G, G, G, G, G, G, G, G, G, G, G, G, G, G, G, G, G, G, G, G, G, G, G, G, (by rw [hc45]; exact B25), B26, B27, E17⟩
   rintro fc90045 wk1 ⟨hc90045_0, hc90045_2, hc90045_4, hc90045_5, hc90045_6, hc90045_7, hc90045_8, hc90045_9, hc90045_11, hc90045_12, hc90045_13, hc90045_14, hc90045_17, hc90045_18, hc90045_19, hc90045_20, hc90045_21, hc90045_22, hc90045_23, hc90045_24, hc90045_25, hc90045_26, hc90045_27, hc90045_28, hc90045_29, hc90045_30, hc90045_31, hc90045_32, hc90045_33, hc90045_34, hc90045_35, hc90045_36, hc90045_37, hc90045_38, hc90045_39, hc90045_40, hc90045_41, hc90045_42, hc90045_43, hc90045_44, hc90045_45, h6_1, h2_1, hR_1, hE_1⟩
   refine Sq (Sr (Mv (.bool ((rvAt (i + 1)).form.rs1)) hc90045_8 (Ni ?_)))
   refine WC.cut (fun f' w_ => f' 0 = U32 x ∧ f' 2 = ptr b2 0 ∧ f' 4 = Sv bR 65 65 ∧ f' 5 = IN i ∧ f' 6 = ptr b6 0 ∧ f' 7 = .bool ((rvAt (i + 1)).form.rd) ∧ f' 8 = .bool ((rvAt (i + 1)).form.rs1) ∧ f' 9 = .bool ((rvAt (i + 1)).form.rs2) ∧ f' 11 = IN i ∧ f' 12 = Sv bR 65 65 ∧ f' 13 = IN 65 ∧ f' 14 = .bool (decide (((i : Nat) : Int) < ((65 : Nat) : Int))) ∧ f' 17 = U32 x ∧ f' 18 = Sv bR 65 65 ∧ f' 19 = IN i ∧ f' 20 = ptr bR (0 + i * 5) ∧ f' 21 = .agg (rowC (i + 1)).toArray ∧ f' 22 = .bool ((rowIs (rvAt (i + 1)) x)) ∧ f' 23 = .bool (!((rowIs (rvAt (i + 1)) x))) ∧ f' 24 = IN i ∧ f' 25 = IN (i + 1) ∧ f' 26 = U8 ((BitVec.ofNat 8 (i + 1))) ∧ f' 27 = U32 x ∧ f' 28 = Sv bR 65 65 ∧ f' 29 = IN i ∧ f' 30 = ptr bR (0 + i * 5) ∧ f' 31 = ptr bR (0 + i * 5) ∧ f' 32 = U8 ((fch (rvAt (i + 1)).k)) ∧ f' 33 = I64 ((number (rvAt (i + 1)).form x)) ∧ f' 34 = .agg #[U8 ((BitVec.ofNat 8 (i + 1))), Z1, Z1, Z1, I64 ((number (rvAt (i + 1)).form x))] ∧ f' 35 = .tuple #[.bool ((rvAt (i + 1)).form.rd), .bool ((rvAt (i + 1)).form.rs1), .bool ((rvAt (i + 1)).form.rs2)] ∧ f' 36 = Sv bR 65 65 ∧ f' 37 = IN i ∧ f' 38 = ptr bR (0 + i * 5) ∧ f' 39 = ptr bR (0 + i * 5) ∧ f' 40 = U8 ((fch (rvAt (i + 1)).k)) ∧ f' 41 = .tuple #[.bool ((rvAt (i + 1)).form.rd), .bool ((rvAt (i + 1)).form.rs1), .bool ((rvAt (i + 1)).form.rs2)] ∧ f' 42 = .bool ((rvAt (i + 1)).form.rd) ∧ f' 43 = .bool ((rvAt (i + 1)).form.rs1) ∧ f' 44 = .bool ((rvAt (i + 1)).form.rs2) ∧ f' 45 = .bool ((rvAt (i + 1)).form.rd) ∧ f' 50 = .bool ((rvAt (i + 1)).form.rs1) ∧ (Blk w_ b6 #[U8 ((BitVec.ofNat 8 (i + 1))), U8 ((decReg (rvAt (i + 1)).form.rd (7, 5) x)), U8 ((decReg (rvAt (i + 1)).form.rs1 (15, 5) x)), U8 0#8, I64 ((number (rvAt (i + 1)).form x))] 104) ∧ (Blk w_ b2 #[U8 0#8, U8 0#8, U8 0#8, U8 0#8, I64 0#64] 104) ∧ (Blk w_ bR rowsC 163) ∧ Ext w w_) ?_ ?_
   ·refine WC.cond G (fun hc50 => ?_) (fun hc50 => ?_)
    ·refine Rg (Mv (U32 x) hc90045_0 (Ca (field_q x 15 5 _) ?_))
     rintro _ wc52 ⟨rfl, ec52⟩
     have E28 := Mt hE_1 ec52
     refine Cv G (ConvR.u32u8 y50 y5) (Fa hc90045_6 fo104_2 ?_)
     have B29 := h6_1.ext ec52
     refine WL.storeB (v := U8 ((fieldQ x 15 5).setWidth 8)) G G G sz5 B29 (Nat.le_of_ble_eq_true G) ?_
     intro ws30 ms30 bs30 zs30
     have E30 : Ext w ws30 := Mod.then E28 ms30 (fun i hi (e : i = b6) => absurd hi (by omega))
     refine Ni ?_
     have B31 := (h2_1.ext ec52).mod ms30 (by omega)
     have B32 := (hR_1.ext ec52).mod ms30 (by omega)
     exact ⟨G, hc90045_0, hc90045_2, hc90045_4, hc90045_5, hc90045_6, hc90045_7, hc90045_8, hc90045_9, hc90045_11, hc90045_12, hc90045_13, hc90045_14, hc90045_17, hc90045_18, hc90045_19, hc90045_20, hc90045_21, hc90045_22, hc90045_23, hc90045_24, hc90045_25, hc90045_26, hc90045_27, hc90045_28, hc90045_29, hc90045_30, hc90045_31, hc90045_32, hc90045_33, hc90045_34, hc90045_35, hc90045_36, hc90045_37, hc90045_38, hc90045_39, hc90045_40, hc90045_41, hc90045_42, hc90045_43, hc90045_44, hc90045_45, G, (by rw [hc50]; exact bs30), B31, B32, E30⟩
    ·refine WC.skip ?_
     exact ⟨G, hc90045_0, hc90045_2, hc90045_4, hc90045_5, hc90045_6, hc90045_7, hc90045_8, hc90045_9, hc90045_11, hc90045_12, hc90045_13, hc90045_14, hc90045_17, hc90045_18, hc90045_19, hc90045_20, hc90045_21, hc90045_22, hc90045_23, hc90045_24, hc90045_25, hc90045_26, hc90045_27, hc90045_28, hc90045_29, hc90045_30, hc90045_31, hc90045_32, hc90045_33, hc90045_34, hc90045_35, hc90045_36, hc90045_37, hc90045_38, hc90045_39, hc90045_40, hc90045_41, hc90045_42, hc90045_43, hc90045_44, hc90045_45, G, (by rw [hc50]; exact h6_1), h2_1, hR_1, hE_1⟩
   rintro fc90050 wk2 ⟨hc90050_0, hc90050_2, hc90050_4, hc90050_5, hc90050_6, hc90050_7, hc90050_8, hc90050_9, hc90050_11, hc90050_12, hc90050_13, hc90050_14, hc90050_17, hc90050_18, hc90050_19, hc90050_20, hc90050_21, hc90050_22, hc90050_23, hc90050_24, hc90050_25, hc90050_26, hc90050_27, hc90050_28, hc90050_29, hc90050_30, hc90050_31, hc90050_32, hc90050_33, hc90050_34, hc90050_35, hc90050_36, hc90050_37, hc90050_38, hc90050_39, hc90050_40, hc90050_41, hc90050_42, hc90050_43, hc90050_44, hc90050_45, hc90050_50, h6_2, h2_2, hR_2, hE_2⟩
   refine Sq (Sr (Mv (.bool ((rvAt (i + 1)).form.rs2)) hc90050_9 (Ni ?_)))
   refine WC.cut (fun f' w_ => f' 0 = U32 x ∧ f' 2 = ptr b2 0 ∧ f' 4 = Sv bR 65 65 ∧ f' 5 = IN i ∧ f' 6 = ptr b6 0 ∧ f' 7 = .bool ((rvAt (i + 1)).form.rd) ∧ f' 8 = .bool ((rvAt (i + 1)).form.rs1) ∧ f' 9 = .bool ((rvAt (i + 1)).form.rs2) ∧ f' 11 = IN i ∧ f' 12 = Sv bR 65 65 ∧ f' 13 = IN 65 ∧ f' 14 = .bool (decide (((i : Nat) : Int) < ((65 : Nat) : Int))) ∧ f' 17 = U32 x ∧ f' 18 = Sv bR 65 65 ∧ f' 19 = IN i ∧ f' 20 = ptr bR (0 + i * 5) ∧ f' 21 = .agg (rowC (i + 1)).toArray ∧ f' 22 = .bool ((rowIs (rvAt (i + 1)) x)) ∧ f' 23 = .bool (!((rowIs (rvAt (i + 1)) x))) ∧ f' 24 = IN i ∧ f' 25 = IN (i + 1) ∧ f' 26 = U8 ((BitVec.ofNat 8 (i + 1))) ∧ f' 27 = U32 x ∧ f' 28 = Sv bR 65 65 ∧ f' 29 = IN i ∧ f' 30 = ptr bR (0 + i * 5) ∧ f' 31 = ptr bR (0 + i * 5) ∧ f' 32 = U8 ((fch (rvAt (i + 1)).k)) ∧ f' 33 = I64 ((number (rvAt (i + 1)).form x)) ∧ f' 34 = .agg #[U8 ((BitVec.ofNat 8 (i + 1))), Z1, Z1, Z1, I64 ((number (rvAt (i + 1)).form x))] ∧ f' 35 = .tuple #[.bool ((rvAt (i + 1)).form.rd), .bool ((rvAt (i + 1)).form.rs1), .bool ((rvAt (i + 1)).form.rs2)] ∧ f' 36 = Sv bR 65 65 ∧ f' 37 = IN i ∧ f' 38 = ptr bR (0 + i * 5) ∧ f' 39 = ptr bR (0 + i * 5) ∧ f' 40 = U8 ((fch (rvAt (i + 1)).k)) ∧ f' 41 = .tuple #[.bool ((rvAt (i + 1)).form.rd), .bool ((rvAt (i + 1)).form.rs1), .bool ((rvAt (i + 1)).form.rs2)] ∧ f' 42 = .bool ((rvAt (i + 1)).form.rd) ∧ f' 43 = .bool ((rvAt (i + 1)).form.rs1) ∧ f' 44 = .bool ((rvAt (i + 1)).form.rs2) ∧ f' 45 = .bool ((rvAt (i + 1)).form.rd) ∧ f' 50 = .bool ((rvAt (i + 1)).form.rs1) ∧ f' 55 = .bool ((rvAt (i + 1)).form.rs2) ∧ (Blk w_ b6 #[U8 ((BitVec.ofNat 8 (i + 1))), U8 ((decReg (rvAt (i + 1)).form.rd (7, 5) x)), U8 ((decReg (rvAt (i + 1)).form.rs1 (15, 5) x)), U8 ((decReg (rvAt (i + 1)).form.rs2 (20, 5) x)), I64 ((number (rvAt (i + 1)).form x))] 104) ∧ (Blk w_ b2 #[U8 0#8, U8 0#8, U8 0#8, U8 0#8, I64 0#64] 104) ∧ (Blk w_ bR rowsC 163) ∧ Ext w w_) ?_ ?_
   ·refine WC.cond G (fun hc55 => ?_) (fun hc55 => ?_)
    ·refine Rg (Mv (U32 x) hc90050_0 (Ca (field_q x 20 5 _) ?_))
     rintro _ wc57 ⟨rfl, ec57⟩
     have E33 := Mt hE_2 ec57
     refine Cv G (ConvR.u32u8 y50 y5) (Fa hc90050_6 fo104_3 ?_)
     have B34 := h6_2.ext ec57
     refine WL.storeB (v := U8 ((fieldQ x 20 5).setWidth 8)) G G G sz5 B34 (Nat.le_of_ble_eq_true G) ?_
     intro ws35 ms35 bs35 zs35
     have E35 : Ext w ws35 := Mod.then E33 ms35 (fun i hi (e : i = b6) => absurd hi (by omega))
     refine Ni ?_
     have B36 := (h2_2.ext ec57).mod ms35 (by omega)
     have B37 := (hR_2.ext ec57).mod ms35 (by omega)
     exact ⟨G, hc90050_0, hc90050_2, hc90050_4, hc90050_5, hc90050_6, hc90050_7, hc90050_8, hc90050_9, hc90050_11, hc90050_12, hc90050_13, hc90050_14, hc90050_17, hc90050_18, hc90050_19, hc90050_20, hc90050_21, hc90050_22, hc90050_23, hc90050_24, hc90050_25, hc90050_26, hc90050_27, hc90050_28, hc90050_29, hc90050_30, hc90050_31, hc90050_32, hc90050_33, hc90050_34, hc90050_35, hc90050_36, hc90050_37, hc90050_38, hc90050_39, hc90050_40, hc90050_41, hc90050_42, hc90050_43, hc90050_44, hc90050_45, hc90050_50, G, (by rw [hc55]; exact bs35), B36, B37, E35⟩
    ·refine WC.skip ?_
     exact ⟨G, hc90050_0, hc90050_2, hc90050_4, hc90050_5, hc90050_6, hc90050_7, hc90050_8, hc90050_9, hc90050_11, hc90050_12, hc90050_13, hc90050_14, hc90050_17, hc90050_18, hc90050_19, hc90050_20, hc90050_21, hc90050_22, hc90050_23, hc90050_24, hc90050_25, hc90050_26, hc90050_27, hc90050_28, hc90050_29, hc90050_30, hc90050_31, hc90050_32, hc90050_33, hc90050_34, hc90050_35, hc90050_36, hc90050_37, hc90050_38, hc90050_39, hc90050_40, hc90050_41, hc90050_42, hc90050_43, hc90050_44, hc90050_45, hc90050_50, G, (by rw [hc55]; exact h6_2), h2_2, hR_2, hE_2⟩
   rintro fc90055 wk3 ⟨hc90055_0, hc90055_2, hc90055_4, hc90055_5, hc90055_6, hc90055_7, hc90055_8, hc90055_9, hc90055_11, hc90055_12, hc90055_13, hc90055_14, hc90055_17, hc90055_18, hc90055_19, hc90055_20, hc90055_21, hc90055_22, hc90055_23, hc90055_24, hc90055_25, hc90055_26, hc90055_27, hc90055_28, hc90055_29, hc90055_30, hc90055_31, hc90055_32, hc90055_33, hc90055_34, hc90055_35, hc90055_36, hc90055_37, hc90055_38, hc90055_39, hc90055_40, hc90055_41, hc90055_42, hc90055_43, hc90055_44, hc90055_45, hc90055_50, hc90055_55, h6_3, h2_3, hR_3, hE_3⟩
   refine Sr (Ls [U8 ((BitVec.ofNat 8 (i + 1))), U8 ((decReg (rvAt (i + 1)).form.rd (7, 5) x)), U8 ((decReg (rvAt (i + 1)).form.rs1 (15, 5) x)), U8 ((decReg (rvAt (i + 1)).form.rs2 (20, 5) x)), I64 ((number (rvAt (i + 1)).form x))] hc90055_6 ag104 sz104 h6_3 (WL.storeS (v := .agg #[U8 ((BitVec.ofNat 8 (i + 1))), U8 ((decReg (rvAt (i + 1)).form.rd (7, 5) x)), U8 ((decReg (rvAt (i + 1)).form.rs1 (15, 5) x)), U8 ((decReg (rvAt (i + 1)).form.rs2 (20, 5) x)), I64 ((number (rvAt (i + 1)).form x))]) hc90055_2 G h2_3 G sz104 G G ?_))
   intro ws38 ms38 bs38 zs38
   have E38 : Ext w ws38 := Mod.then hE_3 ms38 (fun i hi (e : i = b2) => absurd hi (by omega))
   refine Ae (IN 0) (Ni (WC.ret ?_))
   exact ⟨_, Res.cellTmp (v' := IN 0) G hc90055_2 (loadVar_agg [U8 ((BitVec.ofNat 8 (i + 1))), U8 ((decReg (rvAt (i + 1)).form.rd (7, 5) x)), U8 ((decReg (rvAt (i + 1)).form.rs1 (15, 5) x)), U8 ((decReg (rvAt (i + 1)).form.rs2 (20, 5) x)), I64 ((number (rvAt (i + 1)).form x))] ag104 sz104 G (bs38.sub (o := 0) G)) G, by rw [hd1, hd2]; rfl, E38⟩
 ·obtain ⟨hd1, hd2⟩ := dec_miss (x := x) (fun j hj => hl j (by have := of_decide_eq_false hc14; omega))
  refine WC.exit (Sr (Bl (.agg #[Z1, Z1, Z1, Z1, IN 0]) [] (WL.storeS (v := .agg #[Z1, Z1, Z1, Z1, IN 0]) h2_1 G h2 G sz104 G G ?_)))
  intro ws39 ms39 bs39 zs39
  have E39 : Ext w ws39 := Mod.then hE ms39 (fun i hi (e : i = b2) => absurd hi (by omega))
  refine Ae (IN 100) (Ni (WC.ret ?_))
  exact ⟨_, Res.cellTmp (v' := IN 100) G h2_1 (loadVar_agg [Z1, Z1, Z1, Z1, IN 0] ag104 sz104 G (bs39.sub (o := 0) G)) G, by rw [hd1, hd2]; rfl, E39⟩
end Go.Proofs.S
end
section
namespace Go.Ux.Mach
open Go Go.Ux
def refCells (cv dv sv iv : Value) (x : Nat → BitVec 64) (pc : BitVec 64) (ev : Value) (en tr : Bool) (st : Value) : Array Value := #[cv, dv, sv, iv, U64 (x 0), U64 (x 1), U64 (x 2), U64 (x 3), U64 (x 4), U64 (x 5), U64 (x 6), U64 (x 7), U64 (x 8), U64 (x 9), U64 (x 10), U64 (x 11), U64 (x 12), U64 (x 13), U64 (x 14), U64 (x 15), U64 (x 16), U64 (x 17), U64 (x 18), U64 (x 19), U64 (x 20), U64 (x 21), U64 (x 22), U64 (x 23), U64 (x 24), U64 (x 25), U64 (x 26), U64 (x 27), U64 (x 28), U64 (x 29), U64 (x 30), U64 (x 31), U64 pc, ev, .bool en, .bool tr, st]
theorem refCells_x (cv dv sv iv : Value) (x : Nat → BitVec 64) (pc : BitVec 64) (ev : Value) (en tr : Bool) (st : Value) {i : Nat} (h : i < 32) : (refCells cv dv sv iv x pc ev en tr st)[4 + i]? = some (U64 (x i)) := by
 match i, h with
 | 0, _ => rfl
 | 1, _ => rfl
 | 2, _ => rfl
 | 3, _ => rfl
 | 4, _ => rfl
 | 5, _ => rfl
 | 6, _ => rfl
 | 7, _ => rfl
 | 8, _ => rfl
 | 9, _ => rfl
 | 10, _ => rfl
 | 11, _ => rfl
 | 12, _ => rfl
 | 13, _ => rfl
 | 14, _ => rfl
 | 15, _ => rfl
 | 16, _ => rfl
 | 17, _ => rfl
 | 18, _ => rfl
 | 19, _ => rfl
 | 20, _ => rfl
 | 21, _ => rfl
 | 22, _ => rfl
 | 23, _ => rfl
 | 24, _ => rfl
 | 25, _ => rfl
 | 26, _ => rfl
 | 27, _ => rfl
 | 28, _ => rfl
 | 29, _ => rfl
 | 30, _ => rfl
 | 31, _ => rfl
 | n + 32, h => omega
def whereR (n : Nat) (addr : BitVec 64) (size : Nat) : Nat × Nat :=
 if addr.toNat % size ≠ 0 then (0, 0)
 else if 4194304 ≤ addr.toNat ∧ addr.toNat < 4194304 + n ∧ addr.toNat + size ≤ 4194304 + n then (1, addr.toNat - 4194304)
 else if 8323072 ≤ addr.toNat ∧ addr.toNat < 8388608 then (2, addr.toNat - 8323072)
 else (0, 0)
theorem whereR_eq (n : Nat) (addr : BitVec 64) (size : Nat) (h : size = 1 ∨ size = 2 ∨ size = 4 ∨ size = 8) :
  whereR n addr size = match whereM n addr size with
   | none => (0, 0)
   | some (true, o) => (1, o)
   | some (false, o) => (2, o) := by
 unfold whereR whereM
 by_cases h1 : addr.toNat % size ≠ 0
 ·rw [if_pos h1, if_pos h1]
 rw [if_neg h1, if_neg h1]
 have hs : 0 < size := by omega
 by_cases h2 : 4194304 ≤ addr.toNat ∧ addr.toNat < 4194304 + n ∧ addr.toNat + size ≤ 4194304 + n
 ·rw [if_pos h2, if_pos (show 4194304 ≤ addr.toNat ∧ addr.toNat - 4194304 < n ∧ size ≤ n - (addr.toNat - 4194304) by omega)]
 rw [if_neg h2, if_neg (show ¬ (4194304 ≤ addr.toNat ∧ addr.toNat - 4194304 < n ∧ size ≤ n - (addr.toNat - 4194304)) by omega)]
 by_cases h3 : 8323072 ≤ addr.toNat ∧ addr.toNat < 8388608
 ·have h1' : addr.toNat % size = 0 := by omega
  have h4 : 8323072 ≤ addr.toNat ∧ addr.toNat - 8323072 < 65536 ∧ size ≤ 65536 - (addr.toNat - 8323072) := by
   rcases h with rfl | rfl | rfl | rfl <;> omega
  rw [if_pos h3, if_pos h4]
 ·rw [if_neg h3, if_neg (show ¬ (8323072 ≤ addr.toNat ∧ addr.toNat - 8323072 < 65536 ∧ size ≤ 65536 - (addr.toNat - 8323072)) by omega)]
def loadT (f : Nat → BitVec 8) (o size : Nat) : Nat → BitVec 64
 | 0 => 0#64
 | k + 1 => (loadT f o size k <<< 8) + (f (o + (size - 1 - k))).setWidth 64
theorem shl_or (a : BitVec 64) (b : BitVec 8) : (a <<< 8) + b.setWidth 64 = (a <<< 8) ||| b.setWidth 64 := by
 apply BitVec.add_eq_or_of_and_eq_zero
 apply BitVec.eq_of_getLsbD_eq
 intro i hi
 simp only [BitVec.getLsbD_and, BitVec.getLsbD_shiftLeft, BitVec.getLsbD_setWidth, BitVec.getLsbD_zero]
 by_cases h : i < 8
 ·simp [h]
 ·rw [BitVec.getLsbD_of_ge b i (by omega)]; simp
theorem loadT_eq (f : Nat → BitVec 8) (o size : Nat) : ∀ k, loadT f o size k = loadR f o size k
 | 0 => rfl
 | k + 1 => by show (loadT f o size k <<< 8) + _ = (loadR f o size k <<< 8) ||| _; rw [loadT_eq f o size k, shl_or]
end Go.Ux.Mach
end
section
namespace Go.Proofs.S
open Go Go.Ux Go.Ux.Mach Go.Proofs Go.Proofs.M Go.Ux.Image
set_option linter.unusedVariables false
abbrev RCells (cv dv sv iv ev : Value) (M : MS) : Array Value := refCells cv dv sv iv M.x M.pc ev M.fin.isSome (M.fin == some true) (I64 M.steps)
structure RT (T : Nat → Nat) (w : World) (b : Nat) (M : MS) (ws : List (BitVec 32)) (cv dv sv iv ev : Value) : Prop where
 cm : M.code = ws.map decW
 code : Sl w cv 1 ws.length (wordCells ws)
 data : Ux.Own w 1 dv M.n (bsV M.d M.n)
 stk : Ux.Own w 1 sv 65536 (bsV M.s 65536)
 input : Sl w iv 1 M.input.length (M.input.map I64)
 evs : Ux.Own w 2 ev M.events.length (evV M.events)
 tb : T b = 1
 td : ∀ g, dv.ownBlock = some g → T g = 3
 ts : ∀ g, sv.ownBlock = some g → T g = 4
 tc : ∀ g, cv.ownBlock = some g → T g = 5
 ti : 0 < M.input.length → ∀ g, iv.ownBlock = some g → T g = 6
 te : ∀ g, ev.ownBlock = some g → T g = 7
 lt : ∀ k, T k ≠ 0 → k < w.heap.size
 n_le : M.n ≤ 524288
def RR (T : Nat → Nat) (w : World) (b : Nat) (M : MS) (ws : List (BitVec 32)) : Prop :=
 ∃ cv dv sv iv ev, Blk w b (RCells cv dv sv iv ev M) 70 ∧ RT T w b M ws cv dv sv iv ev
theorem RT.mod {T : Nat → Nat} {w w' : World} {b : Nat} {M : MS} {ws : List (BitVec 32)} {cv dv sv iv ev : Value} (h : RT T w b M ws cv dv sv iv ev) {O : Nat → Prop} (m : Mod O w w') (hO : ∀ k, T k ≠ 0 → T k ≠ 1 → ¬ O k) : RT T w' b M ws cv dv sv iv ev where
 cm := h.cm
 code := h.code.mod' m fun g e => hO _ (by rw [h.tc g e]; decide) (by rw [h.tc g e]; decide)
 data := h.data.mod m fun g e => hO _ (by rw [h.td g e]; decide) (by rw [h.td g e]; decide)
 stk := h.stk.mod m fun g e => hO _ (by rw [h.ts g e]; decide) (by rw [h.ts g e]; decide)
 input := h.input.modp m fun h0 g e => hO _ (by rw [h.ti h0 g e]; decide) (by rw [h.ti h0 g e]; decide)
 evs := h.evs.mod m fun g e => hO _ (by rw [h.te g e]; decide) (by rw [h.te g e]; decide)
 tb := h.tb
 td := h.td
 ts := h.ts
 tc := h.tc
 ti := h.ti
 te := h.te
 lt := fun k hk => Nat.lt_of_lt_of_le (h.lt k hk) m.size
 n_le := h.n_le
theorem RR.mod {T : Nat → Nat} {w w' : World} {b : Nat} {M : MS} {ws : List (BitVec 32)} (h : RR T w b M ws) {O : Nat → Prop} (m : Mod O w w') (hO : ∀ k, T k ≠ 0 → ¬ O k) : RR T w' b M ws := by
 obtain ⟨cv, dv, sv, iv, ev, hb, ht⟩ := h
 exact ⟨cv, dv, sv, iv, ev, hb.mod m (hO _ (by rw [ht.tb]; decide)), ht.mod m fun k h1 _ => hO k h1⟩
theorem RR.ext {T : Nat → Nat} {w w' : World} {b : Nat} {M : MS} {ws : List (BitVec 32)} (h : RR T w b M ws) (m : Ext w w') : RR T w' b M ws := h.mod m fun _ _ x => x
theorem RR.lt {T : Nat → Nat} {w : World} {b : Nat} {M : MS} {ws : List (BitVec 32)} (h : RR T w b M ws) : ∀ k, T k ≠ 0 → k < w.heap.size := by
 obtain ⟨cv, dv, sv, iv, ev, hb, ht⟩ := h; exact ht.lt
def TurnR (T : Nat → Nat) (w : World) (b : Nat) (M : MS) (ws : List (BitVec 32)) (w' : World) : Prop :=
 ∃ T', RR T' w' b M ws ∧ Mod (Fp T) w w' ∧ ∀ k, T' k ≠ 0 → T k ≠ 0 ∨ w.heap.size ≤ k
theorem RT.regs {T : Nat → Nat} {w : World} {b : Nat} {M : MS} {ws : List (BitVec 32)} {cv dv sv iv ev : Value} (h : RT T w b M ws cv dv sv iv ev) (x : Nat → BitVec 64) (pc st : BitVec 64) (fin : Option Bool) : RT T w b { M with x := x, pc := pc, steps := st, fin := fin } ws cv dv sv iv ev :=
 ⟨h.cm, h.code, h.data, h.stk, h.input, h.evs, h.tb, h.td, h.ts, h.tc, h.ti, h.te, h.lt, h.n_le⟩
theorem RT.inp {T : Nat → Nat} {w : World} {b : Nat} {M : MS} {ws : List (BitVec 32)} {cv dv sv iv ev iv' : Value} {inp : List (BitVec 64)} (h : RT T w b M ws cv dv sv iv ev) (hi : Sl w iv' 1 inp.length (inp.map I64)) (ht : iv'.ownBlock = iv.ownBlock) (hl : 0 < inp.length → 0 < M.input.length) : RT T w b { M with input := inp } ws cv dv sv iv' ev :=
 ⟨h.cm, h.code, h.data, h.stk, hi, h.evs, h.tb, h.td, h.ts, h.tc, fun h0 g e => h.ti (hl h0) g (ht ▸ e), h.te, h.lt, h.n_le⟩
theorem RT.own {T : Nat → Nat} {w w' : World} {b : Nat} {M : MS} {ws : List (BitVec 32)} {cv dv sv iv ev : Value} (h : RT T w b M ws cv dv sv iv ev) (m : Mod (fun k => T k = 1) w w') : RT T w' b M ws cv dv sv iv ev := h.mod m fun k _ h1 e => h1 e
theorem TurnR.own {T : Nat → Nat} {w w' : World} {b : Nat} {M : MS} {ws : List (BitVec 32)} (h : RR T w' b M ws) (m : Mod (Fp T) w w') : TurnR T w b M ws w' := ⟨T, h, m, fun _ h => .inl h⟩
theorem TurnR.refl {T : Nat → Nat} {w : World} {b : Nat} {M : MS} {ws : List (BitVec 32)} (h : RR T w b M ws) : TurnR T w b M ws w := ⟨T, h, Mod.refl _ _, fun _ h => .inl h⟩
theorem TurnR.ext {T : Nat → Nat} {w w' w2 : World} {b : Nat} {M : MS} {ws : List (BitVec 32)} (h : TurnR T w b M ws w') (m : Ext w' w2) : TurnR T w b M ws w2 := by
 obtain ⟨T', h1, h2, h3⟩ := h
 exact ⟨T', h1.ext m, h2.trans (Mod.ext m), h3⟩
theorem TurnR.trans {T T1 : Nat → Nat} {w w1 w2 : World} {b : Nat} {M2 : MS} {ws : List (BitVec 32)} (m : Mod (Fp T) w w1) (hs : ∀ k, T1 k ≠ 0 → T k ≠ 0 ∨ w.heap.size ≤ k) (h : TurnR T1 w1 b M2 ws w2) : TurnR T w b M2 ws w2 := by
 obtain ⟨T2, h1, h2, h3⟩ := h
 have hz := m.size
 refine ⟨T2, h1, m.then h2 fun i hi e => ?_, fun k hk => ?_⟩
 ·rcases hs i e with h | h
  ·exact h
  ·omega
 ·rcases h3 k hk with h | h
  ·exact hs k h
  ·exact .inr (by omega)
theorem RT.ev {T : Nat → Nat} {w w' : World} {b : Nat} {M : MS} {ws : List (BitVec 32)} {cv dv sv iv ev ev' : Value} {l : List (BitVec 8 × BitVec 64)} (h : RT T w b M ws cv dv sv iv ev) {O : Nat → Prop} (m : Mod O w w') (hO : ∀ k, T k ≠ 0 → T k ≠ 1 → T k ≠ 7 → ¬ O k)
  (ho : Ux.Own w' 2 ev' l.length (evV l)) (hl : LocV w ev ev') (h0 : 0 < l.length) : RT (fun k => if ev'.ownBlock = some k then 7 else T k) w' b { M with events := l } ws cv dv sv iv ev' := by
 have ne : ∀ k, T k ≠ 0 → T k ≠ 7 → (if ev'.ownBlock = some k then 7 else T k) = T k := fun k h1 h2 => by
  rw [if_neg]
  intro e
  rcases hl with hl | ⟨g, hl, hg⟩
  ·rw [hl] at e; exact h2 (h.te k e)
  ·rw [hl] at e; cases e; have := h.lt k h1; omega
 refine ⟨h.cm, ?_, ?_, ?_, ?_, ho, ?_, ?_, ?_, ?_, ?_, ?_, ?_, h.n_le⟩
 ·exact h.code.mod' m fun g e => hO _ (by rw [h.tc g e]; decide) (by rw [h.tc g e]; decide) (by rw [h.tc g e]; decide)
 ·exact h.data.mod m fun g e => hO _ (by rw [h.td g e]; decide) (by rw [h.td g e]; decide) (by rw [h.td g e]; decide)
 ·exact h.stk.mod m fun g e => hO _ (by rw [h.ts g e]; decide) (by rw [h.ts g e]; decide) (by rw [h.ts g e]; decide)
 ·exact h.input.modp m fun h0 g e => hO _ (by rw [h.ti h0 g e]; decide) (by rw [h.ti h0 g e]; decide) (by rw [h.ti h0 g e]; decide)
 ·show (if _ then _ else _) = 1; rw [ne _ (by rw [h.tb]; decide) (by rw [h.tb]; decide)]; exact h.tb
 ·intro g e; show (if _ then _ else _) = 3; rw [ne _ (by rw [h.td g e]; decide) (by rw [h.td g e]; decide)]; exact h.td g e
 ·intro g e; show (if _ then _ else _) = 4; rw [ne _ (by rw [h.ts g e]; decide) (by rw [h.ts g e]; decide)]; exact h.ts g e
 ·intro g e; show (if _ then _ else _) = 5; rw [ne _ (by rw [h.tc g e]; decide) (by rw [h.tc g e]; decide)]; exact h.tc g e
 ·intro h0 g e; show (if _ then _ else _) = 6; rw [ne _ (by rw [h.ti h0 g e]; decide) (by rw [h.ti h0 g e]; decide)]; exact h.ti h0 g e
 ·intro g e; show (if _ then _ else _) = 7; rw [if_pos e]
 ·intro k hk
  by_cases e : ev'.ownBlock = some k
  ·exact ho.lt h0 (by decide) e
  ·have hk' : T k ≠ 0 := by intro e'; apply hk; show (if _ then _ else _) = 0; rw [if_neg e]; exact e'
   exact Nat.lt_of_lt_of_le (h.lt k hk') m.size
theorem turnR_ev {T : Nat → Nat} {w w' : World} {b : Nat} {M : MS} {ws : List (BitVec 32)} {cv dv sv iv ev ev' : Value} {l : List (BitVec 8 × BitVec 64)} (h : RT T w b M ws cv dv sv iv ev) (m : Mod (fun k => T k = 1 ∨ T k = 7) w w')
  (ho : Ux.Own w' 2 ev' l.length (evV l)) (hl : LocV w ev ev') (h0 : 0 < l.length) (hb : Blk w' b (RCells cv dv sv iv ev' M) 70) : TurnR T w b { M with events := l } ws w' := by
 refine ⟨_, ⟨cv, dv, sv, iv, ev', hb, h.ev m (fun k _ h1 h7 e => by rcases e with e | e; exact h1 e; exact h7 e) ho hl h0⟩, m.imp (fun k _ e => by show T k ≠ 0; rcases e with e | e <;> (rw [e]; decide)), ?_⟩
 intro k hk
 by_cases e : ev'.ownBlock = some k
 ·rcases hl with hl | ⟨g, hl, hg⟩
  ·rw [hl] at e; exact .inl (by rw [h.te k e]; decide)
  ·rw [hl] at e; cases e; exact .inr hg
 ·exact .inl (by intro e'; apply hk; show (if _ then _ else _) = 0; rw [if_neg e]; exact e')
theorem turnR_area {T : Nat → Nat} {w w' : World} {b : Nat} {M : MS} {ws : List (BitVec 32)} {cv dv sv iv ev : Value} (h : RT T w b M ws cv dv sv iv ev) (hb : Blk w b (RCells cv dv sv iv ev M) 70) (k : Bool) {off size : Nat} {v : BitVec 64} (m : Mod (At (bif k then dv else sv)) w w') (ho : Ux.Own w' 1 (bif k then dv else sv) (bif k then M.n else 65536) (bsV (storeB (bif k then M.d else M.s) off v size) (bif k then M.n else 65536))) : TurnR T w b (storeM M k off size v) ws w' := by
 have av : ∀ g j, T g = j → j ≠ 3 → j ≠ 4 → ¬ At (bif k then dv else sv) g := fun g j e h3 h4 e' => by
  cases k
  ·have := h.ts g e'; omega
  ·have := h.td g e'; omega
 have hm : Mod (Fp T) w w' := m.imp fun g _ e => by
  show T g ≠ 0
  cases k
  ·rw [h.ts g e]; decide
  ·rw [h.td g e]; decide
 have hc := h.code.mod' m fun g e => av g _ (h.tc g e) (by decide) (by decide)
 have hi := h.input.modp m fun h0 g e => av g _ (h.ti h0 g e) (by decide) (by decide)
 have he := h.evs.mod m fun g e => av g _ (h.te g e) (by decide) (by decide)
 have hl : ∀ k, T k ≠ 0 → k < w'.heap.size := fun k hk => Nat.lt_of_lt_of_le (h.lt k hk) m.size
 have hb' := hb.mod m (av b _ h.tb (by decide) (by decide))
 cases k
 ·have hd := h.data.mod m fun g e e' => by have h1 := h.td g e; have h2 := h.ts g e'; omega
  exact TurnR.own ⟨cv, dv, sv, iv, ev, hb', h.cm, hc, hd, ho, hi, he, h.tb, h.td, h.ts, h.tc, h.ti, h.te, hl, h.n_le⟩ hm
 ·have hs := h.stk.mod m fun g e e' => by have h1 := h.ts g e; have h2 := h.td g e'; omega
  exact TurnR.own ⟨cv, dv, sv, iv, ev, hb', h.cm, hc, ho, hs, hi, he, h.tb, h.td, h.ts, h.tc, h.ti, h.te, hl, h.n_le⟩ hm
theorem refCells_set (cv dv sv iv : Value) (x : Nat → BitVec 64) (pc : BitVec 64) (ev : Value) (en tr : Bool) (st : Value) {i : Nat} (h : i < 32) (v : BitVec 64) : (refCells cv dv sv iv x pc ev en tr st).setIfInBounds (4 + i) (U64 v) = refCells cv dv sv iv (updR x i v) pc ev en tr st := by
 apply Array.ext_getElem?
 intro k
 rw [Array.getElem?_setIfInBounds]
 by_cases e : 4 + i = k
 ·subst e
  rw [if_pos rfl, refCells_x _ _ _ _ _ _ _ _ _ _ h, if_pos (by show 4 + i < 41; omega)]
  simp only [updR, if_true]
 ·rw [if_neg e]
  by_cases hk : 4 ≤ k ∧ k < 36
  ·obtain ⟨j, rfl⟩ : ∃ j, k = 4 + j := ⟨k - 4, by omega⟩
   rw [refCells_x _ _ _ _ _ _ _ _ _ _ (by omega), refCells_x _ _ _ _ _ _ _ _ _ _ (by omega)]
   simp only [updR]; rw [if_neg (by omega)]
  ·by_cases h41 : k < 41
   ·rcases (by omega : k = 0 ∨ k = 1 ∨ k = 2 ∨ k = 3 ∨ k = 36 ∨ k = 37 ∨ k = 38 ∨ k = 39 ∨ k = 40) with rfl | rfl | rfl | rfl | rfl | rfl | rfl | rfl | rfl <;> rfl
   ·rw [Array.getElem?_eq_none (by show 41 ≤ k; omega), Array.getElem?_eq_none (by show 41 ≤ k; omega)]
open Classical in
theorem rr_new {w w' : World} {b b8 b9 c8 c9 : Nat} {cv iv : Value} {I : Img} {inp : List (BitVec 64)} (hb : Blk w' b (refCells cv (.slice (some ⟨b8, 0, none⟩) I.entry.toNat c8) (.slice (some ⟨b9, 0, none⟩) 65536 c9) iv (newM I inp).x 65536#64 (.slice none 0 0) false false (IN 0)) 70)
  (hc : Ux.Own w' 1 cv I.words.length (wordCells I.words)) (hd : Ux.Own w' 1 (.slice (some ⟨b8, 0, none⟩) I.entry.toNat c8) I.entry.toNat (bsV (fun _ => 0#8) I.entry.toNat)) (hs : Ux.Own w' 1 (.slice (some ⟨b9, 0, none⟩) 65536 c9) 65536 (bsV (fun _ => 0#8) 65536)) (hi : Ux.Own w' 1 iv inp.length (inp.map I64))
  (h8 : w.heap.size ≤ b8) (h9 : w.heap.size ≤ b9) (h89 : b8 ≠ b9) (l8 : b8 < b) (l9 : b9 < b) (h8w : b8 < w'.heap.size) (h9w : b9 < w'.heap.size) (hcl : ∀ g, cv.ownBlock = some g → b < g) (hil : ∀ g, iv.ownBlock = some g → b < g) (hci : 0 < inp.length → ∀ g, cv.ownBlock = some g → iv.ownBlock ≠ some g) (hw : 0 < I.words.length) (he : I.entry.toNat ≤ 524288) :
  ∃ T, RR T w' b (newM I inp) I.words ∧ ∀ k, T k ≠ 0 → w.heap.size ≤ k := by
 refine ⟨fun k => if k = b then 1 else if k = b8 then 3 else if k = b9 then 4 else if cv.ownBlock = some k then 5 else if 0 < inp.length ∧ iv.ownBlock = some k then 6 else 0, ⟨cv, _, _, iv, _, hb, G, hc.sl, hd, hs, hi.sl, Own.nil _ 2, ?_, ?_, ?_, ?_, ?_, ?_, ?_, he⟩, ?_⟩
 ·show (if b = b then 1 else _) = 1; rw [if_pos rfl]
 ·intro g e; cases e
  show (if b8 = b then 1 else if b8 = b8 then 3 else _) = 3
  rw [if_neg (by omega), if_pos rfl]
 ·intro g e; cases e
  show (if b9 = b then 1 else if b9 = b8 then 3 else if b9 = b9 then 4 else _) = 4
  rw [if_neg (by omega), if_neg (Ne.symm h89), if_pos rfl]
 ·intro g e
  have := hcl g e
  show (if g = b then 1 else if g = b8 then 3 else if g = b9 then 4 else if cv.ownBlock = some g then 5 else _) = 5
  rw [if_neg (by omega), if_neg (by omega), if_neg (by omega), if_pos e]
 ·intro h0 g e
  have := hil g e
  show (if g = b then 1 else if g = b8 then 3 else if g = b9 then 4 else if cv.ownBlock = some g then 5 else if 0 < inp.length ∧ iv.ownBlock = some g then 6 else 0) = 6
  rw [if_neg (by omega), if_neg (by omega), if_neg (by omega), if_neg (fun e' => hci h0 g e' e), if_pos ⟨h0, e⟩]
 ·intro g e; cases e
 ·intro k hk
  by_cases e1 : k = b
  ·subst e1; exact hb.lt
  by_cases e2 : k = b8
  ·subst e2; exact h8w
  by_cases e3 : k = b9
  ·subst e3; exact h9w
  by_cases e4 : cv.ownBlock = some k
  ·exact hc.lt hw (by decide) e4
  by_cases e5 : 0 < inp.length ∧ iv.ownBlock = some k
  ·exact hi.lt e5.1 (by decide) e5.2
  ·exfalso; apply hk; show (if k = b then 1 else if k = b8 then 3 else if k = b9 then 4 else if cv.ownBlock = some k then 5 else if 0 < inp.length ∧ iv.ownBlock = some k then 6 else 0) = 0
   rw [if_neg e1, if_neg e2, if_neg e3, if_neg e4, if_neg e5]
 ·intro k hk
  by_cases e1 : k = b
  ·omega
  by_cases e2 : k = b8
  ·omega
  by_cases e3 : k = b9
  ·omega
  by_cases e4 : cv.ownBlock = some k
  ·have := hcl k e4; omega
  by_cases e5 : 0 < inp.length ∧ iv.ownBlock = some k
  ·have := hil k e5.2; omega
  ·exfalso; apply hk; show (if k = b then 1 else if k = b8 then 3 else if k = b9 then 4 else if cv.ownBlock = some k then 5 else if 0 < inp.length ∧ iv.ownBlock = some k then 6 else 0) = 0
   rw [if_neg e1, if_neg e2, if_neg e3, if_neg e4, if_neg e5]
end Go.Proofs.S
end
section
set_option linter.unusedSimpArgs false
set_option linter.unusedVariables false
namespace Go.Proofs.S
open Go Go.Ux Go.Ux.Mach Go.Proofs
open Tryz
theorem fo70_1 : fieldOff prog 70 1 = some 1 := by kernel_rfl
theorem sub_toNat {a c : BitVec 64} (h : c.toNat ≤ a.toNat) : (a - c).toNat = a.toNat - c.toNat := by
 have h1 := a.isLt; have h2 := c.isLt
 rw [BitVec.toNat_sub, show 2 ^ 64 - c.toNat + a.toNat = 2 ^ 64 + (a.toNat - c.toNat) by omega, Nat.add_mod_left, Nat.mod_eq_of_lt (by omega)]
theorem size64 {size : Nat} (h : size = 1 ∨ size = 2 ∨ size = 4 ∨ size = 8) : (BitVec.ofNat 64 size).toNat = size := by rw [BitVec.toNat_ofNat]; omega
theorem rem_zero {addr : BitVec 64} {size : Nat} (h : size = 1 ∨ size = 2 ∨ size = 4 ∨ size = 8) : (addr % BitVec.ofNat 64 size != 0#64) = decide (addr.toNat % size ≠ 0) := by
 have e : (addr % BitVec.ofNat 64 size).toNat = addr.toNat % size := by rw [BitVec.toNat_umod, size64 h]
 rw [← e]
 by_cases h0 : addr % BitVec.ofNat 64 size = 0#64
 ·rw [h0]; rfl
 ·have h1 : (addr % BitVec.ofNat 64 size).toNat ≠ 0 := fun k => h0 (BitVec.eq_of_toNat_eq k)
  rw [decide_eq_true h1]; simpa using h0
theorem end64 {n : Nat} (hn : n ≤ 524288) : (4194304#64 + BitVec.ofNat 64 n).toNat = 4194304 + n := by rw [BitVec.toNat_add, BitVec.toNat_ofNat, BitVec.toNat_ofNat]; omega
theorem add64 {addr : BitVec 64} {size n : Nat} (h : size = 1 ∨ size = 2 ∨ size = 4 ∨ size = 8) (h1 : addr.toNat < 4194304 + n) (hn : n ≤ 524288) : (addr + BitVec.ofNat 64 size).toNat = addr.toNat + size := by rw [BitVec.toNat_add, size64 h]; omega
theorem data_b {addr : BitVec 64} {size n : Nat} (h : size = 1 ∨ size = 2 ∨ size = 4 ∨ size = 8) (hn : n ≤ 524288) :
  (BitVec.ule 4194304#64 addr && (BitVec.ult addr (4194304#64 + BitVec.ofNat 64 n) && BitVec.ule (addr + BitVec.ofNat 64 size) (4194304#64 + BitVec.ofNat 64 n))) = decide (4194304 ≤ addr.toNat ∧ addr.toNat < 4194304 + n ∧ addr.toNat + size ≤ 4194304 + n) := by
 have e0 : (4194304#64).toNat = 4194304 := rfl
 simp only [BitVec.ule, BitVec.ult, end64 hn, e0, Bool.decide_and]
 by_cases h1 : addr.toNat < 4194304 + n
 ·rw [add64 h h1 hn]
 ·rw [decide_eq_false h1]; simp
theorem stack_b {addr : BitVec 64} : (BitVec.ule 8323072#64 addr && BitVec.ult addr 8388608#64) = decide (8323072 ≤ addr.toNat ∧ addr.toNat < 8388608) := by
 have e0 : (8323072#64).toNat = 8323072 := rfl
 have e1 : (8388608#64).toNat = 8388608 := rfl
 simp only [BitVec.ule, BitVec.ult, e0, e1, Bool.decide_and]
theorem where_r (addr : BitVec 64) (size : Nat) (b : Nat) (cv dv sv iv : Value) (x : Nat → BitVec 64) (pc : BitVec 64) (ev : Value) (en tr : Bool) (st : Value) (n : Nat) (d t : Nat → BitVec 8) (w : World) (hB : Blk w b (refCells cv dv sv iv x pc ev en tr st) 70) (hD : Sl w dv 1 n (bsV d n)) (hn : n ≤ 524288) (hz : size = 1 ∨ size = 2 ∨ size = 4 ∨ size = 8) : Cx 38 #[ptr b 0, U64 addr, IN size] w (.tuple #[IN (whereR n addr size).1, IN (whereR n addr size).2]) := by
 have hb1 : (4194304#64).toNat = 4194304 := rfl; have hb2 : (8323072#64).toNat = 8323072 := rfl; have hb3 : (8388608#64).toNat = 8388608 := rfl
 refine Co func38 G G ?_
 refine Sr (Ae (IN 0) (Ae (IN 0) (Ni (Sq (Sr (Me (U64 addr) (Me (IN size) (Cv G (ConvR.nu64 y3 y39) (Bn G G (BinR.remU64 (fun e => by have h := congrArg BitVec.toNat e; rw [size64 hz] at h; have h0 : (0#64).toNat = 0 := G; omega)) (Bn (vy := U64 0#64) G G BinR.neqU64 (Ni ?_)))))))))))
 refine WC.cond G (fun hc12 => ?_) (fun hc12 => ?_)
 ·have k1 : addr.toNat % size ≠ 0 := of_decide_eq_true ((rem_zero hz).symm.trans hc12)
  refine Sr (Ae (IN 0) (Ae (IN 0) (Ni (WC.ret ?_))))
  have hfin : (.tuple #[(IN 0), (IN 0)] : Value) = .tuple #[IN (whereR n addr size).1, IN (whereR n addr size).2] := by
   unfold whereR
   first
   | (rw [if_pos k1])
   | (rw [if_neg k1, if_pos k2, sub_toNat (by omega)]; rfl)
   | (rw [if_neg k1, if_neg k2, if_pos k3, sub_toNat (by omega)]; rfl)
   | (rw [if_neg k1, if_neg k2, if_neg k3])
  exact ⟨_, Rp G G G, hfin, Mod.refl _ _⟩
 ·have k1 : ¬ addr.toNat % size ≠ 0 := of_decide_eq_false ((rem_zero hz).symm.trans hc12)
  refine WC.skip (Sq (Sq ?_))
  refine WC.cut (fun f' w_ => f' 0 = ptr b 0 ∧ f' 1 = U64 addr ∧ f' 2 = IN size ∧ f' 6 = IN 0 ∧ f' 7 = IN 0 ∧ f' 8 = U64 addr ∧ f' 9 = IN size ∧ f' 10 = U64 (BitVec.ofNat 64 size) ∧ f' 11 = U64 ((addr % BitVec.ofNat 64 size)) ∧ f' 12 = .bool (((addr % BitVec.ofNat 64 size) != 0#64)) ∧ f' 39 = .bool (decide (4194304 ≤ addr.toNat ∧ addr.toNat < 4194304 + n ∧ addr.toNat + size ≤ 4194304 + n)) ∧ w = w_) ?_ ?_
  ·refine Rg (Me (U64 addr) (Bn (vy := U64 4194304#64) G G BinR.geqU64 (Me (.bool (BitVec.ule 4194304#64 addr)) ?_)))
   rcases Bool.eq_false_or_eq_true (BitVec.ule 4194304#64 addr) with hg15 | hg15
   ·refine Gy hg15 (Me (U64 addr) (Gy hg15 (Me (ptr b 0) (Gy hg15 (WL.nilCheck G G (Gy hg15 (Fa G fo70_1 (Gy hg15 (Le (hB.cell (j := 1) G) (Gy hg15 (WL.lenSl (sz := 1) (m := n) (xs := bsV d n) el45 G hD G (Gy hg15 (Cv G (ConvR.nu64 y3 y39) (Gy hg15 (Bn (vx := U64 4194304#64) G G BinR.addU64 (Gy hg15 (Bn G G BinR.lssU64 (Qt hg15 G (Me (.bool (BitVec.ult addr ((4194304#64 + BitVec.ofNat 64 n)))) ?_)))))))))))))))))))
    rcases Bool.eq_false_or_eq_true (BitVec.ult addr ((4194304#64 + BitVec.ofNat 64 n))) with hg26 | hg26
    ·refine Gy hg26 (Me (U64 addr) (Gy hg26 (Me (IN size) (Gy hg26 (Cv G (ConvR.nu64 y3 y39) (Gy hg26 (Bn G G BinR.addU64 (Gy hg26 (Me (ptr b 0) (Gy hg26 (WL.nilCheck G G (Gy hg26 (Fa G fo70_1 (Gy hg26 (Le (hB.cell (j := 1) G) (Gy hg26 (WL.lenSl (sz := 1) (m := n) (xs := bsV d n) el45 G hD G (Gy hg26 (Cv G (ConvR.nu64 y3 y39) (Gy hg26 (Bn (vx := U64 4194304#64) G G BinR.addU64 (Gy hg26 (Bn G G BinR.leqU64 ?_)))))))))))))))))))))))
     refine Qt hg26 G (Ni ?_)
     have hcut : (BitVec.ule ((addr + BitVec.ofNat 64 size)) ((4194304#64 + BitVec.ofNat 64 n))) = decide (4194304 ≤ addr.toNat ∧ addr.toNat < 4194304 + n ∧ addr.toNat + size ≤ 4194304 + n) := by rw [← data_b hz hn]; simp only [*, Bool.false_and, Bool.true_and, Bool.and_false, Bool.and_true]
     exact ⟨G, G, G, G, G, G, G, G, G, G, G, congrArg Value.bool hcut, G⟩
    ·refine Gz hg26 (Gz hg26 (Gz hg26 (Gz hg26 (Gz hg26 (Gz hg26 (Gz hg26 (Gz hg26 (Gz hg26 (Gz hg26 (Gz hg26 (Gz hg26 (Qf hg26 G (Ni ?_)))))))))))))
     have hcut : false = decide (4194304 ≤ addr.toNat ∧ addr.toNat < 4194304 + n ∧ addr.toNat + size ≤ 4194304 + n) := by rw [← data_b hz hn]; simp only [*, Bool.false_and, Bool.true_and, Bool.and_false, Bool.and_true]
     exact ⟨G, G, G, G, G, G, G, G, G, G, G, congrArg Value.bool hcut, G⟩
   ·refine Gz hg15 (Gz hg15 (Gz hg15 (Gz hg15 (Gz hg15 (Gz hg15 (Gz hg15 (Gz hg15 (Gz hg15 (Qf hg15 G (Me (.bool false) (Gx (Gx (Gx (Gx (Gx (Gx (Gx (Gx (Gx (Gx (Gx (Gx (Pf G ?_)))))))))))))))))))))))
    refine Ni ?_
    have hcut : false = decide (4194304 ≤ addr.toNat ∧ addr.toNat < 4194304 + n ∧ addr.toNat + size ≤ 4194304 + n) := by rw [← data_b hz hn]; simp only [*, Bool.false_and, Bool.true_and, Bool.and_false, Bool.and_true]
    exact ⟨G, G, G, G, G, G, G, G, G, G, G, congrArg Value.bool hcut, G⟩
  rintro fc3 _ ⟨hc3_0, hc3_1, hc3_2, hc3_6, hc3_7, hc3_8, hc3_9, hc3_10, hc3_11, hc3_12, hc3_39, rfl⟩
  refine WC.cond hc3_39 (fun hc39 => ?_) (fun hc39 => ?_)
  ·have k2 := of_decide_eq_true hc39
   refine Sr (Mv (U64 addr) hc3_1 (Bn (vy := U64 4194304#64) G G BinR.subU64 (Cv G (ConvR.toI y39 y3 (by rw [sub_toNat (by omega)]; omega)) (Ae (IN 1) (Ae (IN ((addr - 4194304#64).toNat)) (Ni (WC.ret ?_)))))))
   have hfin : (.tuple #[(IN 1), (IN ((addr - 4194304#64).toNat))] : Value) = .tuple #[IN (whereR n addr size).1, IN (whereR n addr size).2] := by
    unfold whereR
    first
    | (rw [if_pos k1])
    | (rw [if_neg k1, if_pos k2, sub_toNat (by omega)]; rfl)
    | (rw [if_neg k1, if_neg k2, if_pos k3, sub_toNat (by omega)]; rfl)
    | (rw [if_neg k1, if_neg k2, if_neg k3])
   exact ⟨_, Rp G G G, hfin, Mod.refl _ _⟩
  ·have k2 := of_decide_eq_false hc39
   refine WC.skip (Sq (Sq ?_))
   refine WC.cut (fun f' w_ => f' 0 = ptr b 0 ∧ f' 1 = U64 addr ∧ f' 2 = IN size ∧ f' 6 = IN 0 ∧ f' 7 = IN 0 ∧ f' 8 = U64 addr ∧ f' 9 = IN size ∧ f' 10 = U64 (BitVec.ofNat 64 size) ∧ f' 11 = U64 ((addr % BitVec.ofNat 64 size)) ∧ f' 12 = .bool (((addr % BitVec.ofNat 64 size) != 0#64)) ∧ f' 39 = .bool (decide (4194304 ≤ addr.toNat ∧ addr.toNat < 4194304 + n ∧ addr.toNat + size ≤ 4194304 + n)) ∧ f' 48 = .bool (decide (8323072 ≤ addr.toNat ∧ addr.toNat < 8388608)) ∧ w = w_) ?_ ?_
   ·refine Rg (Mv (U64 addr) hc3_1 (Bn (vy := U64 8323072#64) G G BinR.geqU64 (Me (.bool (BitVec.ule 8323072#64 addr)) ?_)))
    rcases Bool.eq_false_or_eq_true (BitVec.ule 8323072#64 addr) with hg45 | hg45
    ·refine Gy hg45 (Mv (U64 addr) hc3_1 (Gy hg45 (Bn (vy := U64 8388608#64) G G BinR.lssU64 (Qt hg45 G (Ni ?_)))))
     have hcut : (BitVec.ult addr 8388608#64) = decide (8323072 ≤ addr.toNat ∧ addr.toNat < 8388608) := by rw [← stack_b]; simp only [*, Bool.false_and, Bool.true_and, Bool.and_false, Bool.and_true]
     exact ⟨G, hc3_0, hc3_1, hc3_2, hc3_6, hc3_7, hc3_8, hc3_9, hc3_10, hc3_11, hc3_12, hc3_39, congrArg Value.bool hcut, G⟩
    ·refine Gz hg45 (Gz hg45 (Qf hg45 G (Ni ?_)))
     have hcut : false = decide (8323072 ≤ addr.toNat ∧ addr.toNat < 8388608) := by rw [← stack_b]; simp only [*, Bool.false_and, Bool.true_and, Bool.and_false, Bool.and_true]
     exact ⟨G, hc3_0, hc3_1, hc3_2, hc3_6, hc3_7, hc3_8, hc3_9, hc3_10, hc3_11, hc3_12, hc3_39, congrArg Value.bool hcut, G⟩
   rintro fc5 _ ⟨hc5_0, hc5_1, hc5_2, hc5_6, hc5_7, hc5_8, hc5_9, hc5_10, hc5_11, hc5_12, hc5_39, hc5_48, rfl⟩
   refine WC.cond hc5_48 (fun hc48 => ?_) (fun hc48 => ?_)
   ·have k3 := of_decide_eq_true hc48
    refine Sr (Mv (U64 addr) hc5_1 (Bn (vy := U64 8323072#64) G G BinR.subU64 (Cv G (ConvR.toI y39 y3 (by rw [sub_toNat (by omega)]; omega)) (Ae (IN 2) (Ae (IN ((addr - 8323072#64).toNat)) (Ni (WC.ret ?_)))))))
    have hfin : (.tuple #[(IN 2), (IN ((addr - 8323072#64).toNat))] : Value) = .tuple #[IN (whereR n addr size).1, IN (whereR n addr size).2] := by
     unfold whereR
     first
     | (rw [if_pos k1])
     | (rw [if_neg k1, if_pos k2, sub_toNat (by omega)]; rfl)
     | (rw [if_neg k1, if_neg k2, if_pos k3, sub_toNat (by omega)]; rfl)
     | (rw [if_neg k1, if_neg k2, if_neg k3])
    exact ⟨_, Rp G G G, hfin, Mod.refl _ _⟩
   ·have k3 := of_decide_eq_false hc48
    refine WC.skip (Sr (Ae (IN 0) (Ae (IN 0) (Ni (WC.ret ?_)))))
    have hfin : (.tuple #[(IN 0), (IN 0)] : Value) = .tuple #[IN (whereR n addr size).1, IN (whereR n addr size).2] := by
     unfold whereR
     first
     | (rw [if_pos k1])
     | (rw [if_neg k1, if_pos k2, sub_toNat (by omega)]; rfl)
     | (rw [if_neg k1, if_neg k2, if_pos k3, sub_toNat (by omega)]; rfl)
     | (rw [if_neg k1, if_neg k2, if_neg k3])
    exact ⟨_, Rp G G G, hfin, Mod.refl _ _⟩
end Go.Proofs.S
end
section
namespace Go.Proofs.S
open Go Go.Ux Go.Ux.Mach Go.Proofs Go.Proofs.M Go.Ux.Image
open Go.Proofs.N (doM loadsM)
end Go.Proofs.S
end
section
set_option linter.unusedSimpArgs false
set_option linter.unusedVariables false
namespace Go.Proofs.S
open Go Go.Ux Go.Ux.Mach Go.Proofs
open Tryz
theorem fo70_2 : fieldOff prog 70 2 = some 2 := by kernel_rfl
theorem load_r1 (addr : BitVec 64) (size o : Nat) (b : Nat) (cv dv sv iv : Value) (x : Nat → BitVec 64) (pc : BitVec 64) (ev : Value) (en tr : Bool) (st : Value) (n : Nat) (d t : Nat → BitVec 8) (w : World) (hB : Blk w b (refCells cv dv sv iv x pc ev en tr st) 70) (hD : Sl w dv 1 n (bsV d n)) (hn : n ≤ 524288) (hT : Sl w sv 1 65536 (bsV t 65536)) (hz : size = 1 ∨ size = 2 ∨ size = 4 ∨ size = 8) (hW : whereR n addr size = (1, o)) (ho : o + size ≤ n) : Cx 24 #[ptr b 0, U64 addr, IN size] w (.tuple #[U64 (loadT d o size size), .bool true]) := by
 refine Co func24 G G ?_
 refine Sr (Ae (U64 0#64) (Ae (.bool false) (Ni (Sr (Me (ptr b 0) (Me (U64 addr) (Me (IN size) (Ca (where_r addr size b cv dv sv iv x pc ev en tr st n d t _ hB (hD.ext' (Mod.refl _ _)) hn hz) ?_))))))))
 rintro _ wc17 ⟨rfl, ec17⟩
 rw [hW]
 have E1 : Ext w wc17 := ec17
 refine Me (.tuple #[IN 1, IN o]) (Et G G (Et G G (Ae (IN 1) (Ae (IN o) (Ni (Sr (Ae (U64 0#64) (Ni (Sq (Sr (Me (IN size) (Bn G G (BinR.subI (by omega)) (Ae (.int .i64 (((size : Nat) : Int) - (1 : Int))) (Ni (Bk ?_)))))))))))))))
 refine WC.loop (fun k f w_ => ∃ j, (k + j = size) ∧ f 0 = ptr b 0 ∧ f 2 = IN size ∧ f 8 = IN 1 ∧ f 9 = IN o ∧ f 10 = U64 (loadT d o size j) ∧ f 11 = .int .i64 ((((size : Nat) : Int) - 1 - ((j : Nat) : Int))) ∧ (Ext w w_)) size ?_ ?_
 ·exact ⟨0, by omega, G, G, G, G, G, (by rw [show (((size : Nat) : Int) - 1 - ((0 : Nat) : Int)) = ((size : Nat) : Int) - 1 by omega]; rfl), E1⟩
 rintro ka f1 wr ⟨j, hk, h0_1, h2_1, h8_1, h9_1, h10_1, h11_1, hE⟩
 refine Sq (Sr (Mv (.int .i64 ((((size : Nat) : Int) - 1 - ((j : Nat) : Int)))) h11_1 (Bn G G BinR.geq (Me (.bool (decide ((0 : Int) ≤ ((((size : Nat) : Int) - 1 - ((j : Nat) : Int)) : Int)))) ?_))))
 rcases Bool.eq_false_or_eq_true (decide ((0 : Int) ≤ ((((size : Nat) : Int) - 1 - ((j : Nat) : Int)) : Int))) with hg24 | hg24
 ·have hj : j < size := by have := of_decide_eq_true hg24; omega
  obtain ⟨bd, od, cd, ed, hcd⟩ := hD.at (by omega)
  refine Gy hg24 (Mv (IN 1) h8_1 (Gy hg24 (Bt G G BinR.gtr (by decide) (Qt hg24 G (Ni (Ct G (WC.skip (Sq (Bk (Sr (Ae (U8 0#8) (Ni (Sq (Sr (Mv (IN 1) h8_1 (Bt G G BinR.eql (by decide) (Ni (Ct G (Rg (Mv (ptr b 0) h0_1 (WL.nilCheck G G ?_)))))))))))))))))))))
  refine Fa G fo70_1 (Le ((hB.ext hE).cell (j := 1) G) (Mv (IN o) h9_1 (Mv (.int .i64 ((((size : Nat) : Int) - 1 - ((j : Nat) : Int)))) h11_1 (Bn G G ((show ((o : Nat) : Int) + (((size : Nat) : Int) - 1 - ((j : Nat) : Int)) = ((o + (size - 1 - j) : Nat) : Int) by omega) ▸ BinR.addI (by omega)) (WL.indexAddr (i := (o + (size - 1 - j))) (b := bd) (o := od) el45 sz5 (Eq.trans G ed) G (by omega) G (Lx G ((hcd.ext hE) ((o + (size - 1 - j)) * 1) _ (by rw [Nat.mul_one]; exact bsV_get d (by omega))) (Ae (U8 ((d (o + (size - 1 - j))))) (Ni (Rg (Mv (U64 (loadT d o size j)) h10_1 (Bn (vy := .int .u64 ((8 : Nat) : Int)) G G (BinR.shlU64 (s := 8)) (Me (U8 ((d (o + (size - 1 - j))))) (Cv G (ConvR.u8u64 y5 y39) (Bn G G BinR.addU64 (Ae (U64 (((loadT d o size j <<< 8) + ((d (o + (size - 1 - j)))).setWidth 64))) (Ni (Rg (Mv (.int .i64 ((((size : Nat) : Int) - 1 - ((j : Nat) : Int)))) h11_1 (Bn G G (BinR.subI (by omega)) (Ae (.int .i64 (((((size : Nat) : Int) - 1 - ((j : Nat) : Int)) : Int) - (1 : Int))) (Ni ?_)))))))))))))))))))))
  have h11 : (((size : Nat) : Int) - 1 - (((j + 1 : Nat)) : Int)) = ((((size : Nat) : Int) - 1 - ((j : Nat) : Int)) : Int) - (1 : Int) := by omega
  exact ⟨ka - 1, by omega, (j + 1), by omega, h0_1, h2_1, h8_1, h9_1, G, (by rw [h11]; exact rfl), hE⟩
 ·have hj : size ≤ j := by have := of_decide_eq_false hg24; omega
  refine Gz hg24 (Gz hg24 (Qf hg24 G (Ni (Cf G (WC.exit (Sr (Mv (U64 (loadT d o size j)) h10_1 (Mv (IN 1) h8_1 (Bt G G BinR.gtr (by decide) (Ae (U64 (loadT d o size j)) (Ae (.bool true) (Ni (WC.ret ?_)))))))))))))
  exact ⟨_, Res.two (v := U64 (loadT d o size j)) (v' := .bool true) G G G, (by have e : j = size := (by omega); subst e; rfl), hE⟩
theorem load_r2 (addr : BitVec 64) (size o : Nat) (b : Nat) (cv dv sv iv : Value) (x : Nat → BitVec 64) (pc : BitVec 64) (ev : Value) (en tr : Bool) (st : Value) (n : Nat) (d t : Nat → BitVec 8) (w : World) (hB : Blk w b (refCells cv dv sv iv x pc ev en tr st) 70) (hD : Sl w dv 1 n (bsV d n)) (hn : n ≤ 524288) (hT : Sl w sv 1 65536 (bsV t 65536)) (hz : size = 1 ∨ size = 2 ∨ size = 4 ∨ size = 8) (hW : whereR n addr size = (2, o)) (ho : o + size ≤ 65536) : Cx 24 #[ptr b 0, U64 addr, IN size] w (.tuple #[U64 (loadT t o size size), .bool true]) := by
 refine Co func24 G G ?_
 refine Sr (Ae (U64 0#64) (Ae (.bool false) (Ni (Sr (Me (ptr b 0) (Me (U64 addr) (Me (IN size) (Ca (where_r addr size b cv dv sv iv x pc ev en tr st n d t _ hB (hD.ext' (Mod.refl _ _)) hn hz) ?_))))))))
 rintro _ wc17 ⟨rfl, ec17⟩
 rw [hW]
 have E1 : Ext w wc17 := ec17
 refine Me (.tuple #[IN 2, IN o]) (Et G G (Et G G (Ae (IN 2) (Ae (IN o) (Ni (Sr (Ae (U64 0#64) (Ni (Sq (Sr (Me (IN size) (Bn G G (BinR.subI (by omega)) (Ae (.int .i64 (((size : Nat) : Int) - (1 : Int))) (Ni (Bk ?_)))))))))))))))
 refine WC.loop (fun k f w_ => ∃ j, (k + j = size) ∧ f 0 = ptr b 0 ∧ f 2 = IN size ∧ f 8 = IN 2 ∧ f 9 = IN o ∧ f 10 = U64 (loadT t o size j) ∧ f 11 = .int .i64 ((((size : Nat) : Int) - 1 - ((j : Nat) : Int))) ∧ (Ext w w_)) size ?_ ?_
 ·exact ⟨0, by omega, G, G, G, G, G, (by rw [show (((size : Nat) : Int) - 1 - ((0 : Nat) : Int)) = ((size : Nat) : Int) - 1 by omega]; rfl), E1⟩
 rintro ka f1 wr ⟨j, hk, h0_1, h2_1, h8_1, h9_1, h10_1, h11_1, hE⟩
 refine Sq (Sr (Mv (.int .i64 ((((size : Nat) : Int) - 1 - ((j : Nat) : Int)))) h11_1 (Bn G G BinR.geq (Me (.bool (decide ((0 : Int) ≤ ((((size : Nat) : Int) - 1 - ((j : Nat) : Int)) : Int)))) ?_))))
 rcases Bool.eq_false_or_eq_true (decide ((0 : Int) ≤ ((((size : Nat) : Int) - 1 - ((j : Nat) : Int)) : Int))) with hg24 | hg24
 ·have hj : j < size := by have := of_decide_eq_true hg24; omega
  obtain ⟨bd, od, cd, ed, hcd⟩ := hT.at (by omega)
  refine Gy hg24 (Mv (IN 2) h8_1 (Gy hg24 (Bt G G BinR.gtr (by decide) (Qt hg24 G (Ni (Ct G (WC.skip (Sq (Bk (Sr (Ae (U8 0#8) (Ni (Sq (Sr (Mv (IN 2) h8_1 (Bf G G BinR.eql (by decide) (Ni (Cf G (Rg (Mv (ptr b 0) h0_1 (WL.nilCheck G G ?_)))))))))))))))))))))
  refine Fa G fo70_2 (Le ((hB.ext hE).cell (j := 2) G) (Mv (IN o) h9_1 (Mv (.int .i64 ((((size : Nat) : Int) - 1 - ((j : Nat) : Int)))) h11_1 (Bn G G ((show ((o : Nat) : Int) + (((size : Nat) : Int) - 1 - ((j : Nat) : Int)) = ((o + (size - 1 - j) : Nat) : Int) by omega) ▸ BinR.addI (by omega)) (WL.indexAddr (i := (o + (size - 1 - j))) (b := bd) (o := od) el45 sz5 (Eq.trans G ed) G (by omega) G (Lx G ((hcd.ext hE) ((o + (size - 1 - j)) * 1) _ (by rw [Nat.mul_one]; exact bsV_get t (by omega))) (Ae (U8 ((t (o + (size - 1 - j))))) (Ni (Rg (Mv (U64 (loadT t o size j)) h10_1 (Bn (vy := .int .u64 ((8 : Nat) : Int)) G G (BinR.shlU64 (s := 8)) (Me (U8 ((t (o + (size - 1 - j))))) (Cv G (ConvR.u8u64 y5 y39) (Bn G G BinR.addU64 (Ae (U64 (((loadT t o size j <<< 8) + ((t (o + (size - 1 - j)))).setWidth 64))) (Ni (Rg (Mv (.int .i64 ((((size : Nat) : Int) - 1 - ((j : Nat) : Int)))) h11_1 (Bn G G (BinR.subI (by omega)) (Ae (.int .i64 (((((size : Nat) : Int) - 1 - ((j : Nat) : Int)) : Int) - (1 : Int))) (Ni ?_)))))))))))))))))))))
  have h11 : (((size : Nat) : Int) - 1 - (((j + 1 : Nat)) : Int)) = ((((size : Nat) : Int) - 1 - ((j : Nat) : Int)) : Int) - (1 : Int) := by omega
  exact ⟨ka - 1, by omega, (j + 1), by omega, h0_1, h2_1, h8_1, h9_1, G, (by rw [h11]; exact rfl), hE⟩
 ·have hj : size ≤ j := by have := of_decide_eq_false hg24; omega
  refine Gz hg24 (Gz hg24 (Qf hg24 G (Ni (Cf G (WC.exit (Sr (Mv (U64 (loadT t o size j)) h10_1 (Mv (IN 2) h8_1 (Bt G G BinR.gtr (by decide) (Ae (U64 (loadT t o size j)) (Ae (.bool true) (Ni (WC.ret ?_)))))))))))))
  exact ⟨_, Res.two (v := U64 (loadT t o size j)) (v' := .bool true) G G G, (by have e : j = size := (by omega); subst e; rfl), hE⟩
theorem load_r0 (addr : BitVec 64) (size : Nat) (b : Nat) (cv dv sv iv : Value) (x : Nat → BitVec 64) (pc : BitVec 64) (ev : Value) (en tr : Bool) (st : Value) (n : Nat) (d t : Nat → BitVec 8) (w : World) (hB : Blk w b (refCells cv dv sv iv x pc ev en tr st) 70) (hD : Sl w dv 1 n (bsV d n)) (hn : n ≤ 524288) (hz : size = 1 ∨ size = 2 ∨ size = 4 ∨ size = 8) (hW : whereR n addr size = (0, 0)) : Cx 24 #[ptr b 0, U64 addr, IN size] w (.tuple #[U64 0#64, .bool false]) := by
 refine Co func24 G G ?_
 refine Sr (Ae (U64 0#64) (Ae (.bool false) (Ni (Sr (Me (ptr b 0) (Me (U64 addr) (Me (IN size) (Ca (where_r addr size b cv dv sv iv x pc ev en tr st n d t _ hB (hD.ext' (Mod.refl _ _)) hn hz) ?_))))))))
 rintro _ wc17 ⟨rfl, ec17⟩
 rw [hW]
 have E1 : Ext w wc17 := ec17
 refine Me (.tuple #[IN 0, IN 0]) (Et G G (Et G G (Ae (IN 0) (Ae (IN 0) (Ni (Sr (Ae (U64 0#64) (Ni (Sq (Sr (Me (IN size) (Bn G G (BinR.subI (by omega)) (Ae (.int .i64 (((size : Nat) : Int) - (1 : Int))) (Ni (Bk ?_)))))))))))))))
 refine WC.loop (fun k f w_ => f 8 = IN 0 ∧ f 10 = U64 0#64 ∧ f 11 = .int .i64 ((((size : Nat) : Int) - 1)) ∧ (Ext w w_)) 0 ?_ ?_
 ·exact ⟨G, G, G, E1⟩
 rintro k f1 wr ⟨h8_1, h10_1, h11_1, hE⟩
 refine Sq (Sr (Mv (.int .i64 ((((size : Nat) : Int) - 1))) h11_1 (Bp G G BinR.geq (Me (.bool true) (Gr (Mv (IN 0) h8_1 (Gr (Bf G G BinR.gtr (by decide) (Pt G (Ni (Cf G (WC.exit (Sr (Mv (U64 0#64) h10_1 (Mv (IN 0) h8_1 (Bf G G BinR.gtr (by decide) (Ae (U64 0#64) (Ae (.bool false) (Ni (WC.ret ?_))))))))))))))))))))
 exact ⟨_, Rp G G G, G, hE⟩
end Go.Proofs.S
end
section
set_option linter.unusedSimpArgs false
set_option linter.unusedVariables false
namespace Go.Proofs.S
open Go Go.Ux Go.Ux.Mach Go.Proofs
end Go.Proofs.S
end
section
set_option linter.unusedSimpArgs false
set_option linter.unusedVariables false
namespace Go.Proofs.S
open Go Go.Ux Go.Ux.Mach Go.Proofs
open Tryz
theorem fo61_0 : fieldOff prog 61 0 = some 0 := by kernel_rfl
theorem bld22_10 (a b n m : Nat) : ∀ w : World, (Instr.build 70 #[(1, Sv a n n), (2, Sv b m m), (5, U64 65536#64)]).run prog w = .ok (.agg #[.slice none 0 0, Sv a n n, Sv b m m, .slice none 0 0, Z8, Z8, Z8, Z8, Z8, Z8, Z8, Z8, Z8, Z8, Z8, Z8, Z8, Z8, Z8, Z8, Z8, Z8, Z8, Z8, Z8, Z8, Z8, Z8, Z8, Z8, Z8, Z8, Z8, Z8, Z8, Z8, U64 65536#64, .slice none 0 0, .bool false, .bool false, IN 0]) w := fun _ => by kernel_rfl
theorem fo70_0 : fieldOff prog 70 0 = some 0 := by kernel_rfl
theorem fo61_2 : fieldOff prog 61 2 = some 2 := by kernel_rfl
theorem sz23 : sizeT prog 23 = some 1 := by kernel_rfl
theorem fo70_3 : fieldOff prog 70 3 = some 3 := by kernel_rfl
theorem fo70_4 : fieldOff prog 70 4 = some 4 := by kernel_rfl
open Go.Proofs.M (instV Glob)
open Go.Ux.Image
theorem ones_U32 (l : List (BitVec 32)) : ∀ u ∈ wordCells l, u.oneCell' = true := by
 intro u hu; unfold wordCells at hu; obtain ⟨x, _, rfl⟩ := List.mem_map.1 hu; rfl
end Go.Proofs.S
end
section
set_option linter.unusedSimpArgs false
set_option linter.unusedVariables false
namespace Go.Proofs.R
open Go Go.Ux Go.Ux.Image Go.Proofs
open Tryz
theorem fo61_0 : fieldOff prog 61 0 = some 0 := by kernel_rfl
theorem fo61_1 : fieldOff prog 61 1 = some 1 := by kernel_rfl
theorem el59 : elemT prog 59 = some 101 := by kernel_rfl
theorem fo61_2 : fieldOff prog 61 2 = some 2 := by kernel_rfl
theorem sz101 : sizeT prog 101 = some 2 := by kernel_rfl
theorem ag101 : isAggT prog 101 = some true := by kernel_rfl
theorem zt101 : zeroT prog 101 = some #[.string ⟨#[]⟩, .int .i64 0] := by kernel_rfl
theorem fo101_0 : fieldOff prog 101 0 = some 0 := by kernel_rfl
theorem fo101_1 : fieldOff prog 101 1 = some 1 := by kernel_rfl
theorem BinR.remT {P : Program} {t : TypeId} {a b : Int} (hb : b ≠ 0) : BinR P .rem t (.int .i64 a) (.int .i64 b) (.int .i64 (a.tmod b)) := .of_int fun w => by
 simp [binOp, Op.intDiv, hb]
theorem rright_spec (sv wv : Value) (I : Img) (w : World) (hR : Rep w sv wv I) : Cx 25 #[.agg #[.int .i64 I.entry, sv, wv]] w (.bool (rightB I)) := by
 have hI1 := hR.ls
 have hI2 := hR.lw
 refine Co func25 G G ?_
 refine Sr (WL.box (v := .agg #[.int .i64 I.entry, sv, wv]) G G ?_)
 intro b1 w1 n1
 have E1 : Ext w w1 := n1.ext
 refine Ae (.bool false) (Ni (Sq (Sq ?_)))
 refine WC.cut (fun f' w_ => f' 0 = .agg #[.int .i64 I.entry, sv, wv] ∧ f' 1 = ptr b1 0 ∧ f' 2 = .bool false ∧ f' 43 = .bool (headBad I) ∧ w1 = w_) ?_ ?_
 ·refine Rg (Fa G fo61_0 (Le (n1.blk.cell (j := 0) G) (Bn G G BinR.lss (Me (.bool (decide ((I.entry : Int) < (0 : Int)))) ?_))))
  rcases Bool.eq_false_or_eq_true (decide ((I.entry : Int) < (0 : Int))) with hg9 | hg9
  ·refine Gz hg9 (Gz hg9 (Gz hg9 (Qt hg9 G (Me (.bool true) (Gx (Gx (Gx (Gx (Pt G (Me (.bool true) (Gx (Gx (Gx (Gx (Pt G (Me (.bool true) (Gx (Gx (Gx (Gx (Pt G (Me (.bool true) (Gx ?_)))))))))))))))))))))))
   refine Gx (Gx (Gx (Pt G (Me (.bool true) (Gx (Gx (Gx (Gx (Pt G (Ni ?_))))))))))
   have hcut : true = headBad I := by simp only [headBad, *, Bool.true_or, Bool.or_true, Bool.false_or, Bool.or_false, Bool.true_and, Bool.and_true, Bool.false_and, Bool.and_false]
   exact ⟨G, G, G, G, congrArg Value.bool hcut, G⟩
  ·refine Gy hg9 (Fa G fo61_0 (Gy hg9 (Le (n1.blk.cell (j := 0) G) (Gy hg9 (Bn G G BinR.gtr (Qf hg9 G (Me (.bool (decide ((524288 : Int) < (I.entry : Int)))) ?_)))))))
   rcases Bool.eq_false_or_eq_true (decide ((524288 : Int) < (I.entry : Int))) with hg14 | hg14
   ·refine Gz hg14 (Gz hg14 (Gz hg14 (Gz hg14 (Qt hg14 G (Me (.bool true) (Gx (Gx (Gx (Gx (Pt G (Me (.bool true) (Gx (Gx (Gx (Gx (Pt G (Me (.bool true) (Gx (Gx (Gx (Gx (Pt G (Me (.bool true) ?_)))))))))))))))))))))))
    refine Gx (Gx (Gx (Gx (Pt G (Ni ?_)))))
    have hcut : true = headBad I := by simp only [headBad, *, Bool.true_or, Bool.or_true, Bool.false_or, Bool.or_false, Bool.true_and, Bool.and_true, Bool.false_and, Bool.and_false]
    exact ⟨G, G, G, G, congrArg Value.bool hcut, G⟩
   ·refine Gy hg14 (Fa G fo61_0 (Gy hg14 (Le (n1.blk.cell (j := 0) G) (Gy hg14 (Bn G G (BinR.remT (by decide)) (Gy hg14 (Bn G G BinR.neq (Qf hg14 G (Me (.bool (((I.entry.tmod 8 : Int) != (0 : Int)))) ?_)))))))))
    rcases Bool.eq_false_or_eq_true (((I.entry.tmod 8 : Int) != (0 : Int))) with hg20 | hg20
    ·refine Gz hg20 (Gz hg20 (Gz hg20 (Gz hg20 (Qt hg20 G (Me (.bool true) (Gx (Gx (Gx (Gx (Pt G (Me (.bool true) (Gx (Gx (Gx (Gx (Pt G (Me (.bool true) (Gx (Gx (Gx (Gx (Pt G (Ni ?_)))))))))))))))))))))))
     have hcut : true = headBad I := by simp only [headBad, *, Bool.true_or, Bool.or_true, Bool.false_or, Bool.or_false, Bool.true_and, Bool.and_true, Bool.false_and, Bool.and_false]
     exact ⟨G, G, G, G, congrArg Value.bool hcut, G⟩
    ·refine Gy hg20 (Fa G fo61_1 (Gy hg20 (Le (n1.blk.cell (j := 1) G) (Gy hg20 (WL.lenSl (sz := 2) (m := I.syms.length) (xs := symCells I.syms) el59 G (hR.s.ext' E1) G (Gy hg20 (Bn G G BinR.lss (Qf hg20 G (Me (.bool (decide (((I.syms.length : Nat) : Int) < (1 : Int)))) ?_)))))))))
     rcases Bool.eq_false_or_eq_true (decide (((I.syms.length : Nat) : Int) < (1 : Int))) with hg26 | hg26
     ·refine Gz hg26 (Gz hg26 (Gz hg26 (Gz hg26 (Qt hg26 G (Me (.bool true) (Gx (Gx (Gx (Gx (Pt G (Me (.bool true) (Gx (Gx (Gx (Gx (Pt G (Ni ?_)))))))))))))))))
      have hcut : true = headBad I := by simp only [headBad, *, Bool.true_or, Bool.or_true, Bool.false_or, Bool.or_false, Bool.true_and, Bool.and_true, Bool.false_and, Bool.and_false]
      exact ⟨G, G, G, G, congrArg Value.bool hcut, G⟩
     ·refine Gy hg26 (Fa G fo61_1 (Gy hg26 (Le (n1.blk.cell (j := 1) G) (Gy hg26 (WL.lenSl (sz := 2) (m := I.syms.length) (xs := symCells I.syms) el59 G (hR.s.ext' E1) G (Gy hg26 (Bn G G BinR.gtr (Qf hg26 G (Me (.bool (decide ((65 : Int) < ((I.syms.length : Nat) : Int)))) ?_)))))))))
      rcases Bool.eq_false_or_eq_true (decide ((65 : Int) < ((I.syms.length : Nat) : Int))) with hg32 | hg32
      ·refine Gz hg32 (Gz hg32 (Gz hg32 (Gz hg32 (Qt hg32 G (Me (.bool true) (Gx (Gx (Gx (Gx (Pt G (Ni ?_)))))))))))
       have hcut : true = headBad I := by simp only [headBad, *, Bool.true_or, Bool.or_true, Bool.false_or, Bool.or_false, Bool.true_and, Bool.and_true, Bool.false_and, Bool.and_false]
       exact ⟨G, G, G, G, congrArg Value.bool hcut, G⟩
      ·refine Gy hg32 (Fa G fo61_2 (Gy hg32 (Le (n1.blk.cell (j := 2) G) (Gy hg32 (WL.lenSl (sz := 1) (m := I.words.length) (xs := wordCells I.words) el23 G (hR.w.ext' E1) G (Gy hg32 (Bn G G BinR.lss (Qf hg32 G (Me (.bool (decide (((I.words.length : Nat) : Int) < (1 : Int)))) ?_)))))))))
       rcases Bool.eq_false_or_eq_true (decide (((I.words.length : Nat) : Int) < (1 : Int))) with hg38 | hg38
       ·refine Gz hg38 (Gz hg38 (Gz hg38 (Gz hg38 (Qt hg38 G (Ni ?_)))))
        have hcut : true = headBad I := by simp only [headBad, *, Bool.true_or, Bool.or_true, Bool.false_or, Bool.or_false, Bool.true_and, Bool.and_true, Bool.false_and, Bool.and_false]
        exact ⟨G, G, G, G, congrArg Value.bool hcut, G⟩
       ·refine Gy hg38 (Fa G fo61_2 (Gy hg38 (Le (n1.blk.cell (j := 2) G) (Gy hg38 (WL.lenSl (sz := 1) (m := I.words.length) (xs := wordCells I.words) el23 G (hR.w.ext' E1) G (Gy hg38 (Bn G G BinR.gtr (Qf hg38 G (Ni ?_)))))))))
        have hcut : (decide ((262144 : Int) < ((I.words.length : Nat) : Int))) = headBad I := by simp only [headBad, *, Bool.true_or, Bool.or_true, Bool.false_or, Bool.or_false, Bool.true_and, Bool.and_true, Bool.false_and, Bool.and_false]
        exact ⟨G, G, G, G, congrArg Value.bool hcut, G⟩
 rintro fc1 _ ⟨hc1_0, hc1_1, hc1_2, hc1_43, rfl⟩
 refine WC.cond hc1_43 (fun hc43 => ?_) (fun hc43 => ?_)
 ·have hrf := headBad_no I hc43
  refine Sr (Ae (.bool false) (Ni (WC.ret ?_)))
  have hfin : ((.bool false) : Value) = Value.bool (rightB I) := congrArg Value.bool (by first | exact hrf.symm | exact (ht.trans hbad).symm | exact (ht.trans hdup).symm | exact (ht.trans (todo_end I i (by omega) hi)).symm)
  exact ⟨_, Ro G G, hfin, E1⟩
 ·have hrt := headBad_ok I hc43
  have hh := hc43
  simp only [headBad, Bool.or_eq_false_iff, decide_eq_false_iff_not] at hh
  refine WC.skip (Sq (Sr (Ae (IN 0) (Ni (Bk ?_)))))
  refine WC.loop (fun k f w_ => ∃ i, (k + i = I.syms.length) ∧ (rightB I = todo I i) ∧ (0 < i → 0 ≤ lastAt I.syms i) ∧ f 0 = .agg #[.int .i64 I.entry, sv, wv] ∧ f 1 = ptr b1 0 ∧ f 3 = IN i ∧ f 43 = .bool (headBad I) ∧ (Ext w w_) ∧ (Blk w_ b1 #[.int .i64 I.entry, sv, wv] 61)) I.syms.length ?_ ?_
  ·exact ⟨0, by omega, by rw [hrt]; rfl, fun h => absurd h (by decide), hc1_0, hc1_1, rfl, hc1_43, E1, n1.blk⟩
  rintro ka f1 wr ⟨i, hk1, ht, hl, h0_1, h1_1, h3_1, h43_1, hE, hB⟩
  refine Sq (Sr (Mv (IN i) h3_1 (Fa h1_1 fo61_1 (Le (hB.cell (j := 1) G) (WL.lenSl (sz := 2) (m := I.syms.length) (xs := symCells I.syms) el59 G (hR.s.ext' hE) G (Bn G G BinR.lss (Ni ?_)))))))
  refine WC.cond G (fun hc48 => ?_) (fun hc48 => ?_)
  ·have hi : i < I.syms.length := by have := of_decide_eq_true hc48; omega
   obtain ⟨bs0, os0, cs0, es0, hcs0⟩ := hR.s.at (by omega)
   refine WC.skip (Sq (Bk (Sr (Fa h1_1 fo61_1 (Le (hB.cell (j := 1) G) (Mv (IN i) h3_1 (WL.indexAddr (i := i) (b := bs0) (o := os0) el59 sz101 (Eq.trans G es0) G (by omega) G (WL.loadS [St (I.syms[i]).1, .int .i64 ((I.syms[i]).2)] G ag101 sz101 G (cells2 (hcs0.ext hE) ((symCells_get I.syms i (by omega))).1 ((symCells_get I.syms i (by omega))).2) G (WL.allocStore (v := .agg #[St (I.syms[i]).1, .int .i64 ((I.syms[i]).2)]) zt101 G sz101 G G G G ?_)))))))))
   intro b4 w4 n4
   have E3 := Mt hE n4.ext
   refine Ni (Sq (Sq ?_))
   refine WC.cut (fun f' w_ => f' 0 = .agg #[.int .i64 I.entry, sv, wv] ∧ f' 1 = ptr b1 0 ∧ f' 3 = IN i ∧ f' 4 = ptr b4 0 ∧ f' 43 = .bool (headBad I) ∧ f' 44 = IN i ∧ f' 45 = ptr b1 1 ∧ f' 46 = sv ∧ f' 47 = IN I.syms.length ∧ f' 48 = .bool (decide (((i : Nat) : Int) < ((I.syms.length : Nat) : Int))) ∧ f' 51 = ptr b1 1 ∧ f' 52 = sv ∧ f' 53 = IN i ∧ f' 54 = ptr bs0 (os0 + i * 2) ∧ f' 55 = .agg #[St (I.syms[i]).1, .int .i64 ((I.syms[i]).2)] ∧ f' 105 = .bool (symBad I.words.length i (lastAt I.syms i) (I.syms[i])) ∧ (Blk w_ b1 #[.int .i64 I.entry, sv, wv] 61) ∧ (Blk w_ b4 #[St (I.syms[i]).1, .int .i64 (I.syms[i]).2] 101) ∧ Ext w w_) ?_ ?_
   ·refine WC.draw (fun w_ => Ext w4 w_) 50 G mixed ?_
    intro wd_7 ed_7
    have R5 : Ext w4 wd_7 := ed_7
    have E6 := Mt E3 ed_7
    refine Tp 0 (ptr b4 0) G G (Fa G fo101_0 Ok) R5 (Tk 1 (St (I.syms[i]).1) G G (fun _ hS => Le ((n4.blk.ext hS).cell (j := 0) G) Ok) R5 (Tp 2 (IN ((I.syms[i]).1.length)) G G (WL.lenSt y9 G G Ok) R5 (Tp 3 (.bool (decide ((((I.syms[i]).1.length : Nat) : Int) < (1 : Int)))) G G (Bn G G BinR.lss Ok) R5 (Tm 4 (.bool (decide ((((I.syms[i]).1.length : Nat) : Int) < (1 : Int)))) G G R5 ?_))))
    rcases Bool.eq_false_or_eq_true (decide ((((I.syms[i]).1.length : Nat) : Int) < (1 : Int))) with hd7_60 | hd7_60
    ·refine To 5 (some true) G G G (Yb G G hd7_60) R5 (To 6 (some true) G G G (Yb G G hd7_60) R5 (To 7 (some true) G G G (Yb G G hd7_60) R5 (To 8 (some true) G G G (Yb G G hd7_60) R5 (Tp 9 (.bool true) G G (Qt hd7_60 G Ok) R5 (Tm 10 (.bool true) G G R5 (To 11 (some true) G G G G R5 (To 12 (some true) G G G G R5 (To 13 (some true) G G G G R5 (To 14 (some true) G G G G R5 (Tp 15 (.bool true) G G (Pt G Ok) R5 (Tm 16 (.bool true) G G R5 (To 17 (some true) G G G G R5 (To 18 (some true) G G G G R5 (To 19 (some true) G G G G R5 (To 20 (some true) G G G G R5 (To 21 (some true) G G G G R5 (To 22 (some true) G G G G R5 (To 23 (some true) G G G G R5 (Tp 24 (.bool true) G G (Pt G Ok) R5 (Tm 25 (.bool true) G G R5 (To 26 (some true) G G G G R5 (To 27 (some true) G G G G R5 (To 28 (some true) G G G G R5 ?_)))))))))))))))))))))))
     refine To 29 none G G G G R5 (To 30 none G G G G R5 (To 31 none G G G G R5 (To 32 (some true) G G G G R5 (Tp 33 (.bool true) G G (Pt G Ok) R5 (Tm 34 (.bool true) G G R5 (To 35 (some true) G G G G R5 (To 36 (some true) G G G G R5 (To 37 (some true) G G G G R5 (To 38 none G G G G R5 (To 39 none G G G G R5 (To 40 none G G G G R5 (To 41 none G G G G R5 (To 42 none G G G G R5 (To 43 none G G G G R5 (To 44 none G G G G R5 (To 45 none G G G G R5 (To 46 none G G G G R5 (To 47 none G G G G R5 (To 48 (some true) G G G G R5 (Tp 49 (.bool true) G G (Pt G Ok) R5 (WA.done (by kernel_rfl) ?_)))))))))))))))))))))
     have hcut : true = symBad I.words.length i (lastAt I.syms i) (I.syms[i]) := by simp only [symBad, *, Bool.true_or, Bool.or_true, Bool.false_or, Bool.or_false, Bool.true_and, Bool.and_true, Bool.false_and, Bool.and_false]
     have B22 := (hB.ext n4.ext).ext ed_7
     have B23 := n4.blk.ext ed_7
     exact ⟨G, h0_1, h1_1, h3_1, G, h43_1, G, G, G, G, G, G, G, G, G, G, congrArg Value.bool hcut, B22, B23, E6⟩
    ·refine Tp 5 (ptr b4 0) G G (Gy hd7_60 (Fa G fo101_0 Ok)) R5 (Tk 6 (St (I.syms[i]).1) G G (fun _ hS => Gy hd7_60 (Le ((n4.blk.ext hS).cell (j := 0) G) Ok)) R5 (Tp 7 (IN ((I.syms[i]).1.length)) G G (Gy hd7_60 (WL.lenSt y9 G G Ok)) R5 (Tp 8 (.bool (decide ((64 : Int) < (((I.syms[i]).1.length : Nat) : Int)))) G G (Gy hd7_60 (Bn G G BinR.gtr Ok)) R5 (Tp 9 (.bool (decide ((64 : Int) < (((I.syms[i]).1.length : Nat) : Int)))) G G (Qf hd7_60 G Ok) R5 (Tm 10 (.bool (decide ((64 : Int) < (((I.syms[i]).1.length : Nat) : Int)))) G G R5 ?_)))))
     rcases Bool.eq_false_or_eq_true (decide ((64 : Int) < (((I.syms[i]).1.length : Nat) : Int))) with hd7_66 | hd7_66
     ·refine To 11 (some true) G G G (Yb G G hd7_66) R5 (To 12 (some true) G G G (Yb G G hd7_66) R5 (To 13 (some true) G G G (Yb G G hd7_66) R5 (To 14 (some true) G G G (Yb G G hd7_66) R5 (Tp 15 (.bool true) G G (Qt hd7_66 G Ok) R5 (Tm 16 (.bool true) G G R5 (To 17 (some true) G G G G R5 (To 18 (some true) G G G G R5 (To 19 (some true) G G G G R5 (To 20 (some true) G G G G R5 (To 21 (some true) G G G G R5 (To 22 (some true) G G G G R5 (To 23 (some true) G G G G R5 (Tp 24 (.bool true) G G (Pt G Ok) R5 (Tm 25 (.bool true) G G R5 (To 26 (some true) G G G G R5 (To 27 (some true) G G G G R5 (To 28 (some true) G G G G R5 (To 29 none G G G G R5 (To 30 none G G G G R5 (To 31 none G G G G R5 (To 32 (some true) G G G G R5 (Tp 33 (.bool true) G G (Pt G Ok) R5 (Tm 34 (.bool true) G G R5 ?_)))))))))))))))))))))))
      refine To 35 (some true) G G G G R5 (To 36 (some true) G G G G R5 (To 37 (some true) G G G G R5 (To 38 none G G G G R5 (To 39 none G G G G R5 (To 40 none G G G G R5 (To 41 none G G G G R5 (To 42 none G G G G R5 (To 43 none G G G G R5 (To 44 none G G G G R5 (To 45 none G G G G R5 (To 46 none G G G G R5 (To 47 none G G G G R5 (To 48 (some true) G G G G R5 (Tp 49 (.bool true) G G (Pt G Ok) R5 (WA.done (by kernel_rfl) ?_)))))))))))))))
      have hcut : true = symBad I.words.length i (lastAt I.syms i) (I.syms[i]) := by simp only [symBad, *, Bool.true_or, Bool.or_true, Bool.false_or, Bool.or_false, Bool.true_and, Bool.and_true, Bool.false_and, Bool.and_false]
      have B38 := (hB.ext n4.ext).ext ed_7
      have B39 := n4.blk.ext ed_7
      exact ⟨G, h0_1, h1_1, h3_1, G, h43_1, G, G, G, G, G, G, G, G, G, G, congrArg Value.bool hcut, B38, B39, E6⟩
     ·refine Tp 11 (ptr b4 1) G G (Gy hd7_66 (Fa G fo101_1 Ok)) R5 (Tk 12 (.int .i64 ((I.syms[i]).2)) G G (fun _ hS => Gy hd7_66 (Le ((n4.blk.ext hS).cell (j := 1) G) Ok)) R5 (Tp 13 (.int .i64 ((I.syms[i]).2.tmod 4)) G G (Gy hd7_66 (Bn G G (BinR.remT (by decide)) Ok)) R5 (Tp 14 (.bool ((((I.syms[i]).2.tmod 4 : Int) != (0 : Int)))) G G (Gy hd7_66 (Bn G G BinR.neq Ok)) R5 (Tp 15 (.bool ((((I.syms[i]).2.tmod 4 : Int) != (0 : Int)))) G G (Qf hd7_66 G Ok) R5 (Tm 16 (.bool ((((I.syms[i]).2.tmod 4 : Int) != (0 : Int)))) G G R5 ?_)))))
      rcases Bool.eq_false_or_eq_true ((((I.syms[i]).2.tmod 4 : Int) != (0 : Int))) with hd7_72 | hd7_72
      ·refine To 17 (some true) G G G (Yb G G hd7_72) R5 (To 18 (some true) G G G (Yb G G hd7_72) R5 (To 19 (some true) G G G (Yb G G hd7_72) R5 (To 20 (some true) G G G (Yb G G hd7_72) R5 (To 21 (some true) G G G (Yb G G hd7_72) R5 (To 22 (some true) G G G (Yb G G hd7_72) R5 (To 23 (some true) G G G (Yb G G hd7_72) R5 (Tp 24 (.bool true) G G (Qt hd7_72 G Ok) R5 (Tm 25 (.bool true) G G R5 (To 26 (some true) G G G G R5 (To 27 (some true) G G G G R5 (To 28 (some true) G G G G R5 (To 29 none G G G G R5 (To 30 none G G G G R5 (To 31 none G G G G R5 (To 32 (some true) G G G G R5 (Tp 33 (.bool true) G G (Pt G Ok) R5 (Tm 34 (.bool true) G G R5 (To 35 (some true) G G G G R5 (To 36 (some true) G G G G R5 (To 37 (some true) G G G G R5 (To 38 none G G G G R5 (To 39 none G G G G R5 (To 40 none G G G G R5 ?_)))))))))))))))))))))))
       refine To 41 none G G G G R5 (To 42 none G G G G R5 (To 43 none G G G G R5 (To 44 none G G G G R5 (To 45 none G G G G R5 (To 46 none G G G G R5 (To 47 none G G G G R5 (To 48 (some true) G G G G R5 (Tp 49 (.bool true) G G (Pt G Ok) R5 (WA.done (by kernel_rfl) ?_)))))))))
       have hcut : true = symBad I.words.length i (lastAt I.syms i) (I.syms[i]) := by simp only [symBad, *, Bool.true_or, Bool.or_true, Bool.false_or, Bool.or_false, Bool.true_and, Bool.and_true, Bool.false_and, Bool.and_false]
       have B52 := (hB.ext n4.ext).ext ed_7
       have B53 := n4.blk.ext ed_7
       exact ⟨G, h0_1, h1_1, h3_1, G, h43_1, G, G, G, G, G, G, G, G, G, G, congrArg Value.bool hcut, B52, B53, E6⟩
      ·refine Tp 17 (ptr b4 1) G G (Gy hd7_72 (Fa G fo101_1 Ok)) R5 (Tk 18 (.int .i64 ((I.syms[i]).2)) G G (fun _ hS => Gy hd7_72 (Le ((n4.blk.ext hS).cell (j := 1) G) Ok)) R5 (Tp 19 (ptr b1 2) G G (Gy hd7_72 (Fa h1_1 fo61_2 Ok)) R5 (Tk 20 wv G G (fun _ hS => Gy hd7_72 (Le (((hB.ext n4.ext).ext hS).cell (j := 2) G) Ok)) R5 (Tk 21 (IN I.words.length) G G (fun wx hS => have E60 : Ext w wx := Mt E3 hS; Gy hd7_72 (WL.lenSl (sz := 1) (m := I.words.length) (xs := wordCells I.words) el23 G (hR.w.ext' E60) G Ok)) R5 (Tp 22 (IN ((4 * I.words.length))) G G (Gy hd7_72 (Bn G G (BinR.mulN (a := 4) (b := I.words.length) (by omega)) Ok)) R5 (Tp 23 (.bool (decide ((((4 * I.words.length) : Nat) : Int) ≤ ((I.syms[i]).2 : Int)))) G G (Gy hd7_72 (Bn G G BinR.geq Ok)) R5 (Tp 24 (.bool (decide ((((4 * I.words.length) : Nat) : Int) ≤ ((I.syms[i]).2 : Int)))) G G (Qf hd7_72 G Ok) R5 (Tm 25 (.bool (decide ((((4 * I.words.length) : Nat) : Int) ≤ ((I.syms[i]).2 : Int)))) G G R5 ?_))))))))
       rcases Bool.eq_false_or_eq_true (decide ((((4 * I.words.length) : Nat) : Int) ≤ ((I.syms[i]).2 : Int))) with hd7_81 | hd7_81
       ·refine To 26 (some true) G G G (Yb G G hd7_81) R5 (To 27 (some true) G G G (Yb G G hd7_81) R5 (To 28 (some true) G G G (Yb G G hd7_81) R5 (To 29 none G G G G R5 (To 30 none G G G G R5 (To 31 none G G G G R5 (To 32 (some true) G G G (Yb G G hd7_81) R5 (Tp 33 (.bool true) G G (Qt hd7_81 G Ok) R5 (Tm 34 (.bool true) G G R5 (To 35 (some true) G G G G R5 (To 36 (some true) G G G G R5 (To 37 (some true) G G G G R5 (To 38 none G G G G R5 (To 39 none G G G G R5 (To 40 none G G G G R5 (To 41 none G G G G R5 (To 42 none G G G G R5 (To 43 none G G G G R5 (To 44 none G G G G R5 (To 45 none G G G G R5 (To 46 none G G G G R5 (To 47 none G G G G R5 (To 48 (some true) G G G G R5 (Tp 49 (.bool true) G G (Pt G Ok) R5 ?_)))))))))))))))))))))))
        refine WA.done (by kernel_rfl) ?_
        have hcut : true = symBad I.words.length i (lastAt I.syms i) (I.syms[i]) := by simp only [symBad, *, Bool.true_or, Bool.or_true, Bool.false_or, Bool.or_false, Bool.true_and, Bool.and_true, Bool.false_and, Bool.and_false]
        have B68 := (hB.ext n4.ext).ext ed_7
        have B69 := n4.blk.ext ed_7
        exact ⟨G, h0_1, h1_1, h3_1, G, h43_1, G, G, G, G, G, G, G, G, G, G, congrArg Value.bool hcut, B68, B69, E6⟩
       ·refine Tp 26 (IN i) G G (Gy hd7_81 (Mv (IN i) h3_1 Ok)) R5 (Tp 27 (.bool ((((i : Nat) : Int) == (0 : Int)))) G G (Gy hd7_81 (Bn G G BinR.eql Ok)) R5 (Tp 28 (.bool ((((i : Nat) : Int) == (0 : Int)))) G G (Gy hd7_81 (Me _ Ok)) R5 ?_))
        rcases Bool.eq_false_or_eq_true ((((i : Nat) : Int) == (0 : Int))) with hd7_84 | hd7_84
        ·refine Tp 29 (ptr b4 1) G G (Gy hd7_84 (Fa G fo101_1 Ok)) R5 (Tk 30 (.int .i64 ((I.syms[i]).2)) G G (fun _ hS => Gy hd7_84 (Le ((n4.blk.ext hS).cell (j := 1) G) Ok)) R5 (Tp 31 (.bool ((((I.syms[i]).2 : Int) != (0 : Int)))) G G (Gy hd7_84 (Bn G G BinR.neq Ok)) R5 (Tp 32 (.bool ((((I.syms[i]).2 : Int) != (0 : Int)))) G G (Gy hd7_81 (Qt hd7_84 G Ok)) R5 (Tp 33 (.bool ((((I.syms[i]).2 : Int) != (0 : Int)))) G G (Qf hd7_81 G Ok) R5 (Tm 34 (.bool ((((I.syms[i]).2 : Int) != (0 : Int)))) G G R5 ?_)))))
         rcases Bool.eq_false_or_eq_true ((((I.syms[i]).2 : Int) != (0 : Int))) with hd7_90 | hd7_90
         ·refine To 35 (some true) G G G (Yb G G hd7_90) R5 (To 36 (some true) G G G (Yb G G hd7_90) R5 (To 37 (some true) G G G (Yb G G hd7_90) R5 (To 38 none G G G G R5 (To 39 none G G G G R5 (To 40 none G G G G R5 (To 41 none G G G G R5 (To 42 none G G G G R5 (To 43 none G G G G R5 (To 44 none G G G G R5 (To 45 none G G G G R5 (To 46 none G G G G R5 (To 47 none G G G G R5 (To 48 (some true) G G G (Yb G G hd7_90) R5 (Tp 49 (.bool true) G G (Qt hd7_90 G Ok) R5 (WA.done (by kernel_rfl) ?_)))))))))))))))
          have hcut : true = symBad I.words.length i (lastAt I.syms i) (I.syms[i]) := by simp only [symBad, *, Bool.true_or, Bool.or_true, Bool.false_or, Bool.or_false, Bool.true_and, Bool.and_true, Bool.false_and, Bool.and_false]
          have B81 := (hB.ext n4.ext).ext ed_7
          have B82 := n4.blk.ext ed_7
          exact ⟨G, h0_1, h1_1, h3_1, G, h43_1, G, G, G, G, G, G, G, G, G, G, congrArg Value.bool hcut, B81, B82, E6⟩
         ·refine Tp 35 (IN i) G G (Gy hd7_90 (Mv (IN i) h3_1 Ok)) R5 (Tp 36 (.bool (decide ((0 : Int) < ((i : Nat) : Int)))) G G (Gy hd7_90 (Bn G G BinR.gtr Ok)) R5 (Tp 37 (.bool (decide ((0 : Int) < ((i : Nat) : Int)))) G G (Gy hd7_90 (Me _ Ok)) R5 ?_))
          rcases Bool.eq_false_or_eq_true (decide ((0 : Int) < ((i : Nat) : Int))) with hd7_93 | hd7_93
          ·have hi0 : 0 < i := by have := of_decide_eq_true hd7_93; omega
           have hla := lastAt_pred I.syms i hi0 (by omega)
           refine Tp 38 (ptr b4 1) G G (Gy hd7_93 (Fa G fo101_1 Ok)) R5 (Tk 39 (.int .i64 ((I.syms[i]).2)) G G (fun _ hS => Gy hd7_93 (Le ((n4.blk.ext hS).cell (j := 1) G) Ok)) R5 (Tp 40 (ptr b1 1) G G (Gy hd7_93 (Fa h1_1 fo61_1 Ok)) R5 (Tk 41 sv G G (fun _ hS => Gy hd7_93 (Le (((hB.ext n4.ext).ext hS).cell (j := 1) G) Ok)) R5 (Tp 42 (IN i) G G (Gy hd7_93 (Mv (IN i) h3_1 Ok)) R5 (Tp 43 (IN ((i - 1))) G G (Gy hd7_93 (Bn G G (BinR.subN (a := i) (b := 1) (by omega) (by omega)) Ok)) R5 (Tp 44 (ptr bs0 (os0 + ((i - 1)) * 2)) G G (Gy hd7_93 (WL.indexAddr (i := (i - 1)) (b := bs0) (o := os0) el59 sz101 (Eq.trans G es0) G (by omega) G Ok)) R5 (Tp 45 (ptr bs0 ((os0 + ((i - 1)) * 2) + 1)) G G (Gy hd7_93 (Fa G fo101_1 Ok)) R5 (Tk 46 (.int .i64 ((I.syms[i - 1]).2)) G G (fun wx hS => have E96 : Ext w wx := Mt E3 hS; Gy hd7_93 (Lx G ((hcs0.ext E96) ((i - 1) * 2 + 1) _ (symCells_get I.syms (i - 1) (by omega)).2) Ok)) R5 (Tp 47 (.bool (decide (((I.syms[i]).2 : Int) ≤ ((I.syms[i - 1]).2 : Int)))) G G (Gy hd7_93 (Bn G G BinR.leq Ok)) R5 (Tp 48 (.bool (decide (((I.syms[i]).2 : Int) ≤ ((I.syms[i - 1]).2 : Int)))) G G (Gy hd7_90 (Qt hd7_93 G Ok)) R5 (Tp 49 (.bool (decide (((I.syms[i]).2 : Int) ≤ ((I.syms[i - 1]).2 : Int)))) G G (Qf hd7_90 G Ok) R5 (WA.done (by kernel_rfl) ?_))))))))))))
           have hcut : (decide (((I.syms[i]).2 : Int) ≤ ((I.syms[i - 1]).2 : Int))) = symBad I.words.length i (lastAt I.syms i) (I.syms[i]) := by simp only [symBad, *, Bool.true_or, Bool.or_true, Bool.false_or, Bool.or_false, Bool.true_and, Bool.and_true, Bool.false_and, Bool.and_false]
           have B100 := (hB.ext n4.ext).ext ed_7
           have B101 := n4.blk.ext ed_7
           exact ⟨G, h0_1, h1_1, h3_1, G, h43_1, G, G, G, G, G, G, G, G, G, G, congrArg Value.bool hcut, B100, B101, E6⟩
          ·refine To 38 (some false) G G G (Yb G G hd7_93) R5 (To 39 (some false) G G G (Yb G G hd7_93) R5 (To 40 (some false) G G G (Yb G G hd7_93) R5 (To 41 (some false) G G G (Yb G G hd7_93) R5 (To 42 (some false) G G G (Yb G G hd7_93) R5 (To 43 (some false) G G G (Yb G G hd7_93) R5 (To 44 (some false) G G G (Yb G G hd7_93) R5 (To 45 (some false) G G G (Yb G G hd7_93) R5 (To 46 (some false) G G G (Yb G G hd7_93) R5 (To 47 (some false) G G G (Yb G G hd7_93) R5 (Tp 48 (.bool false) G G (Gy hd7_90 (Qf hd7_93 G Ok)) R5 (Tp 49 (.bool false) G G (Qf hd7_90 G Ok) R5 (WA.done (by kernel_rfl) ?_))))))))))))
           have hcut : false = symBad I.words.length i (lastAt I.syms i) (I.syms[i]) := by simp only [symBad, *, Bool.true_or, Bool.or_true, Bool.false_or, Bool.or_false, Bool.true_and, Bool.and_true, Bool.false_and, Bool.and_false]
           have B104 := (hB.ext n4.ext).ext ed_7
           have B105 := n4.blk.ext ed_7
           exact ⟨G, h0_1, h1_1, h3_1, G, h43_1, G, G, G, G, G, G, G, G, G, G, congrArg Value.bool hcut, B104, B105, E6⟩
        ·refine To 29 (some false) G G G (Yb G G hd7_84) R5 (To 30 (some false) G G G (Yb G G hd7_84) R5 (To 31 (some false) G G G (Yb G G hd7_84) R5 (Tp 32 (.bool false) G G (Gy hd7_81 (Qf hd7_84 G Ok)) R5 (Tp 33 (.bool false) G G (Qf hd7_81 G Ok) R5 (Tm 34 (.bool false) G G R5 (Tp 35 (IN i) G G (Gr (Mv (IN i) h3_1 Ok)) R5 (Tp 36 (.bool (decide ((0 : Int) < ((i : Nat) : Int)))) G G (Gr (Bn G G BinR.gtr Ok)) R5 (Tm 37 (.bool (decide ((0 : Int) < ((i : Nat) : Int)))) G G R5 ?_))))))))
         rcases Bool.eq_false_or_eq_true (decide ((0 : Int) < ((i : Nat) : Int))) with hd7_93 | hd7_93
         ·have hi0 : 0 < i := by have := of_decide_eq_true hd7_93; omega
          have hla := lastAt_pred I.syms i hi0 (by omega)
          refine Tp 38 (ptr b4 1) G G (Gy hd7_93 (Fa G fo101_1 Ok)) R5 (Tk 39 (.int .i64 ((I.syms[i]).2)) G G (fun _ hS => Gy hd7_93 (Le ((n4.blk.ext hS).cell (j := 1) G) Ok)) R5 (Tp 40 (ptr b1 1) G G (Gy hd7_93 (Fa h1_1 fo61_1 Ok)) R5 (Tk 41 sv G G (fun _ hS => Gy hd7_93 (Le (((hB.ext n4.ext).ext hS).cell (j := 1) G) Ok)) R5 (Tp 42 (IN i) G G (Gy hd7_93 (Mv (IN i) h3_1 Ok)) R5 (Tp 43 (IN ((i - 1))) G G (Gy hd7_93 (Bn G G (BinR.subN (a := i) (b := 1) (by omega) (by omega)) Ok)) R5 (Tp 44 (ptr bs0 (os0 + ((i - 1)) * 2)) G G (Gy hd7_93 (WL.indexAddr (i := (i - 1)) (b := bs0) (o := os0) el59 sz101 (Eq.trans G es0) G (by omega) G Ok)) R5 (Tp 45 (ptr bs0 ((os0 + ((i - 1)) * 2) + 1)) G G (Gy hd7_93 (Fa G fo101_1 Ok)) R5 (Tk 46 (.int .i64 ((I.syms[i - 1]).2)) G G (fun wx hS => have E122 : Ext w wx := Mt E3 hS; Gy hd7_93 (Lx G ((hcs0.ext E122) ((i - 1) * 2 + 1) _ (symCells_get I.syms (i - 1) (by omega)).2) Ok)) R5 (Tp 47 (.bool (decide (((I.syms[i]).2 : Int) ≤ ((I.syms[i - 1]).2 : Int)))) G G (Gy hd7_93 (Bn G G BinR.leq Ok)) R5 (Tp 48 (.bool (decide (((I.syms[i]).2 : Int) ≤ ((I.syms[i - 1]).2 : Int)))) G G (Gr (Qt hd7_93 G Ok)) R5 (Tp 49 (.bool (decide (((I.syms[i]).2 : Int) ≤ ((I.syms[i - 1]).2 : Int)))) G G (Pf G Ok) R5 (WA.done (by kernel_rfl) ?_))))))))))))
          have hcut : (decide (((I.syms[i]).2 : Int) ≤ ((I.syms[i - 1]).2 : Int))) = symBad I.words.length i (lastAt I.syms i) (I.syms[i]) := by simp only [symBad, *, Bool.true_or, Bool.or_true, Bool.false_or, Bool.or_false, Bool.true_and, Bool.and_true, Bool.false_and, Bool.and_false]
          have B126 := (hB.ext n4.ext).ext ed_7
          have B127 := n4.blk.ext ed_7
          exact ⟨G, h0_1, h1_1, h3_1, G, h43_1, G, G, G, G, G, G, G, G, G, G, congrArg Value.bool hcut, B126, B127, E6⟩
         ·refine To 38 (some false) G G G (Yb G G hd7_93) R5 (To 39 (some false) G G G (Yb G G hd7_93) R5 (To 40 (some false) G G G (Yb G G hd7_93) R5 (To 41 (some false) G G G (Yb G G hd7_93) R5 (To 42 (some false) G G G (Yb G G hd7_93) R5 (To 43 (some false) G G G (Yb G G hd7_93) R5 (To 44 (some false) G G G (Yb G G hd7_93) R5 (To 45 (some false) G G G (Yb G G hd7_93) R5 (To 46 (some false) G G G (Yb G G hd7_93) R5 (To 47 (some false) G G G (Yb G G hd7_93) R5 (Tp 48 (.bool false) G G (Gr (Qf hd7_93 G Ok)) R5 (Tp 49 (.bool false) G G (Pf G Ok) R5 (WA.done (by kernel_rfl) ?_))))))))))))
          have hcut : false = symBad I.words.length i (lastAt I.syms i) (I.syms[i]) := by simp only [symBad, *, Bool.true_or, Bool.or_true, Bool.false_or, Bool.or_false, Bool.true_and, Bool.and_true, Bool.false_and, Bool.and_false]
          have B130 := (hB.ext n4.ext).ext ed_7
          have B131 := n4.blk.ext ed_7
          exact ⟨G, h0_1, h1_1, h3_1, G, h43_1, G, G, G, G, G, G, G, G, G, G, congrArg Value.bool hcut, B130, B131, E6⟩
   rintro fc7 wc7 ⟨hc7_0, hc7_1, hc7_3, hc7_4, hc7_43, hc7_44, hc7_45, hc7_46, hc7_47, hc7_48, hc7_51, hc7_52, hc7_53, hc7_54, hc7_55, hc7_105, hB7, hB47, hE7⟩
   refine WC.cond hc7_105 (fun hc105 => ?_) (fun hc105 => ?_)
   ·have hbad := todo_bad hi hc105
    refine Sr (Ae (.bool false) (Ni (WC.ret ?_)))
    have hfin : ((.bool false) : Value) = Value.bool (rightB I) := congrArg Value.bool (by first | exact hrf.symm | exact (ht.trans hbad).symm | exact (ht.trans hdup).symm | exact (ht.trans (todo_end I i (by omega) hi)).symm)
    exact ⟨_, Ro G G, hfin, hE7⟩
   ·refine WC.skip (Sr (Ae (IN 0) (Ni (Bk ?_))))
    refine WC.loop (fun k f w_ => ∃ q, (k + q = i) ∧ (∀ m (hm : m < q) (hm2 : m < I.syms.length), (I.syms[m]).1 ≠ (I.syms[i]).1) ∧ f 0 = .agg #[.int .i64 I.entry, sv, wv] ∧ f 1 = ptr b1 0 ∧ f 3 = IN i ∧ f 4 = ptr b4 0 ∧ f 5 = IN q ∧ f 43 = .bool (headBad I) ∧ f 44 = IN i ∧ f 45 = ptr b1 1 ∧ f 46 = sv ∧ f 47 = IN I.syms.length ∧ f 48 = .bool (decide (((i : Nat) : Int) < ((I.syms.length : Nat) : Int))) ∧ f 51 = ptr b1 1 ∧ f 52 = sv ∧ f 53 = IN i ∧ f 54 = ptr bs0 (os0 + i * 2) ∧ f 55 = .agg #[St (I.syms[i]).1, .int .i64 ((I.syms[i]).2)] ∧ f 105 = .bool (symBad I.words.length i (lastAt I.syms i) (I.syms[i])) ∧ (Ext w w_) ∧ (Blk w_ b1 #[.int .i64 I.entry, sv, wv] 61) ∧ (Blk w_ b4 #[St (I.syms[i]).1, .int .i64 (I.syms[i]).2] 101)) i ?_ ?_
    ·exact ⟨0, by omega, fun m hm => absurd hm (by omega), hc7_0, hc7_1, hc7_3, hc7_4, G, hc7_43, hc7_44, hc7_45, hc7_46, hc7_47, hc7_48, hc7_51, hc7_52, hc7_53, hc7_54, hc7_55, hc7_105, hE7, hB7, hB47⟩
    rintro kb f2 wr2 ⟨q, hk2, hnd, h0_2, h1_2, h3_2, h4_2, h5_2, h43_2, h44_2, h45_2, h46_2, h47_2, h48_2, h51_2, h52_2, h53_2, h54_2, h55_2, h105_2, hE2, hB2, hB42⟩
    refine Sq (Sr (Mv (IN q) h5_2 (Mv (IN i) h3_2 (Bn G G BinR.lss (Ni ?_)))))
    refine WC.cond G (fun hc108 => ?_) (fun hc108 => ?_)
    ·have hq : q < i := by have := of_decide_eq_true hc108; omega
     refine WC.skip (Sq (Bk (Sq (WC.draw (fun w_ => Ext wr2 w_) 9 G mixed ?_))))
     intro wd_12 ed_12
     have R133 : Ext wr2 wd_12 := ed_12
     have E134 := Mt hE2 ed_12
     refine Tp 0 (ptr b1 1) G G (Fa h1_2 fo61_1 Ok) R133 (Tk 1 sv G G (fun _ hS => Le ((hB2.ext hS).cell (j := 1) G) Ok) R133 (Tp 2 (IN q) G G (Mv (IN q) h5_2 Ok) R133 (Tp 3 (ptr bs0 (os0 + q * 2)) G G (WL.indexAddr (i := q) (b := bs0) (o := os0) el59 sz101 (Eq.trans G es0) G (by omega) G Ok) R133 (Tp 4 (ptr bs0 (os0 + q * 2)) G G (Fa G fo101_0 Ok) R133 (Tk 5 (St (I.syms[q]).1) G G (fun wx hS => have E141 : Ext w wx := Mt hE2 hS; Lx G ((hcs0.ext E141) (q * 2) _ (symCells_get I.syms q (by omega)).1) Ok) R133 (Tp 6 (ptr b4 0) G G (Fa h4_2 fo101_0 Ok) R133 (Tk 7 (St (I.syms[i]).1) G G (fun _ hS => Le ((hB42.ext hS).cell (j := 0) G) Ok) R133 (Tp 8 (.bool (((I.syms[q]).1 == (I.syms[i]).1))) G G (Bn G G BinR.eqlS Ok) R133 (WA.done (by kernel_rfl) ?_)))))))))
     refine WC.cond G (fun hc119 => ?_) (fun hc119 => ?_)
     ·have hdup := todo_dup hi (dup_of hi hq (by simpa using hc119))
      refine Sr (Ae (.bool false) (Ni (WC.ret ?_)))
      have hfin : ((.bool false) : Value) = Value.bool (rightB I) := congrArg Value.bool (by first | exact hrf.symm | exact (ht.trans hbad).symm | exact (ht.trans hdup).symm | exact (ht.trans (todo_end I i (by omega) hi)).symm)
      exact ⟨_, Ro G G, hfin, E134⟩
     ·have hne : (I.syms[q]).1 ≠ (I.syms[i]).1 := by simpa using hc119
      refine WC.skip (Rg (Mv (IN q) h5_2 (Bn G G (BinR.succN (by omega)) (Ae (IN (q + 1)) (Ni ?_)))))
      have B146 := hB2.ext ed_12
      have B147 := hB42.ext ed_12
      exact ⟨kb - 1, by omega, (q + 1), by omega, fun m hm hm2 => by by_cases e : m = q; (subst e; exact hne); exact hnd m (by omega) hm2, h0_2, h1_2, h3_2, h4_2, G, h43_2, h44_2, h45_2, h46_2, h47_2, h48_2, h51_2, h52_2, h53_2, h54_2, h55_2, h105_2, E134, B146, B147⟩
    ·have hq : i ≤ q := by have := of_decide_eq_false hc108; omega
     have hnx := todo_next hi hl hc105 (nodup_of hi (fun m hm => hnd m (by omega) (by omega)))
     refine WC.exit (Rg (Mv (IN i) h3_2 (Bn G G (BinR.succN (by omega)) (Ae (IN (i + 1)) (Ni ?_)))))
     exact ⟨ka - 1, by omega, (i + 1), by omega, ht.trans hnx.1, fun _ => hnx.2, h0_2, h1_2, G, h43_2, hE2, hB2⟩
  ·have hi : I.syms.length ≤ i := by have := of_decide_eq_false hc48; omega
   refine WC.exit (Sr (Ae (.bool true) (Ni (WC.ret ?_))))
   have hfin : ((.bool true) : Value) = Value.bool (rightB I) := congrArg Value.bool (by first | exact hrf.symm | exact (ht.trans hbad).symm | exact (ht.trans hdup).symm | exact (ht.trans (todo_end I i (by omega) hi)).symm)
   exact ⟨_, Ro G G, hfin, hE⟩
end Go.Proofs.R
end
section
set_option linter.unusedSimpArgs false
set_option linter.unusedVariables false
namespace Go.Proofs.R
open Go Go.Ux Go.Ux.Image Go.Proofs
open Tryz
theorem zt61 : zeroT prog 61 = some #[.int .i64 0, .slice none 0 0, .slice none 0 0] := by kernel_rfl
theorem bld23_9 (e : Int) (a : Option Addr) (l c : Nat) : ∀ w : World, (Instr.build 61 #[(0, .int .i64 e), (2, .slice a l c)]).run prog w = .ok (.agg #[.int .i64 e, .slice none 0 0, .slice a l c]) w := fun _ => by kernel_rfl
theorem sz61 : sizeT prog 61 = some 3 := by kernel_rfl
theorem bld23_31 (a : List UInt8) (b : Int) : ∀ w : World, (Instr.build 101 #[(0, St a), (1, .int .i64 b)]).run prog w = .ok (.agg #[St a, .int .i64 b]) w := fun _ => by kernel_rfl
theorem bls23_32 (a : List UInt8) (b : Int) : ∀ w : World, (Instr.buildSlice 59 1 #[(0, .agg #[St a, .int .i64 b])]).run prog w = .ok (Sv w.heap.size 1 1) (w.alloc (.cells #[St a, .int .i64 b] 101)) := fun _ => by kernel_rfl
theorem ap59 : appT prog 59 = some (101, 2, 24, #[.string ⟨#[]⟩, .int .i64 0]) := by kernel_rfl
theorem sz59 : sizeT prog 59 = some 1 := by kernel_rfl
theorem ag61 : isAggT prog 61 = some true := by kernel_rfl
theorem sym_one (a : List UInt8) (b : Int) : ∀ u ∈ [St a, Value.int .i64 b], u.oneCell' = true := by
 intro u hu; simp at hu; rcases hu with rfl | rfl <;> rfl
theorem symCells_take (l : List (List UInt8 × Int)) (i : Nat) (h : i < l.length) : symCells (l.take i) ++ [St (l[i]).1, .int .i64 (l[i]).2] = symCells (l.take (i + 1)) := by
 unfold symCells; rw [List.take_succ_eq_append_getElem h, List.flatMap_append]; rfl
theorem plain_spec (sv wv : Value) (I : Img) (w : World) (hR : Rep w sv wv I) : CallsR prog 23 #[.agg #[.int .i64 I.entry, sv, wv]] w (fun v w' => ∃ u, v = .agg #[.int .i64 I.entry, u, wv] ∧ Ux.Own w' 2 u I.syms.length (symCells I.syms) ∧ From w.heap.size u ∧ Ext w w') := by
 have hI1 := hR.ls
 have hI2 := hR.lw
 refine Co func23 G G ?_
 refine Sr (WL.box (v := .agg #[.int .i64 I.entry, sv, wv]) G G ?_)
 intro b1 w1 n1
 have E1 : Ext w w1 := n1.ext
 refine WL.alloc zt61 G ?_
 intro b2 w2 n2
 have E2 := Mt E1 n2.ext
 refine Ni (Sr (Fa G fo25_0 ?_))
 have B3 := n1.blk.ext n2.ext
 refine Le (B3.cell (j := 0) G) (Fa G fo25_2 (Le (B3.cell (j := 2) G) (WL.build (v := .agg #[.int .i64 I.entry, .slice none 0 0, wv]) (vs := [(0, .int .i64 I.entry), (2, wv)]) G (by obtain ⟨a, l, c, e⟩ := hR.w.slc; rw [e]; exact bld23_9 _ a l c) G (WL.allocStore (v := .agg #[.int .i64 I.entry, .slice none 0 0, wv]) zt61 G sz61 G G (ones3 G G (hR.w.ext' E2).one) G ?_))))
 intro b3 w3 n3
 have E4 := Mt E2 n3.ext
 refine Ni ?_
 have hb : w.heap.size ≤ b1 ∧ b1 < b2 ∧ b2 < b3 := by have := n1.num; have := n1.size; have := n2.num; have := n2.size; have := n3.num; omega
 refine Sq (Sr (Ae (IN 0) (Ni (Bk ?_))))
 refine WC.loop (fun k f w_ => ∃ i v, (k + i = I.syms.length) ∧ f 0 = .agg #[.int .i64 I.entry, sv, wv] ∧ f 1 = ptr b1 0 ∧ f 2 = ptr b2 0 ∧ f 3 = ptr b3 0 ∧ f 4 = IN i ∧ f 5 = ptr b1 0 ∧ f 6 = .int .i64 I.entry ∧ f 7 = ptr b1 2 ∧ f 8 = wv ∧ f 9 = .agg #[.int .i64 I.entry, .slice none 0 0, wv] ∧ (Ext w w_) ∧ (Blk w_ b1 #[.int .i64 I.entry, sv, wv] 25) ∧ (Blk w_ b2 #[.int .i64 0, .slice none 0 0, .slice none 0 0] 61) ∧ (Blk w_ b3 #[.int .i64 I.entry, v, wv] 61) ∧ (Ux.Own w_ 2 v i (symCells (I.syms.take i))) ∧ (From w.heap.size v) ∧ (v.ownBlock ≠ some b1) ∧ (v.ownBlock ≠ some b2) ∧ (v.ownBlock ≠ some b3)) I.syms.length ?_ ?_
 have B5 := B3.ext n3.ext
 have B6 := n2.blk.ext n3.ext
 ·exact ⟨0, (.slice none 0 0), by omega, G, G, G, G, G, G, G, G, G, G, E4, B5, B6, n3.blk, Ux.Own.nil _ _, (fun g hg => by cases hg), (fun h => by cases h), (fun h => by cases h), (fun h => by cases h)⟩
 rintro ka f1 wr ⟨i, v, hk1, h0_1, h1_1, h2_1, h3_1, h4_1, h5_1, h6_1, h7_1, h8_1, h9_1, hE, hB1, hB2, hB3, hO, hF, hn1, hn2, hn3⟩
 refine Sq (Sr (Mv (IN i) h4_1 (Fa h1_1 fo25_1 (Le (hB1.cell (j := 1) G) (WL.lenSl (sz := 2) (m := I.syms.length) (xs := symCells I.syms) el22 G (hR.s.ext' hE) G (Bn G G BinR.lss (Ni ?_)))))))
 refine WC.cond G (fun hc14 => ?_) (fun hc14 => ?_)
 ·have hi : i < I.syms.length := by have := of_decide_eq_true hc14; omega
  obtain ⟨bs0, os0, cs0, es0, hcs0⟩ := hR.s.at (by omega)
  refine WC.skip (Sq (Bk (WC.draw (fun w_ => Ext w w_ ∧ Blk w_ b1 #[.int .i64 I.entry, sv, wv] 25) 19 G mixed ?_)))
  intro wd_5 ed_5
  have E8 := Mt hE ed_5
  have B9 := hB1.ext ed_5
  refine Tp 0 (ptr b3 1) G G (Fa h3_1 fo61_1 Ok) (⟨E8, B9⟩) (Tp 2 (ptr b1 1) G G (Fa h1_1 fo25_1 Ok) (⟨E8, B9⟩) (Tk 3 sv G G (fun _ hS => Le (hS.2.cell (j := 1) G) Ok) (⟨E8, B9⟩) (Tp 4 (IN i) G G (Mv (IN i) h4_1 Ok) (⟨E8, B9⟩) (Tp 5 (ptr bs0 (os0 + i * 2)) G G (WL.indexAddr (i := i) (b := bs0) (o := os0) el22 sz98 (Eq.trans G es0) G (by omega) G Ok) (⟨E8, B9⟩) (Tp 6 (ptr bs0 (os0 + i * 2)) G G (Fa G fo98_0 Ok) (⟨E8, B9⟩) (Tk 7 (St (I.syms[i]).1) G G (fun _ hS => Lx G ((hcs0.ext hS.1) (i * 2) _ (symCells_get I.syms i (by omega)).1) Ok) (⟨E8, B9⟩) (Tp 8 (ptr b1 1) G G (Fa h1_1 fo25_1 Ok) (⟨E8, B9⟩) (Tk 9 sv G G (fun _ hS => Le (hS.2.cell (j := 1) G) Ok) (⟨E8, B9⟩) (Tp 10 (IN i) G G (Mv (IN i) h4_1 Ok) (⟨E8, B9⟩) (Tp 11 (ptr bs0 (os0 + i * 2)) G G (WL.indexAddr (i := i) (b := bs0) (o := os0) el22 sz98 (Eq.trans G es0) G (by omega) G Ok) (⟨E8, B9⟩) (Tp 12 (ptr bs0 ((os0 + i * 2) + 1)) G G (Fa G fo98_1 Ok) (⟨E8, B9⟩) (Tk 13 (.int .i64 ((I.syms[i]).2)) G G (fun _ hS => Lx G ((hcs0.ext hS.1) (i * 2 + 1) _ (symCells_get I.syms i (by omega)).2) Ok) (⟨E8, B9⟩) (Tp 14 (.agg #[St (I.syms[i]).1, .int .i64 ((I.syms[i]).2)]) G G (WL.build (v := .agg #[St (I.syms[i]).1, .int .i64 ((I.syms[i]).2)]) (vs := [(0, St (I.syms[i]).1), (1, .int .i64 ((I.syms[i]).2))]) G (bld23_31 (I.syms[i]).1 (I.syms[i]).2) G Ok) (⟨E8, B9⟩) ?_)))))))))))))
  refine WA.two (i := 1) (j := 15) (mi := 32767) (mj := 65533) (by kernel_rfl) G G G G ?_ ?_
  ·have B10 := hB3.ext ed_5
   refine Le (B10.cell (j := 1) G) (WL.behind (⟨E8, B9⟩) (WA.one (i := 15) (m' := 65535) (by kernel_rfl) G G (WL.buildSlice (vs := [(0, .agg #[St (I.syms[i]).1, .int .i64 ((I.syms[i]).2)])]) G (bls23_32 (I.syms[i]).1 (I.syms[i]).2) G ?_)))
   intro b32 w32 n32
   have E12 := Mt E8 n32.ext
   have B13 := B9.ext n32.ext
   refine WL.behind (⟨E12, B13⟩) (WA.one (i := 16) (m' := 131071) (by kernel_rfl) G G ?_)
   have O14 := (hO.ext ed_5).ext n32.ext
   refine WL.append (k := i) (m := 1) (xs := symCells (I.syms.take i)) (news := [St (I.syms[i]).1, .int .i64 (I.syms[i]).2]) ap59 G G G O14 (Src.ofSlice _ y59 ⟨b32, 0, none⟩ 1 1 _ G (fun j u hj => by rw [addr_add]; exact n32.blk.cells j u hj) (sym_one _ _)) (by omega) (by omega) rfl ?_
   intro v33 w33 o33 m33 l33
   have o33b : Ux.Own w33 2 v33 (i + 1) (symCells (I.syms.take (i + 1))) := by rw [symCells_take _ _ hi] at o33; exact o33
   have F15 : From w.heap.size v33 := LocV.from l33 (Mod.size E12) hF
   have N16 : v33.ownBlock ≠ some b1 := LocV.ne l33 B13.lt hn1
   have B18 := (hB2.ext ed_5).ext n32.ext
   have N17 : v33.ownBlock ≠ some b2 := LocV.ne l33 B18.lt hn2
   have B20 := B10.ext n32.ext
   have N19 : v33.ownBlock ≠ some b3 := LocV.ne l33 B20.lt hn3
   have E21 : Ext w w33 := Mod.from E12 m33 hF
   have B22 := B13.mod m33 hn1
   refine WL.behind (⟨E21, B22⟩) (Tp 17 (ptr b3 1) G G (Fa h3_1 fo61_1 Ok) (⟨E21, B22⟩) (WA.one (i := 18) (m' := 524287) (by kernel_rfl) G G ?_))
   have B23 := B20.mod m33 hn3
   refine WL.storeB (v := v33) G G o33b.sl.one sz59 B23 (Nat.le_of_ble_eq_true G) ?_
   intro ws24 ms24 bs24 zs24
   have E24 : Ext w ws24 := Mod.then E21 ms24 (fun i hi (e : i = b3) => absurd hi (by omega))
   have B25 := B22.mod ms24 (by omega)
   refine WL.behind (⟨E24, B25⟩) (WA.done (by kernel_rfl) (Rg (Mv (IN i) h4_1 (Bn G G (BinR.succN (by omega)) (Ae (IN (i + 1)) (Ni ?_))))))
   have B26 := (B18.mod m33 hn2).mod ms24 (by omega)
   have O27 := o33b.mod ms24 (fun g hg e => N19 (hg.trans (congrArg some e)))
   exact ⟨ka - 1, by omega, (i + 1), v33, by omega, h0_1, h1_1, h2_1, h3_1, G, h5_1, h6_1, h7_1, h8_1, h9_1, E24, B25, B26, bs24, O27, F15, N16, N17, N19⟩
  ·refine WL.buildSlice (vs := [(0, .agg #[St (I.syms[i]).1, .int .i64 ((I.syms[i]).2)])]) G (bls23_32 (I.syms[i]).1 (I.syms[i]).2) G ?_
   intro b32 w32 n32
   have E29 := Mt E8 n32.ext
   have B30 := B9.ext n32.ext
   refine WL.behind (⟨E29, B30⟩) (WA.one (i := 1) (m' := 65535) (by kernel_rfl) G G ?_)
   have B31 := (hB3.ext ed_5).ext n32.ext
   refine Le (B31.cell (j := 1) G) (WL.behind (⟨E29, B30⟩) (WA.one (i := 16) (m' := 131071) (by kernel_rfl) G G ?_))
   have O32 := (hO.ext ed_5).ext n32.ext
   refine WL.append (k := i) (m := 1) (xs := symCells (I.syms.take i)) (news := [St (I.syms[i]).1, .int .i64 (I.syms[i]).2]) ap59 G G G O32 (Src.ofSlice _ y59 ⟨b32, 0, none⟩ 1 1 _ G (fun j u hj => by rw [addr_add]; exact n32.blk.cells j u hj) (sym_one _ _)) (by omega) (by omega) rfl ?_
   intro v33 w33 o33 m33 l33
   have o33b : Ux.Own w33 2 v33 (i + 1) (symCells (I.syms.take (i + 1))) := by rw [symCells_take _ _ hi] at o33; exact o33
   have F33 : From w.heap.size v33 := LocV.from l33 (Mod.size E29) hF
   have N34 : v33.ownBlock ≠ some b1 := LocV.ne l33 B30.lt hn1
   have B36 := (hB2.ext ed_5).ext n32.ext
   have N35 : v33.ownBlock ≠ some b2 := LocV.ne l33 B36.lt hn2
   have N37 : v33.ownBlock ≠ some b3 := LocV.ne l33 B31.lt hn3
   have E38 : Ext w w33 := Mod.from E29 m33 hF
   have B39 := B30.mod m33 hn1
   refine WL.behind (⟨E38, B39⟩) (Tp 17 (ptr b3 1) G G (Fa h3_1 fo61_1 Ok) (⟨E38, B39⟩) (WA.one (i := 18) (m' := 524287) (by kernel_rfl) G G ?_))
   have B40 := B31.mod m33 hn3
   refine WL.storeB (v := v33) G G o33b.sl.one sz59 B40 (Nat.le_of_ble_eq_true G) ?_
   intro ws41 ms41 bs41 zs41
   have E41 : Ext w ws41 := Mod.then E38 ms41 (fun i hi (e : i = b3) => absurd hi (by omega))
   have B42 := B39.mod ms41 (by omega)
   refine WL.behind (⟨E41, B42⟩) (WA.done (by kernel_rfl) (Rg (Mv (IN i) h4_1 (Bn G G (BinR.succN (by omega)) (Ae (IN (i + 1)) (Ni ?_))))))
   have B43 := (B36.mod m33 hn2).mod ms41 (by omega)
   have O44 := o33b.mod ms41 (fun g hg e => N37 (hg.trans (congrArg some e)))
   exact ⟨ka - 1, by omega, (i + 1), v33, by omega, h0_1, h1_1, h2_1, h3_1, G, h5_1, h6_1, h7_1, h8_1, h9_1, E41, B42, B43, bs41, O44, F33, N34, N35, N37⟩
 ·have hi : I.syms.length ≤ i := by have := of_decide_eq_false hc14; omega
  refine WC.exit (Sr (Ls [.int .i64 I.entry, v, wv] h3_1 ag61 sz61 hB3 (WL.storeS (v := .agg #[.int .i64 I.entry, v, wv]) h2_1 G hB2 G sz61 G (ones3 G hO.sl.one (hR.w.ext' hE).one) ?_)))
  intro ws45 ms45 bs45 zs45
  have E45 : Ext w ws45 := Mod.then hE ms45 (fun i hi (e : i = b2) => absurd hi (by omega))
  refine Ni (WC.ret ?_)
  have O46 := hO.mod ms45 (fun g hg e => hn2 (hg.trans (congrArg some e)))
  exact ⟨_, Res.cell G h2_1 (loadVar_agg [.int .i64 I.entry, v, wv] ag61 sz61 G (bs45.sub (o := 0) G)), v, G, (by have h := O46; rw [show i = I.syms.length by omega, List.take_length] at h; exact h), hF, E45⟩
end Go.Proofs.R
end
section
namespace Go.Proofs.S
open Go Go.Ux Go.Ux.Mach Go.Proofs Go.Proofs.M Go.Ux.Image
open Tryz
theorem whereR_none {n : Nat} {addr : BitVec 64} {size : Nat} (h : size = 1 ∨ size = 2 ∨ size = 4 ∨ size = 8) (hW : whereM n addr size = none) : whereR n addr size = (0, 0) := by rw [whereR_eq n addr size h, hW]
theorem whereR_some {n : Nat} {addr : BitVec 64} {size : Nat} {q : Bool} {o : Nat} (h : size = 1 ∨ size = 2 ∨ size = 4 ∨ size = 8) (hW : whereM n addr size = some (q, o)) : whereR n addr size = (bif q then 1 else 2, o) := by rw [whereR_eq n addr size h, hW]; cases q <;> rfl
theorem whereM_le {n : Nat} {addr : BitVec 64} {size : Nat} {q : Bool} {o : Nat} (hW : whereM n addr size = some (q, o)) : o + size ≤ bif q then n else 65536 := by
 unfold whereM at hW
 split at hW
 ·cases hW
 split at hW
 ·cases hW; show _ ≤ n; omega
 split at hW
 ·cases hW; show _ ≤ 65536; omega
 ·cases hW
end Go.Proofs.S
end
