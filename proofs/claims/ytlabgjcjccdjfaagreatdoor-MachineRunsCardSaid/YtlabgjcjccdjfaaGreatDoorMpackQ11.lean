/- Steps of the proof, packed by program: McO6 McRf McO7 McRef McRR McN1 McTr McN2 McN3 McN4. -/
import Derived.Test.YtlabgjcjccdjfaaGreatDoorRows
import Derived.Test.YtlabgjcjccdjfaaGreatDoorMpackQ02
import Derived.Test.YtlabgjcjccdjfaaGreatDoorMpackQ03
import Derived.Test.YtlabgjcjccdjfaaGreatDoorMpackQ09
import Derived.Test.YtlabgjcjccdjfaaGreatDoorMpackQ10
set_option linter.unusedVariables false
set_option linter.unusedSimpArgs false
set_option linter.unnecessarySimpa false
set_option maxRecDepth 100000
section
set_option linter.unusedSimpArgs false
set_option linter.unusedVariables false
namespace Go.Proofs.S
open Go Go.Ux Go.Ux.Mach Go.Proofs
theorem fo104_0 : fieldOff Tryz.prog 104 0 = some 0 := by kernel_rfl
theorem ca41 : callable Tryz.prog 41 = true := by kernel_rfl
theorem fo104_4 : fieldOff Tryz.prog 104 4 = some 4 := by kernel_rfl
theorem ca81 : callable Tryz.prog 81 = true := by kernel_rfl
theorem ca82 : callable Tryz.prog 82 = true := by kernel_rfl
theorem ca83 : callable Tryz.prog 83 = true := by kernel_rfl
theorem half2 (y : BitVec 64) : y / 2#64 * 2#64 = y &&& ~~~1#64 := by
 apply BitVec.eq_of_getLsbD_eq
 intro i hi
 have e : y / 2#64 * 2#64 = (y >>> 1) <<< 1 := by
  apply BitVec.eq_of_toNat_eq
  rw [BitVec.toNat_mul, BitVec.toNat_udiv, BitVec.toNat_shiftLeft, BitVec.toNat_ushiftRight, Nat.shiftLeft_eq, Nat.shiftRight_eq_div_pow]; rfl
 rw [e, BitVec.getLsbD_shiftLeft, BitVec.getLsbD_ushiftRight, BitVec.getLsbD_and, BitVec.getLsbD_not]
 have h1 : (1#64).getLsbD i = decide (i = 0) := by rw [BitVec.getLsbD_one]; simp
 rw [h1]
 by_cases h0 : i = 0
 ·subst h0; simp
 ·have : 1 + (i - 1) = i := by omega
  rw [this]
  have h3 : ¬ i < 1 := by omega
  simp [h0, hi, h3]
def nmQ (s : List UInt8) : List UInt8 := if (immQ s != []) = true then immQ s else s
def yQ (s : List UInt8) (n y : BitVec 64) : BitVec 64 := if (immQ s != []) = true then n else y
def doQ (s : List UInt8) (n pc x y : BitVec 64) : BitVec 64 × BitVec 64 := bif ([[108, 117, 105]].any fun c => nmQ s == c) then (n, pc + 4#64) else bif ([[97, 117, 105, 112, 99]].any fun c => nmQ s == c) then (pc + n, pc + 4#64) else bif ([[106, 97, 108]].any fun c => nmQ s == c) then (pc + 4#64, pc + n) else bif ([[106, 97, 108, 114]].any fun c => nmQ s == c) then (pc + 4#64, (x + n) &&& ~~~1#64) else bif ([[98, 101, 113], [98, 110, 101], [98, 108, 116], [98, 103, 101], [98, 108, 116, 117], [98, 103, 101, 117]].any fun c => nmQ s == c) then (0#64, if jumpsQ (nmQ s) x (yQ s n y) = true then pc + n else pc + 4#64) else bif ([[108, 98], [108, 104], [108, 119], [108, 100], [108, 98, 117], [108, 104, 117], [108, 119, 117], [115, 98], [115, 104], [115, 119], [115, 100], [102, 101, 110, 99, 101], [101, 99, 97, 108, 108], [101, 98, 114, 101, 97, 107]].any fun c => nmQ s == c) then (0#64, pc + 4#64) else if (decide ((3 : Int) < (((nmQ s).length : Nat) : Int)) && (((nmQ s).getD ((nmQ s).length - 1) 0).toBitVec == 119#8)) = true then (wordQ (nmQ s) x (yQ s n y), pc + 4#64) else (arithQ (nmQ s) x (yQ s n y), pc + 4#64)
theorem nm_len {s : List UInt8} (h : s.length ≤ 1000) : (nmQ s).length ≤ 1000 := by
 unfold nmQ; split
 ·unfold immQ
  have e : ∀ (b : Bool) (x y : List UInt8), x.length ≤ 1000 → y.length ≤ 1000 → (bif b then x else y).length ≤ 1000 := fun b x y hx hy => by cases b <;> assumption
  refine e _ _ _ (by decide) (e _ _ _ (by rw [List.length_take]; omega) (e _ _ _ (by rw [List.length_append, List.length_take]; show _ + 1 ≤ _; omega) (by decide)))
 ·exact h
theorem do_q (op rd rs1 rs2 : BitVec 8) (imm pc x y : BitVec 64) (w : World) (s : List UInt8) (h2 : op.toNat < 66) (hs : s = (rvAt op.toNat).name) : CallsR Tryz.prog 42 #[.agg #[U8 op, U8 rd, U8 rs1, U8 rs2, I64 imm], U64 pc, U64 x, U64 y] w (fun v w' => v = .tuple #[U64 (doQ s imm pc x y).1, U64 (doQ s imm pc x y).2] ∧ Ext w w') := by
 have hsl : s.length ≤ 1000 := by rw [hs]; have := name_len h2; omega
 refine callsR_of Tryz.func42 G G G ?_
 refine Sr (WL.box (v := .agg #[U8 op, U8 rd, U8 rs1, U8 rs2, I64 imm]) G G ?_)
 intro b4 w4 n4
 have E1 : Ext w w4 := n4.ext
 refine An (U64 (0#64)) G (An (U64 (0#64)) G (Ni (Sr (Fa G fo104_0 (Lo G ag5 (n4.blk.cell (j := 0) G) (WL.call ca41 G G (name_q op _ h2) ?_))))))
 rintro _ w14 ⟨rfl, e14⟩
 rw [← hs]
 have E2 := Mt E1 e14
 refine An (St s) G (Ni (Sr (Fa G fo104_4 ?_)))
 have B3 := n4.blk.ext e14
 refine Lo G ag2 (B3.cell (j := 4) G) (Cv G (ConvR.i64u64 Tryz.underlying2 Tryz.underlying39) (An (U64 imm) G (Ni (Sq (Sr (Mv (St s) G (WL.call ca81 G G (imm_q s _ hsl) ?_)))))))
 rintro _ wc19 ⟨rfl, ec19⟩
 have E4 := Mt E2 ec19
 refine Bn (vy := St []) G G BinR.neqS (Ni ?_)
 refine WC.cut (fun f' w_ => f' 0 = .agg #[U8 op, U8 rd, U8 rs1, U8 rs2, I64 imm] ∧ f' 1 = U64 pc ∧ f' 2 = U64 x ∧ f' 3 = U64 (yQ s imm y) ∧ f' 4 = ptr b4 0 ∧ f' 8 = U64 (0#64) ∧ f' 9 = U64 (0#64) ∧ f' 10 = St (nmQ s) ∧ f' 11 = U64 imm ∧ f' 12 = ptr b4 0 ∧ f' 13 = U8 op ∧ f' 14 = St s ∧ f' 15 = ptr b4 4 ∧ f' 16 = I64 imm ∧ f' 17 = U64 imm ∧ f' 18 = St s ∧ f' 19 = St (immQ s) ∧ f' 20 = .bool (((immQ s) != [])) ∧ Ext w w_) ?_ ?_
 ·refine WC.cond G (fun hc20 => ?_) (fun hc20 => ?_)
  ·refine Sr (Mv (St s) G (WL.call ca81 G G (imm_q s _ hsl) ?_))
   rintro _ wc22 ⟨rfl, ec22⟩
   have E5 := Mt E4 ec22
   refine An (St (immQ s)) G (Ni (Rg (Mv (U64 imm) G (An (U64 imm) G (Ni ?_)))))
   have e10 : (immQ s) = nmQ s := by unfold nmQ; rw [hc20]; rfl
   have e3 : imm = yQ s imm y := by unfold yQ; rw [hc20]; rfl
   exact ⟨G, G, G, G, (congrArg U64 e3), G, G, G, (congrArg St e10), G, G, G, G, G, G, G, G, G, G, E5⟩
  ·refine WC.skip ?_
   have e10 : s = nmQ s := by unfold nmQ; rw [hc20]; rfl
   have e3 : y = yQ s imm y := by unfold yQ; rw [hc20]; rfl
   exact ⟨G, G, G, G, (congrArg U64 e3), G, G, G, (congrArg St e10), G, G, G, G, G, G, G, G, G, G, E4⟩
 rintro fc90020 wcc ⟨hc90020_0, hc90020_1, hc90020_2, hc90020_3, hc90020_4, hc90020_8, hc90020_9, hc90020_10, hc90020_11, hc90020_12, hc90020_13, hc90020_14, hc90020_15, hc90020_16, hc90020_17, hc90020_18, hc90020_19, hc90020_20, hEc⟩
 refine Sq (Sr (Mv (St (nmQ s)) hc90020_10 (Ni (Bk (Sq ?_)))))
 refine WC.orS (x := 24) (d := 25) (s := (nmQ s)) (cs := [[108, 117, 105]]) (ts := [26]) (by kernel_rfl) G (fun g6 => ?_)
 refine WC.cond G (fun hc25 => ?_) (fun hc25 => ?_)
 ·refine Sr (Mv (U64 imm) hc90020_11 (Mv (U64 pc) hc90020_1 (Bn (vy := U64 (4#64)) G G BinR.addU64 (An (U64 imm) G (An (U64 ((pc + 4#64))) G (Ni (WC.ret ?_)))))))
  have hfin : doQ s imm pc x y = (imm, (pc + 4#64)) := by unfold doQ; rw [hc25]; first | rfl | rfl
  exact ⟨_, Res.two (v := U64 imm) (v' := U64 ((pc + 4#64))) G G G, by rw [hfin], hEc⟩
 ·refine Sq ?_
  refine WC.orS (x := 24) (d := 30) (s := (nmQ s)) (cs := [[97, 117, 105, 112, 99]]) (ts := [31]) (by kernel_rfl) G (fun g7 => ?_)
  refine WC.cond G (fun hc30 => ?_) (fun hc30 => ?_)
  ·refine Sr (Mv (U64 pc) hc90020_1 (Mv (U64 imm) hc90020_11 (Bn G G BinR.addU64 (Mv (U64 pc) hc90020_1 (Bn (vy := U64 (4#64)) G G BinR.addU64 (An (U64 ((pc + imm))) G (An (U64 ((pc + 4#64))) G (Ni ?_))))))))
   refine WC.ret ?_
   have hfin : doQ s imm pc x y = ((pc + imm), (pc + 4#64)) := by unfold doQ; rw [hc25, hc30]; first | rfl | rfl
   exact ⟨_, Res.two (v := U64 ((pc + imm))) (v' := U64 ((pc + 4#64))) G G G, by rw [hfin], hEc⟩
  ·refine Sq ?_
   refine WC.orS (x := 24) (d := 37) (s := (nmQ s)) (cs := [[106, 97, 108]]) (ts := [38]) (by kernel_rfl) G (fun g8 => ?_)
   refine WC.cond G (fun hc37 => ?_) (fun hc37 => ?_)
   ·refine Sr (Mv (U64 pc) hc90020_1 (Bn (vy := U64 (4#64)) G G BinR.addU64 (Mv (U64 pc) hc90020_1 (Mv (U64 imm) hc90020_11 (Bn G G BinR.addU64 (An (U64 ((pc + 4#64))) G (An (U64 ((pc + imm))) G (Ni ?_))))))))
    refine WC.ret ?_
    have hfin : doQ s imm pc x y = ((pc + 4#64), (pc + imm)) := by unfold doQ; rw [hc25, hc30, hc37]; first | rfl | rfl
    exact ⟨_, Res.two (v := U64 ((pc + 4#64))) (v' := U64 ((pc + imm))) G G G, by rw [hfin], hEc⟩
   ·refine Sq ?_
    refine WC.orS (x := 24) (d := 44) (s := (nmQ s)) (cs := [[106, 97, 108, 114]]) (ts := [45]) (by kernel_rfl) G (fun g9 => ?_)
    refine WC.cond G (fun hc44 => ?_) (fun hc44 => ?_)
    ·refine Sr (Mv (U64 pc) hc90020_1 (Bn (vy := U64 (4#64)) G G BinR.addU64 (Mv (U64 x) hc90020_2 (Mv (U64 imm) hc90020_11 (Bn G G BinR.addU64 (Bn (vy := U64 (2#64)) G G (BinR.quoU64 (by decide)) (Bn (vy := U64 (2#64)) G G ((half2 (x + imm)) ▸ BinR.mulU64) (An (U64 ((pc + 4#64))) G ?_))))))))
     refine An (U64 (((x + imm) &&& ~~~1#64))) G (Ni (WC.ret ?_))
     have hfin : doQ s imm pc x y = ((pc + 4#64), ((x + imm) &&& ~~~1#64)) := by unfold doQ; rw [hc25, hc30, hc37, hc44]; first | rfl | rfl
     exact ⟨_, Res.two (v := U64 ((pc + 4#64))) (v' := U64 (((x + imm) &&& ~~~1#64))) G G G, by rw [hfin], hEc⟩
    ·refine Sq ?_
     refine WC.orS (x := 24) (d := 53) (s := (nmQ s)) (cs := [[98, 101, 113], [98, 110, 101], [98, 108, 116], [98, 103, 101], [98, 108, 116, 117], [98, 103, 101, 117]]) (ts := [54, 55, 56, 57, 58, 59]) (by kernel_rfl) G (fun g10 => ?_)
     refine WC.cond G (fun hc53 => ?_) (fun hc53 => ?_)
     ·refine Sq (Sr (Mv (St (nmQ s)) hc90020_10 (Mv (U64 x) hc90020_2 (Mv (U64 (yQ s imm y)) hc90020_3 (WL.call ca82 G G (jumps_q (nmQ s) x (yQ s imm y) _) ?_)))))
      rintro _ wc63 ⟨rfl, ec63⟩
      have E11 := Mt hEc ec63
      refine Ni ?_
      refine WC.cond G (fun hc63 => ?_) (fun hc63 => ?_)
      ·refine Sr (Mv (U64 pc) hc90020_1 (Mv (U64 imm) hc90020_11 (Bn G G BinR.addU64 (An (U64 (0#64)) G (An (U64 ((pc + imm))) G (Ni (WC.ret ?_)))))))
       have hfin : doQ s imm pc x y = (0#64, (pc + imm)) := by unfold doQ; rw [hc25, hc30, hc37, hc44, hc53]; first | rfl | (rw [hc63]; rfl)
       exact ⟨_, Res.two (v := U64 (0#64)) (v' := U64 ((pc + imm))) G G G, by rw [hfin], E11⟩
      ·refine WC.skip (Sr (Mv (U64 pc) hc90020_1 (Bn (vy := U64 (4#64)) G G BinR.addU64 (An (U64 (0#64)) G (An (U64 ((pc + 4#64))) G (Ni (WC.ret ?_)))))))
       have hfin : doQ s imm pc x y = (0#64, (pc + 4#64)) := by unfold doQ; rw [hc25, hc30, hc37, hc44, hc53]; first | rfl | (rw [hc63]; rfl)
       exact ⟨_, Res.two (v := U64 (0#64)) (v' := U64 ((pc + 4#64))) G G G, by rw [hfin], E11⟩
     ·refine Sq ?_
      refine WC.orS (x := 24) (d := 69) (s := (nmQ s)) (cs := [[108, 98], [108, 104], [108, 119], [108, 100], [108, 98, 117], [108, 104, 117], [108, 119, 117], [115, 98], [115, 104], [115, 119], [115, 100], [102, 101, 110, 99, 101], [101, 99, 97, 108, 108], [101, 98, 114, 101, 97, 107]]) (ts := [70, 71, 72, 73, 74, 75, 76, 77, 78, 79, 80, 81, 82, 83]) (by kernel_rfl) G (fun g12 => ?_)
      refine WC.cond G (fun hc69 => ?_) (fun hc69 => ?_)
      ·refine Sr (Mv (U64 pc) hc90020_1 (Bn (vy := U64 (4#64)) G G BinR.addU64 (An (U64 (0#64)) G (An (U64 ((pc + 4#64))) G (Ni (WC.ret ?_))))))
       have hfin : doQ s imm pc x y = (0#64, (pc + 4#64)) := by unfold doQ; rw [hc25, hc30, hc37, hc44, hc53, hc69]; first | rfl | rfl
       exact ⟨_, Res.two (v := U64 (0#64)) (v' := U64 ((pc + 4#64))) G G G, by rw [hfin], hEc⟩
      ·refine WC.skip (Sq (Sr (Mv (St (nmQ s)) hc90020_10 (WL.lenSt Tryz.underlying9 G G (Bn G G BinR.gtr (Mv (.bool (decide ((3 : Int) < (((nmQ s).length : Nat) : Int)))) G ?_))))))
       rcases Bool.eq_false_or_eq_true (decide ((3 : Int) < (((nmQ s).length : Nat) : Int))) with hg89 | hg89
       ·refine WL.guardT (yf_bool rfl rfl hg89) (WL.move (v := St (nmQ s)) hc90020_10 rfl (WL.guardT (yf_bool rfl rfl hg89) (WL.move (v := St (nmQ s)) hc90020_10 rfl (WL.guardT (yf_bool rfl rfl hg89) (WL.lenSt Tryz.underlying9 rfl rfl (WL.guardT (yf_bool rfl rfl hg89) (WL.bin rfl rfl rfl (BinR.subN (b := 1) (by have := of_decide_eq_true hg89; omega) (by have : (nmQ s).length ≤ 1000 := nm_len hsl; omega)) (WL.guardT (yf_bool rfl rfl hg89) (WL.indexSt (i := (nmQ s).length - 1) Tryz.underlying9 rfl rfl (by have := of_decide_eq_true hg89; omega) rfl ?_)))))))))
        refine Gt (Yb G G hg89) (Bn (vy := U8 (119#8)) G G BinR.eqlU8 (Pk (b := true) (congrArg Value.bool hg89) G (Ni ?_)))
        refine WC.cond G (fun hc96 => ?_) (fun hc96 => ?_)
        ·refine Sr (Mv (St (nmQ s)) hc90020_10 (Mv (U64 x) hc90020_2 (Mv (U64 (yQ s imm y)) hc90020_3 (WL.call ca83 G G (word_q (nmQ s) x (yQ s imm y) _ (by have := of_decide_eq_true hg89; omega)) ?_))))
         rintro _ wc100 ⟨rfl, ec100⟩
         have E13 := Mt hEc ec100
         refine Mv (U64 pc) hc90020_1 (Bn (vy := U64 (4#64)) G G BinR.addU64 (An (U64 ((wordQ (nmQ s) x (yQ s imm y)))) G (An (U64 ((pc + 4#64))) G (Ni (WC.ret ?_)))))
         have hfin : doQ s imm pc x y = ((wordQ (nmQ s) x (yQ s imm y)), (pc + 4#64)) := by unfold doQ; rw [hc25, hc30, hc37, hc44, hc53, hc69]; first | rfl | (rw [hg89, hc96]; rfl)
         exact ⟨_, Res.two (v := U64 ((wordQ (nmQ s) x (yQ s imm y)))) (v' := U64 ((pc + 4#64))) G G G, by rw [hfin], E13⟩
        ·refine WC.skip (Sr (Mv (St (nmQ s)) hc90020_10 (Mv (U64 x) hc90020_2 (Mv (U64 (yQ s imm y)) hc90020_3 (WL.call ca84 G G (arith_q (nmQ s) x (yQ s imm y) _) ?_)))))
         rintro _ wc106 ⟨rfl, ec106⟩
         have E14 := Mt hEc ec106
         refine Mv (U64 pc) hc90020_1 (Bn (vy := U64 (4#64)) G G BinR.addU64 (An (U64 ((arithQ (nmQ s) x (yQ s imm y)))) G (An (U64 ((pc + 4#64))) G (Ni (WC.ret ?_)))))
         have hfin : doQ s imm pc x y = ((arithQ (nmQ s) x (yQ s imm y)), (pc + 4#64)) := by unfold doQ; rw [hc25, hc30, hc37, hc44, hc53, hc69]; first | rfl | (rw [hg89, hc96]; rfl)
         exact ⟨_, Res.two (v := U64 ((arithQ (nmQ s) x (yQ s imm y)))) (v' := U64 ((pc + 4#64))) G G G, by rw [hfin], E14⟩
       ·refine Gf false (Yb G G hg89) (Gf false (Yb G G hg89) (Gf false (Yb G G hg89) (Gf false (Yb G G hg89) (Gf false (Yb G G hg89) (Gf false (Yb G G hg89) (Pk (b := false) (congrArg Value.bool hg89) G (Ni (Cf G (WC.skip ?_)))))))))
        refine Sr (Mv (St (nmQ s)) hc90020_10 (Mv (U64 x) hc90020_2 (Mv (U64 (yQ s imm y)) hc90020_3 (WL.call ca84 G G (arith_q (nmQ s) x (yQ s imm y) _) ?_))))
        rintro _ wc106 ⟨rfl, ec106⟩
        have E15 := Mt hEc ec106
        refine Mv (U64 pc) hc90020_1 (Bn (vy := U64 (4#64)) G G BinR.addU64 (An (U64 ((arithQ (nmQ s) x (yQ s imm y)))) G (An (U64 ((pc + 4#64))) G (Ni (WC.ret ?_)))))
        have hfin : doQ s imm pc x y = ((arithQ (nmQ s) x (yQ s imm y)), (pc + 4#64)) := by unfold doQ; rw [hc25, hc30, hc37, hc44, hc53, hc69]; first | rfl | (rw [hg89]; rfl)
        exact ⟨_, Res.two (v := U64 ((arithQ (nmQ s) x (yQ s imm y)))) (v' := U64 ((pc + 4#64))) G G G, by rw [hfin], E15⟩
end Go.Proofs.S
end
section
namespace Go.Proofs.S
open Go Go.Ux Go.Ux.Mach Go.Proofs Go.Proofs.M Go.Ux.Image
open Go.Proofs.N (doM loadsM)
set_option linter.unusedVariables false
theorem do_eq : ∀ (op : Nat) (imm pc x y : BitVec 64), 1 ≤ op → op < 66 → doQ (rvAt op).name imm pc x y = doM op imm pc x y
 | 0, _, _, _, _, h, _ => absurd h (by decide)
 | 1, imm, pc, x, y, _, _ => by kernel_rfl
 | 2, imm, pc, x, y, _, _ => by kernel_rfl
 | 3, imm, pc, x, y, _, _ => by kernel_rfl
 | 4, imm, pc, x, y, _, _ => by kernel_rfl
 | 5, imm, pc, x, y, _, _ => by kernel_rfl
 | 6, imm, pc, x, y, _, _ => by kernel_rfl
 | 7, imm, pc, x, y, _, _ => by kernel_rfl
 | 8, imm, pc, x, y, _, _ => by kernel_rfl
 | 9, imm, pc, x, y, _, _ => by kernel_rfl
 | 10, imm, pc, x, y, _, _ => by kernel_rfl
 | 11, imm, pc, x, y, _, _ => by kernel_rfl
 | 12, imm, pc, x, y, _, _ => by kernel_rfl
 | 13, imm, pc, x, y, _, _ => by kernel_rfl
 | 14, imm, pc, x, y, _, _ => by kernel_rfl
 | 15, imm, pc, x, y, _, _ => by kernel_rfl
 | 16, imm, pc, x, y, _, _ => by kernel_rfl
 | 17, imm, pc, x, y, _, _ => by kernel_rfl
 | 18, imm, pc, x, y, _, _ => by kernel_rfl
 | 19, imm, pc, x, y, _, _ => by kernel_rfl
 | 20, imm, pc, x, y, _, _ => by kernel_rfl
 | 21, imm, pc, x, y, _, _ => by kernel_rfl
 | 22, imm, pc, x, y, _, _ => by kernel_rfl
 | 23, imm, pc, x, y, _, _ => by kernel_rfl
 | 24, imm, pc, x, y, _, _ => by kernel_rfl
 | 25, imm, pc, x, y, _, _ => by kernel_rfl
 | 26, imm, pc, x, y, _, _ => by kernel_rfl
 | 27, imm, pc, x, y, _, _ => by kernel_rfl
 | 28, imm, pc, x, y, _, _ => by kernel_rfl
 | 29, imm, pc, x, y, _, _ => by kernel_rfl
 | 30, imm, pc, x, y, _, _ => by kernel_rfl
 | 31, imm, pc, x, y, _, _ => by kernel_rfl
 | 32, imm, pc, x, y, _, _ => by kernel_rfl
 | 33, imm, pc, x, y, _, _ => by kernel_rfl
 | 34, imm, pc, x, y, _, _ => by kernel_rfl
 | 35, imm, pc, x, y, _, _ => by kernel_rfl
 | 36, imm, pc, x, y, _, _ => by kernel_rfl
 | 37, imm, pc, x, y, _, _ => by kernel_rfl
 | 38, imm, pc, x, y, _, _ => by kernel_rfl
 | 39, imm, pc, x, y, _, _ => by kernel_rfl
 | 40, imm, pc, x, y, _, _ => by kernel_rfl
 | 41, imm, pc, x, y, _, _ => by kernel_rfl
 | 42, imm, pc, x, y, _, _ => by kernel_rfl
 | 43, imm, pc, x, y, _, _ => by kernel_rfl
 | 44, imm, pc, x, y, _, _ => by kernel_rfl
 | 45, imm, pc, x, y, _, _ => by kernel_rfl
 | 46, imm, pc, x, y, _, _ => by kernel_rfl
 | 47, imm, pc, x, y, _, _ => by kernel_rfl
 | 48, imm, pc, x, y, _, _ => by kernel_rfl
 | 49, imm, pc, x, y, _, _ => by kernel_rfl
 | 50, imm, pc, x, y, _, _ => by kernel_rfl
 | 51, imm, pc, x, y, _, _ => by kernel_rfl
 | 52, imm, pc, x, y, _, _ => by kernel_rfl
 | 53, imm, pc, x, y, _, _ => by kernel_rfl
 | 54, imm, pc, x, y, _, _ => by kernel_rfl
 | 55, imm, pc, x, y, _, _ => by kernel_rfl
 | 56, imm, pc, x, y, _, _ => by kernel_rfl
 | 57, imm, pc, x, y, _, _ => by kernel_rfl
 | 58, imm, pc, x, y, _, _ => by kernel_rfl
 | 59, imm, pc, x, y, _, _ => by kernel_rfl
 | 60, imm, pc, x, y, _, _ => by kernel_rfl
 | 61, imm, pc, x, y, _, _ => by kernel_rfl
 | 62, imm, pc, x, y, _, _ => by kernel_rfl
 | 63, imm, pc, x, y, _, _ => by kernel_rfl
 | 64, imm, pc, x, y, _, _ => by kernel_rfl
 | 65, imm, pc, x, y, _, _ => by kernel_rfl
 | n + 66, _, _, _, _, _, h => absurd h (by omega)
end Go.Proofs.S
end
section
set_option linter.unusedSimpArgs false
set_option linter.unusedVariables false
namespace Go.Proofs.S
open Go Go.Ux Go.Ux.Mach Go.Proofs
theorem zt104 : zeroT Tryz.prog 104 = some #[.int .u8 0, .int .u8 0, .int .u8 0, .int .u8 0, .int .i64 0] := by kernel_rfl
theorem ca76 : callable Tryz.prog 76 = true := by kernel_rfl
theorem ca77 : callable Tryz.prog 77 = true := by kernel_rfl
theorem bld40_34 (p : BitVec 8) (z : BitVec 64) : ∀ w : World, (Instr.build 104 #[(0, U8 p), (4, I64 z)]).run Tryz.prog w = .ok (.agg #[U8 p, .int .u8 0, .int .u8 0, .int .u8 0, I64 z]) w := fun _ => by kernel_rfl
theorem sz104 : sizeT Tryz.prog 104 = some 5 := by kernel_rfl
theorem ca78 : callable Tryz.prog 78 = true := by kernel_rfl
theorem fo104_1 : fieldOff Tryz.prog 104 1 = some 1 := by kernel_rfl
theorem fo104_2 : fieldOff Tryz.prog 104 2 = some 2 := by kernel_rfl
theorem fo104_3 : fieldOff Tryz.prog 104 3 = some 3 := by kernel_rfl
theorem ag104 : isAggT Tryz.prog 104 = some true := by kernel_rfl
theorem bld40_61  : ∀ w : World, (Instr.build 104 #[]).run Tryz.prog w = .ok (.agg #[.int .u8 0, .int .u8 0, .int .u8 0, .int .u8 0, IN 0]) w := fun _ => by kernel_rfl
open Go.Proofs.M (instV rowIs decReg decodeAt)
theorem hl_next {i : Nat} {x : BitVec 32} (hl : ∀ j, j < i → rowIs (rvAt (j + 1)) x = false) (h : rowIs (rvAt (i + 1)) x = false) : ∀ j, j < i + 1 → rowIs (rvAt (j + 1)) x = false := fun j hj => by
 rcases Nat.lt_or_ge j i with h' | h'
 ·exact hl j h'
 ·obtain rfl : j = i := by omega
  exact h
theorem decode_q (x : BitVec 32) (w : World) : CallsR Tryz.prog 40 #[U32 x] w (fun v w' => v = .tuple #[instV (decI x), IN (decE x)] ∧ Ext w w') := by
 refine callsR_of Tryz.func40 G G G ?_
 refine Sr (WL.alloc zt104 G ?_)
 intro b2 w2 n2
 have E1 : Ext w w2 := n2.ext
 have hb2 : w.heap.size ≤ b2 := by have := n2.num; omega
 refine An (IN 0) G (Ni (Sr (WL.call ca75 G G (rows_q _) ?_)))
 rintro _ wR ⟨bR, rfl, hR, zR, eR⟩
 have ne_b2 : b2 ≠ bR := by have h1 := n2.blk.lt; omega
 have E2 := Mt E1 eR
 refine An (.slice (some ⟨bR, 0, none⟩) 65 65) G (Ni ?_)
 have B3 := n2.blk.ext eR
 have h2z : Blk wR b2 #[U8 (0#8), U8 (0#8), U8 (0#8), U8 (0#8), I64 (0#64)] 104 := B3
 refine Sq (Sr (An (IN 0) G (Ni (Bk ?_))))
 refine WC.loop (fun k f w_ => ∃ i, (k + i = 65) ∧ (∀ j, j < i → rowIs (rvAt (j + 1)) x = false) ∧ f 0 = U32 x ∧ f 2 = ptr b2 0 ∧ f 4 = .slice (some ⟨bR, 0, none⟩) 65 65 ∧ f 5 = IN i ∧ (Blk w_ b2 #[U8 (0#8), U8 (0#8), U8 (0#8), U8 (0#8), I64 (0#64)] 104) ∧ (Blk w_ bR rowsC 163) ∧ (Ext w w_)) 65 ?_ ?_
 ·exact ⟨0, by omega, fun _ h => absurd h (Nat.not_lt_zero _), G, G, G, G, h2z, hR, E2⟩
 rintro ka f1 wr ⟨i, hki, hl, h0_1, h2_1, h4_1, h5_1, h2, hR, hE⟩
 refine Sq (Sr (Mv (IN i) h5_1 (Mv (.slice (some ⟨bR, 0, none⟩) 65 65) h4_1 (WL.lenS el159 G G (Bn G G BinR.lss (Ni ?_))))))
 refine WC.cond G (fun hc14 => ?_) (fun hc14 => ?_)
 ·have hi : i < 65 := by have := of_decide_eq_true hc14; omega
  refine WC.skip (Sq (Bk (Sq (Sr (Mv (U32 x) h0_1 (Mv (.slice (some ⟨bR, 0, none⟩) 65 65) h4_1 (Mv (IN i) h5_1 (WL.indexAddr (i := i) (b := bR) (o := 0) el159 sz163 G G hi G ?_))))))))
  refine WL.loadS (rowC (i + 1)) G ag163 sz163 G (rowsC_cells hR hi) G (WL.call ca76 G G (is_q x (fch (rvAt (i + 1)).k) (rvAt (i + 1)).name ((rvAt (i + 1)).mtch &&& 127#32) (((rvAt (i + 1)).mtch >>> 12) &&& 7#32) ((rvAt (i + 1)).mtch >>> 25) _) ?_)
  rintro _ wc22 ⟨rfl, ec22⟩
  rw [is_eq x (i + 1) (by omega) (by omega)]
  have E5 := Mt hE ec22
  refine WL.un G G UnR.not (Ni ?_)
  refine WC.cond G (fun hc23 => ?_) (fun hc23 => ?_)
  ·have hmiss : rowIs (rvAt (i + 1)) x = false := by simpa using hc23
   refine WC.exit (Rg (Mv (IN i) h5_1 (Bn G G (BinR.succN (by omega)) (An (IN (i + 1)) G (Ni ?_)))))
   have B6 := h2.ext ec22
   have B7 := hR.ext ec22
   exact ⟨ka - 1, by omega, (i + 1), by omega, hl_next hl hmiss, h0_1, h2_1, h4_1, G, B6, B7, E5⟩
  ·obtain ⟨hd1, hd2⟩ := dec_hit hi hl (show rowIs (rvAt (i + 1)) x = true by simpa using hc23)
   refine WC.skip (Sr (Mv (IN i) h5_1 (Bn G G (BinR.succN (by omega)) (Cv G (ConvR.nu8 Tryz.underlying3 Tryz.underlying5) (Mv (U32 x) h0_1 (Mv (.slice (some ⟨bR, 0, none⟩) 65 65) h4_1 (Mv (IN i) h5_1 (WL.indexAddr (i := i) (b := bR) (o := 0) el159 sz163 G G hi G ?_))))))))
   refine Fa G fo163_0 ?_
   have B8 := hR.ext ec22
   refine Lo G ag5 (rowsC_cells B8 hi 0 _ G) (WL.call ca77 G G (number_q x (fch (rvAt (i + 1)).k) _) ?_)
   rintro _ wc33 ⟨rfl, ec33⟩
   rw [number_eq x (rvAt (i + 1)).k]
   have E10 := Mt E5 ec33
   refine WL.build (v := .agg #[U8 ((BitVec.ofNat 8 (i + 1))), .int .u8 0, .int .u8 0, .int .u8 0, I64 ((number (rvAt (i + 1)).form x))]) (vs := [(0, U8 ((BitVec.ofNat 8 (i + 1)))), (4, I64 ((number (rvAt (i + 1)).form x)))]) G (bld40_34 (BitVec.ofNat 8 (i + 1)) (number (rvAt (i + 1)).form x)) G ?_
   have B11 := (h2.ext ec22).ext ec33
   have B12 := B8.ext ec33
   refine WL.allocStore (v := .agg #[U8 ((BitVec.ofNat 8 (i + 1))), .int .u8 0, .int .u8 0, .int .u8 0, I64 ((number (rvAt (i + 1)).form x))]) zt104 G sz104 G G G G ?_
   intro b6 w6 n6
   have hl_b2_b6 : b2 < b6 := by have := B11.lt; have := n6.num; omega
   have hl_bR_b6 : bR < b6 := by have := B12.lt; have := n6.num; omega
   have E14 := Mt E10 n6.ext
   refine Ni ?_
   have hb6 : w.heap.size ≤ b6 := by have := n6.num; have := Mod.size E10; omega
   refine Sr (Mv (.slice (some ⟨bR, 0, none⟩) 65 65) h4_1 (Mv (IN i) h5_1 (WL.indexAddr (i := i) (b := bR) (o := 0) el159 sz163 G G hi G (Fa G fo163_0 ?_))))
   have B15 := B12.ext n6.ext
   refine Lo G ag5 (rowsC_cells B15 hi 0 _ G) (WL.call ca78 G G (has_q (fch (rvAt (i + 1)).k) _) ?_)
   rintro _ wc41 ⟨rfl, ec41⟩
   rw [has_eq (rvAt (i + 1)).k]
   have E17 := Mt E14 ec41
   refine Mv (.tuple #[.bool ((rvAt (i + 1)).form.rd), .bool ((rvAt (i + 1)).form.rs1), .bool ((rvAt (i + 1)).form.rs2)]) G (Et G G (Et G G (Et G G (An (.bool ((rvAt (i + 1)).form.rd)) G (An (.bool ((rvAt (i + 1)).form.rs1)) G (An (.bool ((rvAt (i + 1)).form.rs2)) G (Ni (Sq (Sq ?_)))))))))
   refine Rg (Mv (.bool ((rvAt (i + 1)).form.rd)) G (Ni ?_))
   refine WC.cut (fun f' w_ => f' 0 = U32 x ∧ f' 2 = ptr b2 0 ∧ f' 4 = .slice (some ⟨bR, 0, none⟩) 65 65 ∧ f' 5 = IN i ∧ f' 6 = ptr b6 0 ∧ f' 7 = .bool ((rvAt (i + 1)).form.rd) ∧ f' 8 = .bool ((rvAt (i + 1)).form.rs1) ∧ f' 9 = .bool ((rvAt (i + 1)).form.rs2) ∧ f' 11 = IN i ∧ f' 12 = .slice (some ⟨bR, 0, none⟩) 65 65 ∧ f' 13 = IN 65 ∧ f' 14 = .bool (decide (((i : Nat) : Int) < ((65 : Nat) : Int))) ∧ f' 17 = U32 x ∧ f' 18 = .slice (some ⟨bR, 0, none⟩) 65 65 ∧ f' 19 = IN i ∧ f' 20 = ptr bR (0 + i * 5) ∧ f' 21 = .agg (rowC (i + 1)).toArray ∧ f' 22 = .bool ((rowIs (rvAt (i + 1)) x)) ∧ f' 23 = .bool (!((rowIs (rvAt (i + 1)) x))) ∧ f' 24 = IN i ∧ f' 25 = IN (i + 1) ∧ f' 26 = U8 ((BitVec.ofNat 8 (i + 1))) ∧ f' 27 = U32 x ∧ f' 28 = .slice (some ⟨bR, 0, none⟩) 65 65 ∧ f' 29 = IN i ∧ f' 30 = ptr bR (0 + i * 5) ∧ f' 31 = ptr bR (0 + i * 5) ∧ f' 32 = U8 ((fch (rvAt (i + 1)).k)) ∧ f' 33 = I64 ((number (rvAt (i + 1)).form x)) ∧ f' 34 = .agg #[U8 ((BitVec.ofNat 8 (i + 1))), .int .u8 0, .int .u8 0, .int .u8 0, I64 ((number (rvAt (i + 1)).form x))] ∧ f' 35 = .tuple #[.bool ((rvAt (i + 1)).form.rd), .bool ((rvAt (i + 1)).form.rs1), .bool ((rvAt (i + 1)).form.rs2)] ∧ f' 36 = .slice (some ⟨bR, 0, none⟩) 65 65 ∧ f' 37 = IN i ∧ f' 38 = ptr bR (0 + i * 5) ∧ f' 39 = ptr bR (0 + i * 5) ∧ f' 40 = U8 ((fch (rvAt (i + 1)).k)) ∧ f' 41 = .tuple #[.bool ((rvAt (i + 1)).form.rd), .bool ((rvAt (i + 1)).form.rs1), .bool ((rvAt (i + 1)).form.rs2)] ∧ f' 42 = .bool ((rvAt (i + 1)).form.rd) ∧ f' 43 = .bool ((rvAt (i + 1)).form.rs1) ∧ f' 44 = .bool ((rvAt (i + 1)).form.rs2) ∧ f' 45 = .bool ((rvAt (i + 1)).form.rd) ∧ (Blk w_ b6 #[U8 ((BitVec.ofNat 8 (i + 1))), U8 ((decReg (rvAt (i + 1)).form.rd (7, 5) x)), U8 (0#8), U8 (0#8), I64 ((number (rvAt (i + 1)).form x))] 104) ∧ (Blk w_ b2 #[U8 (0#8), U8 (0#8), U8 (0#8), U8 (0#8), I64 (0#64)] 104) ∧ (Blk w_ bR rowsC 163) ∧ Ext w w_) ?_ ?_
   ·refine WC.cond G (fun hc45 => ?_) (fun hc45 => ?_)
    ·refine Rg (Mv (U32 x) h0_1 (WL.call ca79 G G (field_q x 7 5 _) ?_))
     rintro _ wc47 ⟨rfl, ec47⟩
     have E19 := Mt E17 ec47
     refine Cv G (ConvR.u32u8 Tryz.underlying50 Tryz.underlying5) (Fa G fo104_1 ?_)
     have B20 := (n6.blk.ext ec41).ext ec47
     refine WL.storeB (v := U8 ((fieldQ x 7 5).setWidth 8)) G G G sz5 B20 (Nat.le_of_ble_eq_true G) ?_
     intro ws21 ms21 bs21 zs21
     have E22 : Ext w ws21 := Mod.own E10 n6 E19 ms21
     refine Ni ?_
     have B23 := (((B11.ext n6.ext).ext ec41).ext ec47).mod ms21 (by omega)
     have B24 := ((B15.ext ec41).ext ec47).mod ms21 (by omega)
     exact ⟨G, h0_1, h2_1, h4_1, h5_1, G, G, G, G, G, G, G, G, G, G, G, G, G, G, G, G, G, G, G, G, G, G, G, G, G, G, G, G, G, G, G, G, G, G, G, G, G, (by rw [hc45]; exact bs21), B23, B24, E22⟩
    ·refine WC.skip ?_
     have B25 := n6.blk.ext ec41
     have B26 := (B11.ext n6.ext).ext ec41
     have B27 := B15.ext ec41
     exact ⟨G, h0_1, h2_1, h4_1, h5_1, G, G, G, G, G, G, G, G, G, G, G, G, G, G, G, G, G, G, G, G, G, G, G, G, G, G, G, G, G, G, G, G, G, G, G, G, G, (by rw [hc45]; exact B25), B26, B27, E17⟩
   rintro fc90045 wk1 ⟨hc90045_0, hc90045_2, hc90045_4, hc90045_5, hc90045_6, hc90045_7, hc90045_8, hc90045_9, hc90045_11, hc90045_12, hc90045_13, hc90045_14, hc90045_17, hc90045_18, hc90045_19, hc90045_20, hc90045_21, hc90045_22, hc90045_23, hc90045_24, hc90045_25, hc90045_26, hc90045_27, hc90045_28, hc90045_29, hc90045_30, hc90045_31, hc90045_32, hc90045_33, hc90045_34, hc90045_35, hc90045_36, hc90045_37, hc90045_38, hc90045_39, hc90045_40, hc90045_41, hc90045_42, hc90045_43, hc90045_44, hc90045_45, h6_1, h2_1, hR_1, hE_1⟩
   refine Sq (Sr (Mv (.bool ((rvAt (i + 1)).form.rs1)) hc90045_8 (Ni ?_)))
   refine WC.cut (fun f' w_ => f' 0 = U32 x ∧ f' 2 = ptr b2 0 ∧ f' 4 = .slice (some ⟨bR, 0, none⟩) 65 65 ∧ f' 5 = IN i ∧ f' 6 = ptr b6 0 ∧ f' 7 = .bool ((rvAt (i + 1)).form.rd) ∧ f' 8 = .bool ((rvAt (i + 1)).form.rs1) ∧ f' 9 = .bool ((rvAt (i + 1)).form.rs2) ∧ f' 11 = IN i ∧ f' 12 = .slice (some ⟨bR, 0, none⟩) 65 65 ∧ f' 13 = IN 65 ∧ f' 14 = .bool (decide (((i : Nat) : Int) < ((65 : Nat) : Int))) ∧ f' 17 = U32 x ∧ f' 18 = .slice (some ⟨bR, 0, none⟩) 65 65 ∧ f' 19 = IN i ∧ f' 20 = ptr bR (0 + i * 5) ∧ f' 21 = .agg (rowC (i + 1)).toArray ∧ f' 22 = .bool ((rowIs (rvAt (i + 1)) x)) ∧ f' 23 = .bool (!((rowIs (rvAt (i + 1)) x))) ∧ f' 24 = IN i ∧ f' 25 = IN (i + 1) ∧ f' 26 = U8 ((BitVec.ofNat 8 (i + 1))) ∧ f' 27 = U32 x ∧ f' 28 = .slice (some ⟨bR, 0, none⟩) 65 65 ∧ f' 29 = IN i ∧ f' 30 = ptr bR (0 + i * 5) ∧ f' 31 = ptr bR (0 + i * 5) ∧ f' 32 = U8 ((fch (rvAt (i + 1)).k)) ∧ f' 33 = I64 ((number (rvAt (i + 1)).form x)) ∧ f' 34 = .agg #[U8 ((BitVec.ofNat 8 (i + 1))), .int .u8 0, .int .u8 0, .int .u8 0, I64 ((number (rvAt (i + 1)).form x))] ∧ f' 35 = .tuple #[.bool ((rvAt (i + 1)).form.rd), .bool ((rvAt (i + 1)).form.rs1), .bool ((rvAt (i + 1)).form.rs2)] ∧ f' 36 = .slice (some ⟨bR, 0, none⟩) 65 65 ∧ f' 37 = IN i ∧ f' 38 = ptr bR (0 + i * 5) ∧ f' 39 = ptr bR (0 + i * 5) ∧ f' 40 = U8 ((fch (rvAt (i + 1)).k)) ∧ f' 41 = .tuple #[.bool ((rvAt (i + 1)).form.rd), .bool ((rvAt (i + 1)).form.rs1), .bool ((rvAt (i + 1)).form.rs2)] ∧ f' 42 = .bool ((rvAt (i + 1)).form.rd) ∧ f' 43 = .bool ((rvAt (i + 1)).form.rs1) ∧ f' 44 = .bool ((rvAt (i + 1)).form.rs2) ∧ f' 45 = .bool ((rvAt (i + 1)).form.rd) ∧ f' 50 = .bool ((rvAt (i + 1)).form.rs1) ∧ (Blk w_ b6 #[U8 ((BitVec.ofNat 8 (i + 1))), U8 ((decReg (rvAt (i + 1)).form.rd (7, 5) x)), U8 ((decReg (rvAt (i + 1)).form.rs1 (15, 5) x)), U8 (0#8), I64 ((number (rvAt (i + 1)).form x))] 104) ∧ (Blk w_ b2 #[U8 (0#8), U8 (0#8), U8 (0#8), U8 (0#8), I64 (0#64)] 104) ∧ (Blk w_ bR rowsC 163) ∧ Ext w w_) ?_ ?_
   ·refine WC.cond G (fun hc50 => ?_) (fun hc50 => ?_)
    ·refine Rg (Mv (U32 x) hc90045_0 (WL.call ca79 G G (field_q x 15 5 _) ?_))
     rintro _ wc52 ⟨rfl, ec52⟩
     have E28 := Mt hE_1 ec52
     refine Cv G (ConvR.u32u8 Tryz.underlying50 Tryz.underlying5) (Fa hc90045_6 fo104_2 ?_)
     have B29 := h6_1.ext ec52
     refine WL.storeB (v := U8 ((fieldQ x 15 5).setWidth 8)) G G G sz5 B29 (Nat.le_of_ble_eq_true G) ?_
     intro ws30 ms30 bs30 zs30
     have E30 : Ext w ws30 := Mod.then E28 ms30 (fun i hi (e : i = b6) => absurd hi (by omega))
     refine Ni ?_
     have B31 := (h2_1.ext ec52).mod ms30 (by omega)
     have B32 := (hR_1.ext ec52).mod ms30 (by omega)
     exact ⟨G, hc90045_0, hc90045_2, hc90045_4, hc90045_5, hc90045_6, hc90045_7, hc90045_8, hc90045_9, hc90045_11, hc90045_12, hc90045_13, hc90045_14, hc90045_17, hc90045_18, hc90045_19, hc90045_20, hc90045_21, hc90045_22, hc90045_23, hc90045_24, hc90045_25, hc90045_26, hc90045_27, hc90045_28, hc90045_29, hc90045_30, hc90045_31, hc90045_32, hc90045_33, hc90045_34, hc90045_35, hc90045_36, hc90045_37, hc90045_38, hc90045_39, hc90045_40, hc90045_41, hc90045_42, hc90045_43, hc90045_44, hc90045_45, G, (by rw [hc50]; exact bs30), B31, B32, E30⟩
    ·refine WC.skip ?_
     exact ⟨G, hc90045_0, hc90045_2, hc90045_4, hc90045_5, hc90045_6, hc90045_7, hc90045_8, hc90045_9, hc90045_11, hc90045_12, hc90045_13, hc90045_14, hc90045_17, hc90045_18, hc90045_19, hc90045_20, hc90045_21, hc90045_22, hc90045_23, hc90045_24, hc90045_25, hc90045_26, hc90045_27, hc90045_28, hc90045_29, hc90045_30, hc90045_31, hc90045_32, hc90045_33, hc90045_34, hc90045_35, hc90045_36, hc90045_37, hc90045_38, hc90045_39, hc90045_40, hc90045_41, hc90045_42, hc90045_43, hc90045_44, hc90045_45, G, (by rw [hc50]; exact h6_1), h2_1, hR_1, hE_1⟩
   rintro fc90050 wk2 ⟨hc90050_0, hc90050_2, hc90050_4, hc90050_5, hc90050_6, hc90050_7, hc90050_8, hc90050_9, hc90050_11, hc90050_12, hc90050_13, hc90050_14, hc90050_17, hc90050_18, hc90050_19, hc90050_20, hc90050_21, hc90050_22, hc90050_23, hc90050_24, hc90050_25, hc90050_26, hc90050_27, hc90050_28, hc90050_29, hc90050_30, hc90050_31, hc90050_32, hc90050_33, hc90050_34, hc90050_35, hc90050_36, hc90050_37, hc90050_38, hc90050_39, hc90050_40, hc90050_41, hc90050_42, hc90050_43, hc90050_44, hc90050_45, hc90050_50, h6_2, h2_2, hR_2, hE_2⟩
   refine Sq (Sr (Mv (.bool ((rvAt (i + 1)).form.rs2)) hc90050_9 (Ni ?_)))
   refine WC.cut (fun f' w_ => f' 0 = U32 x ∧ f' 2 = ptr b2 0 ∧ f' 4 = .slice (some ⟨bR, 0, none⟩) 65 65 ∧ f' 5 = IN i ∧ f' 6 = ptr b6 0 ∧ f' 7 = .bool ((rvAt (i + 1)).form.rd) ∧ f' 8 = .bool ((rvAt (i + 1)).form.rs1) ∧ f' 9 = .bool ((rvAt (i + 1)).form.rs2) ∧ f' 11 = IN i ∧ f' 12 = .slice (some ⟨bR, 0, none⟩) 65 65 ∧ f' 13 = IN 65 ∧ f' 14 = .bool (decide (((i : Nat) : Int) < ((65 : Nat) : Int))) ∧ f' 17 = U32 x ∧ f' 18 = .slice (some ⟨bR, 0, none⟩) 65 65 ∧ f' 19 = IN i ∧ f' 20 = ptr bR (0 + i * 5) ∧ f' 21 = .agg (rowC (i + 1)).toArray ∧ f' 22 = .bool ((rowIs (rvAt (i + 1)) x)) ∧ f' 23 = .bool (!((rowIs (rvAt (i + 1)) x))) ∧ f' 24 = IN i ∧ f' 25 = IN (i + 1) ∧ f' 26 = U8 ((BitVec.ofNat 8 (i + 1))) ∧ f' 27 = U32 x ∧ f' 28 = .slice (some ⟨bR, 0, none⟩) 65 65 ∧ f' 29 = IN i ∧ f' 30 = ptr bR (0 + i * 5) ∧ f' 31 = ptr bR (0 + i * 5) ∧ f' 32 = U8 ((fch (rvAt (i + 1)).k)) ∧ f' 33 = I64 ((number (rvAt (i + 1)).form x)) ∧ f' 34 = .agg #[U8 ((BitVec.ofNat 8 (i + 1))), .int .u8 0, .int .u8 0, .int .u8 0, I64 ((number (rvAt (i + 1)).form x))] ∧ f' 35 = .tuple #[.bool ((rvAt (i + 1)).form.rd), .bool ((rvAt (i + 1)).form.rs1), .bool ((rvAt (i + 1)).form.rs2)] ∧ f' 36 = .slice (some ⟨bR, 0, none⟩) 65 65 ∧ f' 37 = IN i ∧ f' 38 = ptr bR (0 + i * 5) ∧ f' 39 = ptr bR (0 + i * 5) ∧ f' 40 = U8 ((fch (rvAt (i + 1)).k)) ∧ f' 41 = .tuple #[.bool ((rvAt (i + 1)).form.rd), .bool ((rvAt (i + 1)).form.rs1), .bool ((rvAt (i + 1)).form.rs2)] ∧ f' 42 = .bool ((rvAt (i + 1)).form.rd) ∧ f' 43 = .bool ((rvAt (i + 1)).form.rs1) ∧ f' 44 = .bool ((rvAt (i + 1)).form.rs2) ∧ f' 45 = .bool ((rvAt (i + 1)).form.rd) ∧ f' 50 = .bool ((rvAt (i + 1)).form.rs1) ∧ f' 55 = .bool ((rvAt (i + 1)).form.rs2) ∧ (Blk w_ b6 #[U8 ((BitVec.ofNat 8 (i + 1))), U8 ((decReg (rvAt (i + 1)).form.rd (7, 5) x)), U8 ((decReg (rvAt (i + 1)).form.rs1 (15, 5) x)), U8 ((decReg (rvAt (i + 1)).form.rs2 (20, 5) x)), I64 ((number (rvAt (i + 1)).form x))] 104) ∧ (Blk w_ b2 #[U8 (0#8), U8 (0#8), U8 (0#8), U8 (0#8), I64 (0#64)] 104) ∧ (Blk w_ bR rowsC 163) ∧ Ext w w_) ?_ ?_
   ·refine WC.cond G (fun hc55 => ?_) (fun hc55 => ?_)
    ·refine Rg (Mv (U32 x) hc90050_0 (WL.call ca79 G G (field_q x 20 5 _) ?_))
     rintro _ wc57 ⟨rfl, ec57⟩
     have E33 := Mt hE_2 ec57
     refine Cv G (ConvR.u32u8 Tryz.underlying50 Tryz.underlying5) (Fa hc90050_6 fo104_3 ?_)
     have B34 := h6_2.ext ec57
     refine WL.storeB (v := U8 ((fieldQ x 20 5).setWidth 8)) G G G sz5 B34 (Nat.le_of_ble_eq_true G) ?_
     intro ws35 ms35 bs35 zs35
     have E35 : Ext w ws35 := Mod.then E33 ms35 (fun i hi (e : i = b6) => absurd hi (by omega))
     refine Ni ?_
     have B36 := (h2_2.ext ec57).mod ms35 (by omega)
     have B37 := (hR_2.ext ec57).mod ms35 (by omega)
     exact ⟨G, hc90050_0, hc90050_2, hc90050_4, hc90050_5, hc90050_6, hc90050_7, hc90050_8, hc90050_9, hc90050_11, hc90050_12, hc90050_13, hc90050_14, hc90050_17, hc90050_18, hc90050_19, hc90050_20, hc90050_21, hc90050_22, hc90050_23, hc90050_24, hc90050_25, hc90050_26, hc90050_27, hc90050_28, hc90050_29, hc90050_30, hc90050_31, hc90050_32, hc90050_33, hc90050_34, hc90050_35, hc90050_36, hc90050_37, hc90050_38, hc90050_39, hc90050_40, hc90050_41, hc90050_42, hc90050_43, hc90050_44, hc90050_45, hc90050_50, G, (by rw [hc55]; exact bs35), B36, B37, E35⟩
    ·refine WC.skip ?_
     exact ⟨G, hc90050_0, hc90050_2, hc90050_4, hc90050_5, hc90050_6, hc90050_7, hc90050_8, hc90050_9, hc90050_11, hc90050_12, hc90050_13, hc90050_14, hc90050_17, hc90050_18, hc90050_19, hc90050_20, hc90050_21, hc90050_22, hc90050_23, hc90050_24, hc90050_25, hc90050_26, hc90050_27, hc90050_28, hc90050_29, hc90050_30, hc90050_31, hc90050_32, hc90050_33, hc90050_34, hc90050_35, hc90050_36, hc90050_37, hc90050_38, hc90050_39, hc90050_40, hc90050_41, hc90050_42, hc90050_43, hc90050_44, hc90050_45, hc90050_50, G, (by rw [hc55]; exact h6_2), h2_2, hR_2, hE_2⟩
   rintro fc90055 wk3 ⟨hc90055_0, hc90055_2, hc90055_4, hc90055_5, hc90055_6, hc90055_7, hc90055_8, hc90055_9, hc90055_11, hc90055_12, hc90055_13, hc90055_14, hc90055_17, hc90055_18, hc90055_19, hc90055_20, hc90055_21, hc90055_22, hc90055_23, hc90055_24, hc90055_25, hc90055_26, hc90055_27, hc90055_28, hc90055_29, hc90055_30, hc90055_31, hc90055_32, hc90055_33, hc90055_34, hc90055_35, hc90055_36, hc90055_37, hc90055_38, hc90055_39, hc90055_40, hc90055_41, hc90055_42, hc90055_43, hc90055_44, hc90055_45, hc90055_50, hc90055_55, h6_3, h2_3, hR_3, hE_3⟩
   refine Sr (Ls [U8 ((BitVec.ofNat 8 (i + 1))), U8 ((decReg (rvAt (i + 1)).form.rd (7, 5) x)), U8 ((decReg (rvAt (i + 1)).form.rs1 (15, 5) x)), U8 ((decReg (rvAt (i + 1)).form.rs2 (20, 5) x)), I64 ((number (rvAt (i + 1)).form x))] hc90055_6 ag104 sz104 h6_3 (WL.storeS (v := .agg #[U8 ((BitVec.ofNat 8 (i + 1))), U8 ((decReg (rvAt (i + 1)).form.rd (7, 5) x)), U8 ((decReg (rvAt (i + 1)).form.rs1 (15, 5) x)), U8 ((decReg (rvAt (i + 1)).form.rs2 (20, 5) x)), I64 ((number (rvAt (i + 1)).form x))]) hc90055_2 G h2_3 G sz104 G G ?_))
   intro ws38 ms38 bs38 zs38
   have E38 : Ext w ws38 := Mod.then hE_3 ms38 (fun i hi (e : i = b2) => absurd hi (by omega))
   refine An (IN 0) G (Ni (WC.ret ?_))
   exact ⟨_, Res.cellTmp (v' := IN 0) rfl hc90055_2 (loadVar_agg [U8 ((BitVec.ofNat 8 (i + 1))), U8 ((decReg (rvAt (i + 1)).form.rd (7, 5) x)), U8 ((decReg (rvAt (i + 1)).form.rs1 (15, 5) x)), U8 ((decReg (rvAt (i + 1)).form.rs2 (20, 5) x)), I64 ((number (rvAt (i + 1)).form x))] ag104 sz104 rfl (bs38.sub (o := 0) rfl)) rfl, by rw [hd1, hd2]; rfl, E38⟩
 ·obtain ⟨hd1, hd2⟩ := dec_miss (x := x) (fun j hj => hl j (by have := of_decide_eq_false hc14; omega))
  refine WC.exit (Sr (WL.build (v := .agg #[.int .u8 0, .int .u8 0, .int .u8 0, .int .u8 0, IN 0]) (vs := []) G bld40_61 G (WL.storeS (v := .agg #[.int .u8 0, .int .u8 0, .int .u8 0, .int .u8 0, IN 0]) h2_1 G h2 G sz104 G G ?_)))
  intro ws39 ms39 bs39 zs39
  have E39 : Ext w ws39 := Mod.then hE ms39 (fun i hi (e : i = b2) => absurd hi (by omega))
  refine An (IN 100) G (Ni (WC.ret ?_))
  exact ⟨_, Res.cellTmp (v' := IN 100) rfl h2_1 (loadVar_agg [.int .u8 0, .int .u8 0, .int .u8 0, .int .u8 0, IN 0] ag104 sz104 rfl (bs39.sub (o := 0) rfl)) rfl, by rw [hd1, hd2]; rfl, E39⟩
end Go.Proofs.S
end
section
namespace Go.Ux.Mach
open Go Go.Ux
def refCells (cv dv sv iv : Value) (x : Nat → BitVec 64) (pc : BitVec 64) (ev : Value) (en tr : Bool) (st : Value) : Array Value := #[cv, dv, sv, iv, U64 (x 0), U64 (x 1), U64 (x 2), U64 (x 3), U64 (x 4), U64 (x 5), U64 (x 6), U64 (x 7), U64 (x 8), U64 (x 9), U64 (x 10), U64 (x 11), U64 (x 12), U64 (x 13), U64 (x 14), U64 (x 15), U64 (x 16), U64 (x 17), U64 (x 18), U64 (x 19), U64 (x 20), U64 (x 21), U64 (x 22), U64 (x 23), U64 (x 24), U64 (x 25), U64 (x 26), U64 (x 27), U64 (x 28), U64 (x 29), U64 (x 30), U64 (x 31), U64 pc, ev, .bool en, .bool tr, st]
theorem refCells_x (cv dv sv iv : Value) (x : Nat → BitVec 64) (pc : BitVec 64) (ev : Value) (en tr : Bool) (st : Value) {i : Nat} (h : i < 32) : (refCells cv dv sv iv x pc ev en tr st)[4 + i]? = some (U64 (x i)) := by
 match i, h with
 | 0, _ => rfl
 | 1, _ => rfl
 | 2, _ => rfl
 | 3, _ => rfl
 | 4, _ => rfl
 | 5, _ => rfl
 | 6, _ => rfl
 | 7, _ => rfl
 | 8, _ => rfl
 | 9, _ => rfl
 | 10, _ => rfl
 | 11, _ => rfl
 | 12, _ => rfl
 | 13, _ => rfl
 | 14, _ => rfl
 | 15, _ => rfl
 | 16, _ => rfl
 | 17, _ => rfl
 | 18, _ => rfl
 | 19, _ => rfl
 | 20, _ => rfl
 | 21, _ => rfl
 | 22, _ => rfl
 | 23, _ => rfl
 | 24, _ => rfl
 | 25, _ => rfl
 | 26, _ => rfl
 | 27, _ => rfl
 | 28, _ => rfl
 | 29, _ => rfl
 | 30, _ => rfl
 | 31, _ => rfl
 | n + 32, h => omega
def whereR (n : Nat) (addr : BitVec 64) (size : Nat) : Nat × Nat :=
 if addr.toNat % size ≠ 0 then (0, 0)
 else if 4194304 ≤ addr.toNat ∧ addr.toNat < 4194304 + n ∧ addr.toNat + size ≤ 4194304 + n then (1, addr.toNat - 4194304)
 else if 8323072 ≤ addr.toNat ∧ addr.toNat < 8388608 then (2, addr.toNat - 8323072)
 else (0, 0)
theorem whereR_eq (n : Nat) (addr : BitVec 64) (size : Nat) (h : size = 1 ∨ size = 2 ∨ size = 4 ∨ size = 8) :
  whereR n addr size = match whereM n addr size with
   | none => (0, 0)
   | some (true, o) => (1, o)
   | some (false, o) => (2, o) := by
 unfold whereR whereM
 by_cases h1 : addr.toNat % size ≠ 0
 ·rw [if_pos h1, if_pos h1]
 rw [if_neg h1, if_neg h1]
 have hs : 0 < size := by omega
 by_cases h2 : 4194304 ≤ addr.toNat ∧ addr.toNat < 4194304 + n ∧ addr.toNat + size ≤ 4194304 + n
 ·rw [if_pos h2, if_pos (show 4194304 ≤ addr.toNat ∧ addr.toNat - 4194304 < n ∧ size ≤ n - (addr.toNat - 4194304) by omega)]
 rw [if_neg h2, if_neg (show ¬ (4194304 ≤ addr.toNat ∧ addr.toNat - 4194304 < n ∧ size ≤ n - (addr.toNat - 4194304)) by omega)]
 by_cases h3 : 8323072 ≤ addr.toNat ∧ addr.toNat < 8388608
 ·have h1' : addr.toNat % size = 0 := by omega
  have h4 : 8323072 ≤ addr.toNat ∧ addr.toNat - 8323072 < 65536 ∧ size ≤ 65536 - (addr.toNat - 8323072) := by
   rcases h with rfl | rfl | rfl | rfl <;> omega
  rw [if_pos h3, if_pos h4]
 ·rw [if_neg h3, if_neg (show ¬ (8323072 ≤ addr.toNat ∧ addr.toNat - 8323072 < 65536 ∧ size ≤ 65536 - (addr.toNat - 8323072)) by omega)]
def loadT (f : Nat → BitVec 8) (o size : Nat) : Nat → BitVec 64
 | 0 => 0#64
 | k + 1 => (loadT f o size k <<< 8) + (f (o + (size - 1 - k))).setWidth 64
theorem shl_or (a : BitVec 64) (b : BitVec 8) : (a <<< 8) + b.setWidth 64 = (a <<< 8) ||| b.setWidth 64 := by
 apply BitVec.add_eq_or_of_and_eq_zero
 apply BitVec.eq_of_getLsbD_eq
 intro i hi
 simp only [BitVec.getLsbD_and, BitVec.getLsbD_shiftLeft, BitVec.getLsbD_setWidth, BitVec.getLsbD_zero]
 by_cases h : i < 8
 ·simp [h]
 ·rw [BitVec.getLsbD_of_ge b i (by omega)]; simp
theorem loadT_eq (f : Nat → BitVec 8) (o size : Nat) : ∀ k, loadT f o size k = loadR f o size k
 | 0 => rfl
 | k + 1 => by show (loadT f o size k <<< 8) + _ = (loadR f o size k <<< 8) ||| _; rw [loadT_eq f o size k, shl_or]
end Go.Ux.Mach
end
section
namespace Go.Proofs.S
open Go Go.Ux Go.Ux.Mach Go.Proofs Go.Proofs.M Go.Ux.Image
set_option linter.unusedVariables false
abbrev RCells (cv dv sv iv ev : Value) (M : MS) : Array Value := refCells cv dv sv iv M.x M.pc ev M.fin.isSome (M.fin == some true) (I64 M.steps)
structure RT (T : Nat → Nat) (w : World) (b : Nat) (M : MS) (ws : List (BitVec 32)) (cv dv sv iv ev : Value) : Prop where
 cm : M.code = ws.map decW
 code : Sl w cv 1 ws.length (wordCells ws)
 data : Ux.Own w 1 dv M.n (bsV M.d M.n)
 stk : Ux.Own w 1 sv 65536 (bsV M.s 65536)
 input : Sl w iv 1 M.input.length (M.input.map I64)
 evs : Ux.Own w 2 ev M.events.length (evV M.events)
 tb : T b = 1
 td : ∀ g, dv.ownBlock = some g → T g = 3
 ts : ∀ g, sv.ownBlock = some g → T g = 4
 tc : ∀ g, cv.ownBlock = some g → T g = 5
 ti : 0 < M.input.length → ∀ g, iv.ownBlock = some g → T g = 6
 te : ∀ g, ev.ownBlock = some g → T g = 7
 lt : ∀ k, T k ≠ 0 → k < w.heap.size
 n_le : M.n ≤ 524288
def RR (T : Nat → Nat) (w : World) (b : Nat) (M : MS) (ws : List (BitVec 32)) : Prop :=
 ∃ cv dv sv iv ev, Blk w b (RCells cv dv sv iv ev M) 70 ∧ RT T w b M ws cv dv sv iv ev
theorem RT.mod {T : Nat → Nat} {w w' : World} {b : Nat} {M : MS} {ws : List (BitVec 32)} {cv dv sv iv ev : Value} (h : RT T w b M ws cv dv sv iv ev) {O : Nat → Prop} (m : Mod O w w') (hO : ∀ k, T k ≠ 0 → T k ≠ 1 → ¬ O k) : RT T w' b M ws cv dv sv iv ev where
 cm := h.cm
 code := h.code.mod' m fun g e => hO _ (by rw [h.tc g e]; decide) (by rw [h.tc g e]; decide)
 data := h.data.mod m fun g e => hO _ (by rw [h.td g e]; decide) (by rw [h.td g e]; decide)
 stk := h.stk.mod m fun g e => hO _ (by rw [h.ts g e]; decide) (by rw [h.ts g e]; decide)
 input := h.input.modp m fun h0 g e => hO _ (by rw [h.ti h0 g e]; decide) (by rw [h.ti h0 g e]; decide)
 evs := h.evs.mod m fun g e => hO _ (by rw [h.te g e]; decide) (by rw [h.te g e]; decide)
 tb := h.tb
 td := h.td
 ts := h.ts
 tc := h.tc
 ti := h.ti
 te := h.te
 lt := fun k hk => Nat.lt_of_lt_of_le (h.lt k hk) m.size
 n_le := h.n_le
theorem RR.mod {T : Nat → Nat} {w w' : World} {b : Nat} {M : MS} {ws : List (BitVec 32)} (h : RR T w b M ws) {O : Nat → Prop} (m : Mod O w w') (hO : ∀ k, T k ≠ 0 → ¬ O k) : RR T w' b M ws := by
 obtain ⟨cv, dv, sv, iv, ev, hb, ht⟩ := h
 exact ⟨cv, dv, sv, iv, ev, hb.mod m (hO _ (by rw [ht.tb]; decide)), ht.mod m fun k h1 _ => hO k h1⟩
theorem RR.ext {T : Nat → Nat} {w w' : World} {b : Nat} {M : MS} {ws : List (BitVec 32)} (h : RR T w b M ws) (m : Ext w w') : RR T w' b M ws := h.mod m fun _ _ x => x
theorem RR.lt {T : Nat → Nat} {w : World} {b : Nat} {M : MS} {ws : List (BitVec 32)} (h : RR T w b M ws) : ∀ k, T k ≠ 0 → k < w.heap.size := by
 obtain ⟨cv, dv, sv, iv, ev, hb, ht⟩ := h; exact ht.lt
def TurnR (T : Nat → Nat) (w : World) (b : Nat) (M : MS) (ws : List (BitVec 32)) (w' : World) : Prop :=
 ∃ T', RR T' w' b M ws ∧ Mod (Fp T) w w' ∧ ∀ k, T' k ≠ 0 → T k ≠ 0 ∨ w.heap.size ≤ k
theorem RT.regs {T : Nat → Nat} {w : World} {b : Nat} {M : MS} {ws : List (BitVec 32)} {cv dv sv iv ev : Value} (h : RT T w b M ws cv dv sv iv ev) (x : Nat → BitVec 64) (pc st : BitVec 64) (fin : Option Bool) : RT T w b { M with x := x, pc := pc, steps := st, fin := fin } ws cv dv sv iv ev :=
 ⟨h.cm, h.code, h.data, h.stk, h.input, h.evs, h.tb, h.td, h.ts, h.tc, h.ti, h.te, h.lt, h.n_le⟩
theorem RT.inp {T : Nat → Nat} {w : World} {b : Nat} {M : MS} {ws : List (BitVec 32)} {cv dv sv iv ev iv' : Value} {inp : List (BitVec 64)} (h : RT T w b M ws cv dv sv iv ev) (hi : Sl w iv' 1 inp.length (inp.map I64)) (ht : iv'.ownBlock = iv.ownBlock) (hl : 0 < inp.length → 0 < M.input.length) : RT T w b { M with input := inp } ws cv dv sv iv' ev :=
 ⟨h.cm, h.code, h.data, h.stk, hi, h.evs, h.tb, h.td, h.ts, h.tc, fun h0 g e => h.ti (hl h0) g (ht ▸ e), h.te, h.lt, h.n_le⟩
theorem RT.own {T : Nat → Nat} {w w' : World} {b : Nat} {M : MS} {ws : List (BitVec 32)} {cv dv sv iv ev : Value} (h : RT T w b M ws cv dv sv iv ev) (m : Mod (fun k => T k = 1) w w') : RT T w' b M ws cv dv sv iv ev := h.mod m fun k _ h1 e => h1 e
theorem TurnR.own {T : Nat → Nat} {w w' : World} {b : Nat} {M : MS} {ws : List (BitVec 32)} (h : RR T w' b M ws) (m : Mod (Fp T) w w') : TurnR T w b M ws w' := ⟨T, h, m, fun _ h => .inl h⟩
theorem TurnR.refl {T : Nat → Nat} {w : World} {b : Nat} {M : MS} {ws : List (BitVec 32)} (h : RR T w b M ws) : TurnR T w b M ws w := ⟨T, h, Mod.refl _ _, fun _ h => .inl h⟩
theorem TurnR.ext {T : Nat → Nat} {w w' w2 : World} {b : Nat} {M : MS} {ws : List (BitVec 32)} (h : TurnR T w b M ws w') (m : Ext w' w2) : TurnR T w b M ws w2 := by
 obtain ⟨T', h1, h2, h3⟩ := h
 exact ⟨T', h1.ext m, h2.trans (Mod.ext m), h3⟩
theorem TurnR.trans {T T1 : Nat → Nat} {w w1 w2 : World} {b : Nat} {M2 : MS} {ws : List (BitVec 32)} (m : Mod (Fp T) w w1) (hs : ∀ k, T1 k ≠ 0 → T k ≠ 0 ∨ w.heap.size ≤ k) (h : TurnR T1 w1 b M2 ws w2) : TurnR T w b M2 ws w2 := by
 obtain ⟨T2, h1, h2, h3⟩ := h
 have hz := m.size
 refine ⟨T2, h1, m.then h2 fun i hi e => ?_, fun k hk => ?_⟩
 ·rcases hs i e with h | h
  ·exact h
  ·omega
 ·rcases h3 k hk with h | h
  ·exact hs k h
  ·exact .inr (by omega)
theorem RT.ev {T : Nat → Nat} {w w' : World} {b : Nat} {M : MS} {ws : List (BitVec 32)} {cv dv sv iv ev ev' : Value} {l : List (BitVec 8 × BitVec 64)} (h : RT T w b M ws cv dv sv iv ev) {O : Nat → Prop} (m : Mod O w w') (hO : ∀ k, T k ≠ 0 → T k ≠ 1 → T k ≠ 7 → ¬ O k)
  (ho : Ux.Own w' 2 ev' l.length (evV l)) (hl : LocV w ev ev') (h0 : 0 < l.length) : RT (fun k => if ev'.ownBlock = some k then 7 else T k) w' b { M with events := l } ws cv dv sv iv ev' := by
 have ne : ∀ k, T k ≠ 0 → T k ≠ 7 → (if ev'.ownBlock = some k then 7 else T k) = T k := fun k h1 h2 => by
  rw [if_neg]
  intro e
  rcases hl with hl | ⟨g, hl, hg⟩
  ·rw [hl] at e; exact h2 (h.te k e)
  ·rw [hl] at e; cases e; have := h.lt k h1; omega
 refine ⟨h.cm, ?_, ?_, ?_, ?_, ho, ?_, ?_, ?_, ?_, ?_, ?_, ?_, h.n_le⟩
 ·exact h.code.mod' m fun g e => hO _ (by rw [h.tc g e]; decide) (by rw [h.tc g e]; decide) (by rw [h.tc g e]; decide)
 ·exact h.data.mod m fun g e => hO _ (by rw [h.td g e]; decide) (by rw [h.td g e]; decide) (by rw [h.td g e]; decide)
 ·exact h.stk.mod m fun g e => hO _ (by rw [h.ts g e]; decide) (by rw [h.ts g e]; decide) (by rw [h.ts g e]; decide)
 ·exact h.input.modp m fun h0 g e => hO _ (by rw [h.ti h0 g e]; decide) (by rw [h.ti h0 g e]; decide) (by rw [h.ti h0 g e]; decide)
 ·show (if _ then _ else _) = 1; rw [ne _ (by rw [h.tb]; decide) (by rw [h.tb]; decide)]; exact h.tb
 ·intro g e; show (if _ then _ else _) = 3; rw [ne _ (by rw [h.td g e]; decide) (by rw [h.td g e]; decide)]; exact h.td g e
 ·intro g e; show (if _ then _ else _) = 4; rw [ne _ (by rw [h.ts g e]; decide) (by rw [h.ts g e]; decide)]; exact h.ts g e
 ·intro g e; show (if _ then _ else _) = 5; rw [ne _ (by rw [h.tc g e]; decide) (by rw [h.tc g e]; decide)]; exact h.tc g e
 ·intro h0 g e; show (if _ then _ else _) = 6; rw [ne _ (by rw [h.ti h0 g e]; decide) (by rw [h.ti h0 g e]; decide)]; exact h.ti h0 g e
 ·intro g e; show (if _ then _ else _) = 7; rw [if_pos e]
 ·intro k hk
  by_cases e : ev'.ownBlock = some k
  ·exact ho.lt h0 (by decide) e
  ·have hk' : T k ≠ 0 := by intro e'; apply hk; show (if _ then _ else _) = 0; rw [if_neg e]; exact e'
   exact Nat.lt_of_lt_of_le (h.lt k hk') m.size
theorem turnR_ev {T : Nat → Nat} {w w' : World} {b : Nat} {M : MS} {ws : List (BitVec 32)} {cv dv sv iv ev ev' : Value} {l : List (BitVec 8 × BitVec 64)} (h : RT T w b M ws cv dv sv iv ev) (m : Mod (fun k => T k = 1 ∨ T k = 7) w w')
  (ho : Ux.Own w' 2 ev' l.length (evV l)) (hl : LocV w ev ev') (h0 : 0 < l.length) (hb : Blk w' b (RCells cv dv sv iv ev' M) 70) : TurnR T w b { M with events := l } ws w' := by
 refine ⟨_, ⟨cv, dv, sv, iv, ev', hb, h.ev m (fun k _ h1 h7 e => by rcases e with e | e; exact h1 e; exact h7 e) ho hl h0⟩, m.imp (fun k _ e => by show T k ≠ 0; rcases e with e | e <;> (rw [e]; decide)), ?_⟩
 intro k hk
 by_cases e : ev'.ownBlock = some k
 ·rcases hl with hl | ⟨g, hl, hg⟩
  ·rw [hl] at e; exact .inl (by rw [h.te k e]; decide)
  ·rw [hl] at e; cases e; exact .inr hg
 ·exact .inl (by intro e'; apply hk; show (if _ then _ else _) = 0; rw [if_neg e]; exact e')
theorem turnR_area {T : Nat → Nat} {w w' : World} {b : Nat} {M : MS} {ws : List (BitVec 32)} {cv dv sv iv ev : Value} (h : RT T w b M ws cv dv sv iv ev) (hb : Blk w b (RCells cv dv sv iv ev M) 70) (k : Bool) {off size : Nat} {v : BitVec 64} (m : Mod (At (bif k then dv else sv)) w w') (ho : Ux.Own w' 1 (bif k then dv else sv) (bif k then M.n else 65536) (bsV (storeB (bif k then M.d else M.s) off v size) (bif k then M.n else 65536))) : TurnR T w b (storeM M k off size v) ws w' := by
 have av : ∀ g j, T g = j → j ≠ 3 → j ≠ 4 → ¬ At (bif k then dv else sv) g := fun g j e h3 h4 e' => by
  cases k
  ·have := h.ts g e'; omega
  ·have := h.td g e'; omega
 have hm : Mod (Fp T) w w' := m.imp fun g _ e => by
  show T g ≠ 0
  cases k
  ·rw [h.ts g e]; decide
  ·rw [h.td g e]; decide
 have hc := h.code.mod' m fun g e => av g _ (h.tc g e) (by decide) (by decide)
 have hi := h.input.modp m fun h0 g e => av g _ (h.ti h0 g e) (by decide) (by decide)
 have he := h.evs.mod m fun g e => av g _ (h.te g e) (by decide) (by decide)
 have hl : ∀ k, T k ≠ 0 → k < w'.heap.size := fun k hk => Nat.lt_of_lt_of_le (h.lt k hk) m.size
 have hb' := hb.mod m (av b _ h.tb (by decide) (by decide))
 cases k
 ·have hd := h.data.mod m fun g e e' => by have h1 := h.td g e; have h2 := h.ts g e'; omega
  exact TurnR.own ⟨cv, dv, sv, iv, ev, hb', h.cm, hc, hd, ho, hi, he, h.tb, h.td, h.ts, h.tc, h.ti, h.te, hl, h.n_le⟩ hm
 ·have hs := h.stk.mod m fun g e e' => by have h1 := h.ts g e; have h2 := h.td g e'; omega
  exact TurnR.own ⟨cv, dv, sv, iv, ev, hb', h.cm, hc, ho, hs, hi, he, h.tb, h.td, h.ts, h.tc, h.ti, h.te, hl, h.n_le⟩ hm
theorem refCells_set (cv dv sv iv : Value) (x : Nat → BitVec 64) (pc : BitVec 64) (ev : Value) (en tr : Bool) (st : Value) {i : Nat} (h : i < 32) (v : BitVec 64) : (refCells cv dv sv iv x pc ev en tr st).setIfInBounds (4 + i) (U64 v) = refCells cv dv sv iv (updR x i v) pc ev en tr st := by
 apply Array.ext_getElem?
 intro k
 rw [Array.getElem?_setIfInBounds]
 by_cases e : 4 + i = k
 ·subst e
  rw [if_pos rfl, refCells_x _ _ _ _ _ _ _ _ _ _ h, if_pos (by show 4 + i < 41; omega)]
  simp only [updR, if_true]
 ·rw [if_neg e]
  by_cases hk : 4 ≤ k ∧ k < 36
  ·obtain ⟨j, rfl⟩ : ∃ j, k = 4 + j := ⟨k - 4, by omega⟩
   rw [refCells_x _ _ _ _ _ _ _ _ _ _ (by omega), refCells_x _ _ _ _ _ _ _ _ _ _ (by omega)]
   simp only [updR]; rw [if_neg (by omega)]
  ·by_cases h41 : k < 41
   ·rcases (by omega : k = 0 ∨ k = 1 ∨ k = 2 ∨ k = 3 ∨ k = 36 ∨ k = 37 ∨ k = 38 ∨ k = 39 ∨ k = 40) with rfl | rfl | rfl | rfl | rfl | rfl | rfl | rfl | rfl <;> rfl
   ·rw [Array.getElem?_eq_none (by show 41 ≤ k; omega), Array.getElem?_eq_none (by show 41 ≤ k; omega)]
open Classical in
theorem rr_new {w w' : World} {b b8 b9 c8 c9 : Nat} {cv iv : Value} {I : Img} {inp : List (BitVec 64)} (hb : Blk w' b (refCells cv (.slice (some ⟨b8, 0, none⟩) I.entry.toNat c8) (.slice (some ⟨b9, 0, none⟩) 65536 c9) iv (newM I inp).x 65536#64 (.slice none 0 0) false false (IN 0)) 70)
  (hc : Ux.Own w' 1 cv I.words.length (wordCells I.words)) (hd : Ux.Own w' 1 (.slice (some ⟨b8, 0, none⟩) I.entry.toNat c8) I.entry.toNat (bsV (fun _ => 0#8) I.entry.toNat)) (hs : Ux.Own w' 1 (.slice (some ⟨b9, 0, none⟩) 65536 c9) 65536 (bsV (fun _ => 0#8) 65536)) (hi : Ux.Own w' 1 iv inp.length (inp.map I64))
  (h8 : w.heap.size ≤ b8) (h9 : w.heap.size ≤ b9) (h89 : b8 ≠ b9) (l8 : b8 < b) (l9 : b9 < b) (h8w : b8 < w'.heap.size) (h9w : b9 < w'.heap.size) (hcl : ∀ g, cv.ownBlock = some g → b < g) (hil : ∀ g, iv.ownBlock = some g → b < g) (hci : 0 < inp.length → ∀ g, cv.ownBlock = some g → iv.ownBlock ≠ some g) (hw : 0 < I.words.length) (he : I.entry.toNat ≤ 524288) :
  ∃ T, RR T w' b (newM I inp) I.words ∧ ∀ k, T k ≠ 0 → w.heap.size ≤ k := by
 refine ⟨fun k => if k = b then 1 else if k = b8 then 3 else if k = b9 then 4 else if cv.ownBlock = some k then 5 else if 0 < inp.length ∧ iv.ownBlock = some k then 6 else 0, ⟨cv, _, _, iv, _, hb, G, hc.sl, hd, hs, hi.sl, Own.nil _ 2, ?_, ?_, ?_, ?_, ?_, ?_, ?_, he⟩, ?_⟩
 ·show (if b = b then 1 else _) = 1; rw [if_pos rfl]
 ·intro g e; cases e
  show (if b8 = b then 1 else if b8 = b8 then 3 else _) = 3
  rw [if_neg (by omega), if_pos rfl]
 ·intro g e; cases e
  show (if b9 = b then 1 else if b9 = b8 then 3 else if b9 = b9 then 4 else _) = 4
  rw [if_neg (by omega), if_neg (Ne.symm h89), if_pos rfl]
 ·intro g e
  have := hcl g e
  show (if g = b then 1 else if g = b8 then 3 else if g = b9 then 4 else if cv.ownBlock = some g then 5 else _) = 5
  rw [if_neg (by omega), if_neg (by omega), if_neg (by omega), if_pos e]
 ·intro h0 g e
  have := hil g e
  show (if g = b then 1 else if g = b8 then 3 else if g = b9 then 4 else if cv.ownBlock = some g then 5 else if 0 < inp.length ∧ iv.ownBlock = some g then 6 else 0) = 6
  rw [if_neg (by omega), if_neg (by omega), if_neg (by omega), if_neg (fun e' => hci h0 g e' e), if_pos ⟨h0, e⟩]
 ·intro g e; cases e
 ·intro k hk
  by_cases e1 : k = b
  ·subst e1; exact hb.lt
  by_cases e2 : k = b8
  ·subst e2; exact h8w
  by_cases e3 : k = b9
  ·subst e3; exact h9w
  by_cases e4 : cv.ownBlock = some k
  ·exact hc.lt hw (by decide) e4
  by_cases e5 : 0 < inp.length ∧ iv.ownBlock = some k
  ·exact hi.lt e5.1 (by decide) e5.2
  ·exfalso; apply hk; show (if k = b then 1 else if k = b8 then 3 else if k = b9 then 4 else if cv.ownBlock = some k then 5 else if 0 < inp.length ∧ iv.ownBlock = some k then 6 else 0) = 0
   rw [if_neg e1, if_neg e2, if_neg e3, if_neg e4, if_neg e5]
 ·intro k hk
  by_cases e1 : k = b
  ·omega
  by_cases e2 : k = b8
  ·omega
  by_cases e3 : k = b9
  ·omega
  by_cases e4 : cv.ownBlock = some k
  ·have := hcl k e4; omega
  by_cases e5 : 0 < inp.length ∧ iv.ownBlock = some k
  ·have := hil k e5.2; omega
  ·exfalso; apply hk; show (if k = b then 1 else if k = b8 then 3 else if k = b9 then 4 else if cv.ownBlock = some k then 5 else if 0 < inp.length ∧ iv.ownBlock = some k then 6 else 0) = 0
   rw [if_neg e1, if_neg e2, if_neg e3, if_neg e4, if_neg e5]
end Go.Proofs.S
end
section
set_option linter.unusedSimpArgs false
set_option linter.unusedVariables false
namespace Go.Proofs.S
open Go Go.Ux Go.Ux.Mach Go.Proofs
theorem fo70_1 : fieldOff Tryz.prog 70 1 = some 1 := by kernel_rfl
theorem sub_toNat {a c : BitVec 64} (h : c.toNat ≤ a.toNat) : (a - c).toNat = a.toNat - c.toNat := by
 have h1 := a.isLt; have h2 := c.isLt
 rw [BitVec.toNat_sub, show 2 ^ 64 - c.toNat + a.toNat = 2 ^ 64 + (a.toNat - c.toNat) by omega, Nat.add_mod_left, Nat.mod_eq_of_lt (by omega)]
theorem size64 {size : Nat} (h : size = 1 ∨ size = 2 ∨ size = 4 ∨ size = 8) : (BitVec.ofNat 64 size).toNat = size := by rw [BitVec.toNat_ofNat]; omega
theorem rem_zero {addr : BitVec 64} {size : Nat} (h : size = 1 ∨ size = 2 ∨ size = 4 ∨ size = 8) : (addr % BitVec.ofNat 64 size != 0#64) = decide (addr.toNat % size ≠ 0) := by
 have e : (addr % BitVec.ofNat 64 size).toNat = addr.toNat % size := by rw [BitVec.toNat_umod, size64 h]
 rw [← e]
 by_cases h0 : addr % BitVec.ofNat 64 size = 0#64
 ·rw [h0]; rfl
 ·have h1 : (addr % BitVec.ofNat 64 size).toNat ≠ 0 := fun k => h0 (BitVec.eq_of_toNat_eq k)
  rw [decide_eq_true h1]; simpa using h0
theorem end64 {n : Nat} (hn : n ≤ 524288) : (4194304#64 + BitVec.ofNat 64 n).toNat = 4194304 + n := by rw [BitVec.toNat_add, BitVec.toNat_ofNat, BitVec.toNat_ofNat]; omega
theorem add64 {addr : BitVec 64} {size n : Nat} (h : size = 1 ∨ size = 2 ∨ size = 4 ∨ size = 8) (h1 : addr.toNat < 4194304 + n) (hn : n ≤ 524288) : (addr + BitVec.ofNat 64 size).toNat = addr.toNat + size := by rw [BitVec.toNat_add, size64 h]; omega
theorem data_b {addr : BitVec 64} {size n : Nat} (h : size = 1 ∨ size = 2 ∨ size = 4 ∨ size = 8) (hn : n ≤ 524288) :
  (BitVec.ule 4194304#64 addr && (BitVec.ult addr (4194304#64 + BitVec.ofNat 64 n) && BitVec.ule (addr + BitVec.ofNat 64 size) (4194304#64 + BitVec.ofNat 64 n))) = decide (4194304 ≤ addr.toNat ∧ addr.toNat < 4194304 + n ∧ addr.toNat + size ≤ 4194304 + n) := by
 have e0 : (4194304#64).toNat = 4194304 := rfl
 simp only [BitVec.ule, BitVec.ult, end64 hn, e0, Bool.decide_and]
 by_cases h1 : addr.toNat < 4194304 + n
 ·rw [add64 h h1 hn]
 ·rw [decide_eq_false h1]; simp
theorem stack_b {addr : BitVec 64} : (BitVec.ule 8323072#64 addr && BitVec.ult addr 8388608#64) = decide (8323072 ≤ addr.toNat ∧ addr.toNat < 8388608) := by
 have e0 : (8323072#64).toNat = 8323072 := rfl
 have e1 : (8388608#64).toNat = 8388608 := rfl
 simp only [BitVec.ule, BitVec.ult, e0, e1, Bool.decide_and]
theorem where_r (addr : BitVec 64) (size : Nat) (b : Nat) (cv dv sv iv : Value) (x : Nat → BitVec 64) (pc : BitVec 64) (ev : Value) (en tr : Bool) (st : Value) (n : Nat) (d t : Nat → BitVec 8) (w : World) (hB : Blk w b (refCells cv dv sv iv x pc ev en tr st) 70) (hD : Sl w dv 1 n (bsV d n)) (hn : n ≤ 524288) (hz : size = 1 ∨ size = 2 ∨ size = 4 ∨ size = 8) : CallsR Tryz.prog 38 #[ptr b 0, U64 addr, IN size] w (fun v w' => v = .tuple #[IN (whereR n addr size).1, IN (whereR n addr size).2] ∧ Ext w w') := by
 have hb1 : (4194304#64).toNat = 4194304 := rfl; have hb2 : (8323072#64).toNat = 8323072 := rfl; have hb3 : (8388608#64).toNat = 8388608 := rfl
 refine callsR_of Tryz.func38 G G G ?_
 refine Sr (An (IN 0) G (An (IN 0) G (Ni (Sq (Sr (Mv (U64 addr) G (Mv (IN size) G ?_)))))))
 refine WL.conv rfl rfl (ConvR.nu64 Tryz.underlying3 Tryz.underlying39) (WL.bin rfl rfl rfl (BinR.remU64 (fun e => by have h := congrArg BitVec.toNat e; rw [size64 hz] at h; have h0 : (0#64).toNat = 0 := rfl; omega)) (WL.bin rfl (vy := U64 (0#64)) rfl rfl BinR.neqU64 (WL.nil ?_)))
 refine WC.cond G (fun hc12 => ?_) (fun hc12 => ?_)
 ·have k1 : addr.toNat % size ≠ 0 := of_decide_eq_true ((rem_zero hz).symm.trans hc12)
  refine Sr (An (IN 0) G (An (IN 0) G (Ni (WC.ret ?_))))
  have hfin : (.tuple #[(IN 0), (IN 0)] : Value) = .tuple #[IN (whereR n addr size).1, IN (whereR n addr size).2] := by
   unfold whereR
   first
   | (rw [if_pos k1])
   | (rw [if_neg k1, if_pos k2, sub_toNat (by omega)]; rfl)
   | (rw [if_neg k1, if_neg k2, if_pos k3, sub_toNat (by omega)]; rfl)
   | (rw [if_neg k1, if_neg k2, if_neg k3])
  exact ⟨_, Res.two (v := IN 0) (v' := IN 0) G G G, hfin, Mod.refl _ _⟩
 ·have k1 : ¬ addr.toNat % size ≠ 0 := of_decide_eq_false ((rem_zero hz).symm.trans hc12)
  refine WC.skip (Sq (Sq ?_))
  refine WC.cut (fun f' w_ => f' 0 = ptr b 0 ∧ f' 1 = U64 addr ∧ f' 2 = IN size ∧ f' 6 = IN 0 ∧ f' 7 = IN 0 ∧ f' 8 = U64 addr ∧ f' 9 = IN size ∧ f' 10 = U64 (BitVec.ofNat 64 size) ∧ f' 11 = U64 ((addr % BitVec.ofNat 64 size)) ∧ f' 12 = .bool (((addr % BitVec.ofNat 64 size) != 0#64)) ∧ f' 39 = .bool (decide (4194304 ≤ addr.toNat ∧ addr.toNat < 4194304 + n ∧ addr.toNat + size ≤ 4194304 + n)) ∧ w = w_) ?_ ?_
  ·refine Rg (Mv (U64 addr) G (Bn (vy := U64 (4194304#64)) G G BinR.geqU64 (Mv (.bool (BitVec.ule (4194304#64) addr)) G ?_)))
   rcases Bool.eq_false_or_eq_true (BitVec.ule (4194304#64) addr) with hg15 | hg15
   ·refine Gt (Yb G G hg15) (Mv (U64 addr) G (Gt (Yb G G hg15) (Mv (ptr b 0) G (Gt (Yb G G hg15) (WL.nilCheck G G (Gt (Yb G G hg15) (Fa G fo70_1 (Gt (Yb G G hg15) (Lo G ag45 (hB.cell (j := 1) G) ?_)))))))))
    refine Gt (Yb G G hg15) (WL.lenSl (sz := 1) (m := n) (xs := bsV d n) el45 G hD G (Gt (Yb G G hg15) (Cv G (ConvR.nu64 Tryz.underlying3 Tryz.underlying39) (Gt (Yb G G hg15) (Bn (vx := U64 (4194304#64)) G G BinR.addU64 (Gt (Yb G G hg15) (Bn G G BinR.lssU64 (Pk (b := true) (congrArg Value.bool hg15) G (Mv (.bool (BitVec.ult addr ((4194304#64 + BitVec.ofNat 64 n)))) G ?_)))))))))
    rcases Bool.eq_false_or_eq_true (BitVec.ult addr ((4194304#64 + BitVec.ofNat 64 n))) with hg26 | hg26
    ·refine Gt (Yb G G hg26) (Mv (U64 addr) G (Gt (Yb G G hg26) (Mv (IN size) G (Gt (Yb G G hg26) (Cv G (ConvR.nu64 Tryz.underlying3 Tryz.underlying39) (Gt (Yb G G hg26) (Bn G G BinR.addU64 (Gt (Yb G G hg26) (Mv (ptr b 0) G ?_)))))))))
     refine Gt (Yb G G hg26) (WL.nilCheck G G (Gt (Yb G G hg26) (Fa G fo70_1 (Gt (Yb G G hg26) (Lo G ag45 (hB.cell (j := 1) G) (Gt (Yb G G hg26) (WL.lenSl (sz := 1) (m := n) (xs := bsV d n) el45 G hD G (Gt (Yb G G hg26) (Cv G (ConvR.nu64 Tryz.underlying3 Tryz.underlying39) ?_)))))))))
     refine Gt (Yb G G hg26) (Bn (vx := U64 (4194304#64)) G G BinR.addU64 (Gt (Yb G G hg26) (Bn G G BinR.leqU64 (Pk (b := true) (congrArg Value.bool hg26) G (Ni ?_)))))
     have hcut : (BitVec.ule ((addr + BitVec.ofNat 64 size)) ((4194304#64 + BitVec.ofNat 64 n))) = decide (4194304 ≤ addr.toNat ∧ addr.toNat < 4194304 + n ∧ addr.toNat + size ≤ 4194304 + n) := by rw [← data_b hz hn]; simp only [*, Bool.false_and, Bool.true_and, Bool.and_false, Bool.and_true]
     exact ⟨G, G, G, G, G, G, G, G, G, G, G, congrArg Value.bool hcut, G⟩
    ·refine Gf false (Yb G G hg26) (Gf false (Yb G G hg26) (Gf false (Yb G G hg26) (Gf false (Yb G G hg26) (Gf false (Yb G G hg26) (Gf false (Yb G G hg26) (Gf false (Yb G G hg26) (Gf false (Yb G G hg26) (Gf false (Yb G G hg26) (Gf false (Yb G G hg26) ?_)))))))))
     refine Gf false (Yb G G hg26) (Gf false (Yb G G hg26) (Pk (b := false) (congrArg Value.bool hg26) G (Ni ?_)))
     have hcut : false = decide (4194304 ≤ addr.toNat ∧ addr.toNat < 4194304 + n ∧ addr.toNat + size ≤ 4194304 + n) := by rw [← data_b hz hn]; simp only [*, Bool.false_and, Bool.true_and, Bool.and_false, Bool.and_true]
     exact ⟨G, G, G, G, G, G, G, G, G, G, G, congrArg Value.bool hcut, G⟩
   ·refine Gf false (Yb G G hg15) (Gf false (Yb G G hg15) (Gf false (Yb G G hg15) (Gf false (Yb G G hg15) (Gf false (Yb G G hg15) (Gf false (Yb G G hg15) (Gf false (Yb G G hg15) (Gf false (Yb G G hg15) (Gf false (Yb G G hg15) (Pk (b := false) (congrArg Value.bool hg15) G ?_)))))))))
    refine Mv (.bool false) G (Gf false G (Gf false G (Gf false G (Gf false G (Gf false G (Gf false G (Gf false G (Gf false G (Gf false G ?_)))))))))
    refine Gf false G (Gf false G (Gf false G (Pk (b := false) G G (Ni ?_))))
    have hcut : false = decide (4194304 ≤ addr.toNat ∧ addr.toNat < 4194304 + n ∧ addr.toNat + size ≤ 4194304 + n) := by rw [← data_b hz hn]; simp only [*, Bool.false_and, Bool.true_and, Bool.and_false, Bool.and_true]
    exact ⟨G, G, G, G, G, G, G, G, G, G, G, congrArg Value.bool hcut, G⟩
  rintro fc3 _ ⟨hc3_0, hc3_1, hc3_2, hc3_6, hc3_7, hc3_8, hc3_9, hc3_10, hc3_11, hc3_12, hc3_39, rfl⟩
  refine WC.cond hc3_39 (fun hc39 => ?_) (fun hc39 => ?_)
  ·have k2 := of_decide_eq_true hc39
   refine WC.seq (WC.region (WL.move (v := U64 addr) hc3_1 rfl (WL.bin rfl (vy := U64 (4194304#64)) rfl rfl BinR.subU64 (WL.conv rfl rfl (ConvR.toI Tryz.underlying39 Tryz.underlying3 (by rw [sub_toNat (by omega)]; omega)) (WL.assign (v := IN 1) rfl rfl (WL.assign (v := IN ((addr - 4194304#64).toNat)) rfl rfl (WL.nil (WC.ret ?_))))))))
   have hfin : (.tuple #[(IN 1), (IN ((addr - 4194304#64).toNat))] : Value) = .tuple #[IN (whereR n addr size).1, IN (whereR n addr size).2] := by
    unfold whereR
    first
    | (rw [if_pos k1])
    | (rw [if_neg k1, if_pos k2, sub_toNat (by omega)]; rfl)
    | (rw [if_neg k1, if_neg k2, if_pos k3, sub_toNat (by omega)]; rfl)
    | (rw [if_neg k1, if_neg k2, if_neg k3])
   exact ⟨_, Res.two (v := IN 1) (v' := IN ((addr - 4194304#64).toNat)) G G G, hfin, Mod.refl _ _⟩
  ·have k2 := of_decide_eq_false hc39
   refine WC.skip (Sq (Sq ?_))
   refine WC.cut (fun f' w_ => f' 0 = ptr b 0 ∧ f' 1 = U64 addr ∧ f' 2 = IN size ∧ f' 6 = IN 0 ∧ f' 7 = IN 0 ∧ f' 8 = U64 addr ∧ f' 9 = IN size ∧ f' 10 = U64 (BitVec.ofNat 64 size) ∧ f' 11 = U64 ((addr % BitVec.ofNat 64 size)) ∧ f' 12 = .bool (((addr % BitVec.ofNat 64 size) != 0#64)) ∧ f' 39 = .bool (decide (4194304 ≤ addr.toNat ∧ addr.toNat < 4194304 + n ∧ addr.toNat + size ≤ 4194304 + n)) ∧ f' 48 = .bool (decide (8323072 ≤ addr.toNat ∧ addr.toNat < 8388608)) ∧ w = w_) ?_ ?_
   ·refine Rg (Mv (U64 addr) hc3_1 (Bn (vy := U64 (8323072#64)) G G BinR.geqU64 (Mv (.bool (BitVec.ule (8323072#64) addr)) G ?_)))
    rcases Bool.eq_false_or_eq_true (BitVec.ule (8323072#64) addr) with hg45 | hg45
    ·refine Gt (Yb G G hg45) (Mv (U64 addr) hc3_1 (Gt (Yb G G hg45) (Bn (vy := U64 (8388608#64)) G G BinR.lssU64 (Pk (b := true) (congrArg Value.bool hg45) G (Ni ?_)))))
     have hcut : (BitVec.ult addr (8388608#64)) = decide (8323072 ≤ addr.toNat ∧ addr.toNat < 8388608) := by rw [← stack_b]; simp only [*, Bool.false_and, Bool.true_and, Bool.and_false, Bool.and_true]
     exact ⟨G, hc3_0, hc3_1, hc3_2, hc3_6, hc3_7, hc3_8, hc3_9, hc3_10, hc3_11, hc3_12, hc3_39, congrArg Value.bool hcut, G⟩
    ·refine Gf false (Yb G G hg45) (Gf false (Yb G G hg45) (Pk (b := false) (congrArg Value.bool hg45) G (Ni ?_)))
     have hcut : false = decide (8323072 ≤ addr.toNat ∧ addr.toNat < 8388608) := by rw [← stack_b]; simp only [*, Bool.false_and, Bool.true_and, Bool.and_false, Bool.and_true]
     exact ⟨G, hc3_0, hc3_1, hc3_2, hc3_6, hc3_7, hc3_8, hc3_9, hc3_10, hc3_11, hc3_12, hc3_39, congrArg Value.bool hcut, G⟩
   rintro fc5 _ ⟨hc5_0, hc5_1, hc5_2, hc5_6, hc5_7, hc5_8, hc5_9, hc5_10, hc5_11, hc5_12, hc5_39, hc5_48, rfl⟩
   refine WC.cond hc5_48 (fun hc48 => ?_) (fun hc48 => ?_)
   ·have k3 := of_decide_eq_true hc48
    refine WC.seq (WC.region (WL.move (v := U64 addr) hc5_1 rfl (WL.bin rfl (vy := U64 (8323072#64)) rfl rfl BinR.subU64 (WL.conv rfl rfl (ConvR.toI Tryz.underlying39 Tryz.underlying3 (by rw [sub_toNat (by omega)]; omega)) (WL.assign (v := IN 2) rfl rfl (WL.assign (v := IN ((addr - 8323072#64).toNat)) rfl rfl (WL.nil (WC.ret ?_))))))))
    have hfin : (.tuple #[(IN 2), (IN ((addr - 8323072#64).toNat))] : Value) = .tuple #[IN (whereR n addr size).1, IN (whereR n addr size).2] := by
     unfold whereR
     first
     | (rw [if_pos k1])
     | (rw [if_neg k1, if_pos k2, sub_toNat (by omega)]; rfl)
     | (rw [if_neg k1, if_neg k2, if_pos k3, sub_toNat (by omega)]; rfl)
     | (rw [if_neg k1, if_neg k2, if_neg k3])
    exact ⟨_, Res.two (v := IN 2) (v' := IN ((addr - 8323072#64).toNat)) G G G, hfin, Mod.refl _ _⟩
   ·have k3 := of_decide_eq_false hc48
    refine WC.skip (Sr (An (IN 0) G (An (IN 0) G (Ni (WC.ret ?_)))))
    have hfin : (.tuple #[(IN 0), (IN 0)] : Value) = .tuple #[IN (whereR n addr size).1, IN (whereR n addr size).2] := by
     unfold whereR
     first
     | (rw [if_pos k1])
     | (rw [if_neg k1, if_pos k2, sub_toNat (by omega)]; rfl)
     | (rw [if_neg k1, if_neg k2, if_pos k3, sub_toNat (by omega)]; rfl)
     | (rw [if_neg k1, if_neg k2, if_neg k3])
    exact ⟨_, Res.two (v := IN 0) (v' := IN 0) G G G, hfin, Mod.refl _ _⟩
end Go.Proofs.S
end
section
namespace Go.Proofs.S
open Go Go.Ux Go.Ux.Mach Go.Proofs Go.Proofs.M Go.Ux.Image
open Go.Proofs.N (doM loadsM)
end Go.Proofs.S
end
section
set_option linter.unusedSimpArgs false
set_option linter.unusedVariables false
namespace Go.Proofs.S
open Go Go.Ux Go.Ux.Mach Go.Proofs
theorem ca38 : callable Tryz.prog 38 = true := by kernel_rfl
theorem fo70_2 : fieldOff Tryz.prog 70 2 = some 2 := by kernel_rfl
theorem load_r1 (addr : BitVec 64) (size o : Nat) (b : Nat) (cv dv sv iv : Value) (x : Nat → BitVec 64) (pc : BitVec 64) (ev : Value) (en tr : Bool) (st : Value) (n : Nat) (d t : Nat → BitVec 8) (w : World) (hB : Blk w b (refCells cv dv sv iv x pc ev en tr st) 70) (hD : Sl w dv 1 n (bsV d n)) (hn : n ≤ 524288) (hT : Sl w sv 1 65536 (bsV t 65536)) (hz : size = 1 ∨ size = 2 ∨ size = 4 ∨ size = 8) (hW : whereR n addr size = (1, o)) (ho : o + size ≤ n) : CallsR Tryz.prog 24 #[ptr b 0, U64 addr, IN size] w (fun v w' => v = .tuple #[U64 (loadT d o size size), .bool true] ∧ Ext w w') := by
 refine callsR_of Tryz.func24 G G G ?_
 refine Sr (An (U64 (0#64)) G (An (.bool false) G (Ni (Sr (Mv (ptr b 0) G (Mv (U64 addr) G (Mv (IN size) G ?_)))))))
 refine WL.call ca38 G G (where_r addr size b cv dv sv iv x pc ev en tr st n d t _ hB (hD.ext' (Mod.refl _ _)) hn hz) ?_
 rintro _ wc17 ⟨rfl, ec17⟩
 rw [hW]
 have E1 : Ext w wc17 := ec17
 refine Mv (.tuple #[IN 1, IN o]) G (Et G G (Et G G (An (IN 1) G (An (IN o) G (Ni (Sr (An (U64 (0#64)) G (Ni ?_))))))))
 refine Sq (Sr (Mv (IN size) G (Bn G G (BinR.subI (by omega)) (An (.int .i64 (((size : Nat) : Int) - (1 : Int))) G (Ni (Bk ?_))))))
 refine WC.loop (fun k f w_ => ∃ j, (k + j = size) ∧ f 0 = ptr b 0 ∧ f 2 = IN size ∧ f 8 = IN 1 ∧ f 9 = IN o ∧ f 10 = U64 (loadT d o size j) ∧ f 11 = .int .i64 ((((size : Nat) : Int) - 1 - ((j : Nat) : Int))) ∧ (Ext w w_)) size ?_ ?_
 ·exact ⟨0, by omega, rfl, rfl, rfl, rfl, rfl, (by rw [show (((size : Nat) : Int) - 1 - ((0 : Nat) : Int)) = ((size : Nat) : Int) - 1 by omega]; rfl), E1⟩
 rintro ka f1 wr ⟨j, hk, h0_1, h2_1, h8_1, h9_1, h10_1, h11_1, hE⟩
 refine Sq (Sr (Mv (.int .i64 ((((size : Nat) : Int) - 1 - ((j : Nat) : Int)))) h11_1 (Bn G G BinR.geq (Mv (.bool (decide ((0 : Int) ≤ ((((size : Nat) : Int) - 1 - ((j : Nat) : Int)) : Int)))) G ?_))))
 rcases Bool.eq_false_or_eq_true (decide ((0 : Int) ≤ ((((size : Nat) : Int) - 1 - ((j : Nat) : Int)) : Int))) with hg24 | hg24
 ·have hj : j < size := by have := of_decide_eq_true hg24; omega
  obtain ⟨bd, od, cd, ed, hcd⟩ := hD.at (by omega)
  refine Gt (Yb G G hg24) (Mv (IN 1) h8_1 (Gt (Yb G G hg24) (Bn (v := .bool true) G G (BinR.toB BinR.gtr (by decide)) (Pk (b := true) (congrArg Value.bool hg24) G (Ni (Ct G (WC.skip (Sq (Bk ?_)))))))))
  refine Sr (An (U8 (0#8)) G (Ni (Sq (Sr (Mv (IN 1) h8_1 (Bn (v := .bool true) G G (BinR.toB BinR.eql (by decide)) (Ni ?_)))))))
  refine Ct G (Rg (Mv (ptr b 0) h0_1 (WL.nilCheck G G (Fa G fo70_1 (Lo G ag45 ((hB.ext hE).cell (j := 1) G) (Mv (IN o) h9_1 (Mv (.int .i64 ((((size : Nat) : Int) - 1 - ((j : Nat) : Int)))) h11_1 (Bn G G ((show ((o : Nat) : Int) + (((size : Nat) : Int) - 1 - ((j : Nat) : Int)) = ((o + (size - 1 - j) : Nat) : Int) by omega) ▸ BinR.addI (by omega)) (WL.indexAddr (i := (o + (size - 1 - j))) (b := bd) (o := od) el45 sz5 (Eq.trans G ed) G (by omega) G ?_)))))))))
  refine WL.load1 rfl ag5 ((hcd.ext hE) ((o + (size - 1 - j)) * 1) _ (by rw [Nat.mul_one]; exact bsV_get d (by omega))) rfl (WL.assign (v := U8 ((d (o + (size - 1 - j))))) rfl rfl (WL.nil (WC.region (WL.move (v := U64 (loadT d o size j)) h10_1 rfl (WL.bin (vy := .int .u64 ((8 : Nat) : Int)) rfl rfl rfl (BinR.shlU64 (s := 8)) (WL.move (v := U8 ((d (o + (size - 1 - j))))) rfl rfl (WL.conv rfl rfl (ConvR.u8u64 Tryz.underlying5 Tryz.underlying39) (WL.bin rfl rfl rfl BinR.addU64 (WL.assign (v := U64 (((loadT d o size j <<< 8) + ((d (o + (size - 1 - j)))).setWidth 64))) rfl rfl ?_)))))))))
  refine Ni (Rg (Mv (.int .i64 ((((size : Nat) : Int) - 1 - ((j : Nat) : Int)))) h11_1 (Bn G G (BinR.subI (by omega)) (An (.int .i64 (((((size : Nat) : Int) - 1 - ((j : Nat) : Int)) : Int) - (1 : Int))) G (Ni ?_)))))
  have h11 : (((size : Nat) : Int) - 1 - (((j + 1 : Nat)) : Int)) = ((((size : Nat) : Int) - 1 - ((j : Nat) : Int)) : Int) - (1 : Int) := by omega
  exact ⟨ka - 1, by omega, (j + 1), by omega, h0_1, h2_1, h8_1, h9_1, G, (by rw [h11]; exact rfl), hE⟩
 ·have hj : size ≤ j := by have := of_decide_eq_false hg24; omega
  refine Gf false (Yb G G hg24) (Gf false (Yb G G hg24) (Pk (b := false) (congrArg Value.bool hg24) G (Ni (Cf G (WC.exit (Sr (Mv (U64 (loadT d o size j)) h10_1 (Mv (IN 1) h8_1 ?_))))))))
  refine Bn (v := .bool true) G G (BinR.toB BinR.gtr (by decide)) (An (U64 (loadT d o size j)) G (An (.bool true) G (Ni (WC.ret ?_))))
  exact ⟨_, Res.two (v := U64 (loadT d o size j)) (v' := .bool true) rfl rfl rfl, (by have e : j = size := (by omega); subst e; rfl), hE⟩
theorem load_r2 (addr : BitVec 64) (size o : Nat) (b : Nat) (cv dv sv iv : Value) (x : Nat → BitVec 64) (pc : BitVec 64) (ev : Value) (en tr : Bool) (st : Value) (n : Nat) (d t : Nat → BitVec 8) (w : World) (hB : Blk w b (refCells cv dv sv iv x pc ev en tr st) 70) (hD : Sl w dv 1 n (bsV d n)) (hn : n ≤ 524288) (hT : Sl w sv 1 65536 (bsV t 65536)) (hz : size = 1 ∨ size = 2 ∨ size = 4 ∨ size = 8) (hW : whereR n addr size = (2, o)) (ho : o + size ≤ 65536) : CallsR Tryz.prog 24 #[ptr b 0, U64 addr, IN size] w (fun v w' => v = .tuple #[U64 (loadT t o size size), .bool true] ∧ Ext w w') := by
 refine callsR_of Tryz.func24 G G G ?_
 refine Sr (An (U64 (0#64)) G (An (.bool false) G (Ni (Sr (Mv (ptr b 0) G (Mv (U64 addr) G (Mv (IN size) G ?_)))))))
 refine WL.call ca38 G G (where_r addr size b cv dv sv iv x pc ev en tr st n d t _ hB (hD.ext' (Mod.refl _ _)) hn hz) ?_
 rintro _ wc17 ⟨rfl, ec17⟩
 rw [hW]
 have E1 : Ext w wc17 := ec17
 refine Mv (.tuple #[IN 2, IN o]) G (Et G G (Et G G (An (IN 2) G (An (IN o) G (Ni (Sr (An (U64 (0#64)) G (Ni ?_))))))))
 refine Sq (Sr (Mv (IN size) G (Bn G G (BinR.subI (by omega)) (An (.int .i64 (((size : Nat) : Int) - (1 : Int))) G (Ni (Bk ?_))))))
 refine WC.loop (fun k f w_ => ∃ j, (k + j = size) ∧ f 0 = ptr b 0 ∧ f 2 = IN size ∧ f 8 = IN 2 ∧ f 9 = IN o ∧ f 10 = U64 (loadT t o size j) ∧ f 11 = .int .i64 ((((size : Nat) : Int) - 1 - ((j : Nat) : Int))) ∧ (Ext w w_)) size ?_ ?_
 ·exact ⟨0, by omega, rfl, rfl, rfl, rfl, rfl, (by rw [show (((size : Nat) : Int) - 1 - ((0 : Nat) : Int)) = ((size : Nat) : Int) - 1 by omega]; rfl), E1⟩
 rintro ka f1 wr ⟨j, hk, h0_1, h2_1, h8_1, h9_1, h10_1, h11_1, hE⟩
 refine Sq (Sr (Mv (.int .i64 ((((size : Nat) : Int) - 1 - ((j : Nat) : Int)))) h11_1 (Bn G G BinR.geq (Mv (.bool (decide ((0 : Int) ≤ ((((size : Nat) : Int) - 1 - ((j : Nat) : Int)) : Int)))) G ?_))))
 rcases Bool.eq_false_or_eq_true (decide ((0 : Int) ≤ ((((size : Nat) : Int) - 1 - ((j : Nat) : Int)) : Int))) with hg24 | hg24
 ·have hj : j < size := by have := of_decide_eq_true hg24; omega
  obtain ⟨bd, od, cd, ed, hcd⟩ := hT.at (by omega)
  refine Gt (Yb G G hg24) (Mv (IN 2) h8_1 (Gt (Yb G G hg24) (Bn (v := .bool true) G G (BinR.toB BinR.gtr (by decide)) (Pk (b := true) (congrArg Value.bool hg24) G (Ni (Ct G (WC.skip (Sq (Bk ?_)))))))))
  refine Sr (An (U8 (0#8)) G (Ni (Sq (Sr (Mv (IN 2) h8_1 (Bn (v := .bool false) G G (BinR.toB BinR.eql (by decide)) (Ni ?_)))))))
  refine Cf G (Rg (Mv (ptr b 0) h0_1 (WL.nilCheck G G (Fa G fo70_2 (Lo G ag45 ((hB.ext hE).cell (j := 2) G) (Mv (IN o) h9_1 (Mv (.int .i64 ((((size : Nat) : Int) - 1 - ((j : Nat) : Int)))) h11_1 (Bn G G ((show ((o : Nat) : Int) + (((size : Nat) : Int) - 1 - ((j : Nat) : Int)) = ((o + (size - 1 - j) : Nat) : Int) by omega) ▸ BinR.addI (by omega)) (WL.indexAddr (i := (o + (size - 1 - j))) (b := bd) (o := od) el45 sz5 (Eq.trans G ed) G (by omega) G ?_)))))))))
  refine WL.load1 rfl ag5 ((hcd.ext hE) ((o + (size - 1 - j)) * 1) _ (by rw [Nat.mul_one]; exact bsV_get t (by omega))) rfl (WL.assign (v := U8 ((t (o + (size - 1 - j))))) rfl rfl (WL.nil (WC.region (WL.move (v := U64 (loadT t o size j)) h10_1 rfl (WL.bin (vy := .int .u64 ((8 : Nat) : Int)) rfl rfl rfl (BinR.shlU64 (s := 8)) (WL.move (v := U8 ((t (o + (size - 1 - j))))) rfl rfl (WL.conv rfl rfl (ConvR.u8u64 Tryz.underlying5 Tryz.underlying39) (WL.bin rfl rfl rfl BinR.addU64 (WL.assign (v := U64 (((loadT t o size j <<< 8) + ((t (o + (size - 1 - j)))).setWidth 64))) rfl rfl ?_)))))))))
  refine Ni (Rg (Mv (.int .i64 ((((size : Nat) : Int) - 1 - ((j : Nat) : Int)))) h11_1 (Bn G G (BinR.subI (by omega)) (An (.int .i64 (((((size : Nat) : Int) - 1 - ((j : Nat) : Int)) : Int) - (1 : Int))) G (Ni ?_)))))
  have h11 : (((size : Nat) : Int) - 1 - (((j + 1 : Nat)) : Int)) = ((((size : Nat) : Int) - 1 - ((j : Nat) : Int)) : Int) - (1 : Int) := by omega
  exact ⟨ka - 1, by omega, (j + 1), by omega, h0_1, h2_1, h8_1, h9_1, G, (by rw [h11]; exact rfl), hE⟩
 ·have hj : size ≤ j := by have := of_decide_eq_false hg24; omega
  refine Gf false (Yb G G hg24) (Gf false (Yb G G hg24) (Pk (b := false) (congrArg Value.bool hg24) G (Ni (Cf G (WC.exit (Sr (Mv (U64 (loadT t o size j)) h10_1 (Mv (IN 2) h8_1 ?_))))))))
  refine Bn (v := .bool true) G G (BinR.toB BinR.gtr (by decide)) (An (U64 (loadT t o size j)) G (An (.bool true) G (Ni (WC.ret ?_))))
  exact ⟨_, Res.two (v := U64 (loadT t o size j)) (v' := .bool true) rfl rfl rfl, (by have e : j = size := (by omega); subst e; rfl), hE⟩
theorem load_r0 (addr : BitVec 64) (size : Nat) (b : Nat) (cv dv sv iv : Value) (x : Nat → BitVec 64) (pc : BitVec 64) (ev : Value) (en tr : Bool) (st : Value) (n : Nat) (d t : Nat → BitVec 8) (w : World) (hB : Blk w b (refCells cv dv sv iv x pc ev en tr st) 70) (hD : Sl w dv 1 n (bsV d n)) (hn : n ≤ 524288) (hz : size = 1 ∨ size = 2 ∨ size = 4 ∨ size = 8) (hW : whereR n addr size = (0, 0)) : CallsR Tryz.prog 24 #[ptr b 0, U64 addr, IN size] w (fun v w' => v = .tuple #[U64 (0#64), .bool false] ∧ Ext w w') := by
 refine callsR_of Tryz.func24 G G G ?_
 refine Sr (An (U64 (0#64)) G (An (.bool false) G (Ni (Sr (Mv (ptr b 0) G (Mv (U64 addr) G (Mv (IN size) G ?_)))))))
 refine WL.call ca38 G G (where_r addr size b cv dv sv iv x pc ev en tr st n d t _ hB (hD.ext' (Mod.refl _ _)) hn hz) ?_
 rintro _ wc17 ⟨rfl, ec17⟩
 rw [hW]
 have E1 : Ext w wc17 := ec17
 refine Mv (.tuple #[IN 0, IN 0]) G (Et G G (Et G G (An (IN 0) G (An (IN 0) G (Ni (Sr (An (U64 (0#64)) G (Ni ?_))))))))
 refine Sq (Sr (Mv (IN size) G (Bn G G (BinR.subI (by omega)) (An (.int .i64 (((size : Nat) : Int) - (1 : Int))) G (Ni (Bk ?_))))))
 refine WC.loop (fun k f w_ => f 8 = IN 0 ∧ f 10 = U64 (0#64) ∧ f 11 = .int .i64 ((((size : Nat) : Int) - 1)) ∧ (Ext w w_)) 0 ?_ ?_
 ·exact ⟨G, G, G, E1⟩
 rintro k f1 wr ⟨h8_1, h10_1, h11_1, hE⟩
 refine Sq (Sr (Mv (.int .i64 ((((size : Nat) : Int) - 1))) h11_1 (Bn (v := .bool true) G G (BinR.toB BinR.geq (decide_eq_true (by omega))) (Mv (.bool true) G (Gt G (Mv (IN 0) h8_1 (Gt G (Bn (v := .bool false) G G (BinR.toB BinR.gtr (by decide)) ?_))))))))
 refine Pk (b := true) G G (Ni (Cf G (WC.exit (Sr (Mv (U64 (0#64)) h10_1 (Mv (IN 0) h8_1 (Bn (v := .bool false) G G (BinR.toB BinR.gtr (by decide)) (An (U64 (0#64)) G ?_))))))))
 refine An (.bool false) G (Ni (WC.ret ?_))
 exact ⟨_, Res.two (v := U64 (0#64)) (v' := .bool false) G G G, G, hE⟩
end Go.Proofs.S
end
section
set_option linter.unusedSimpArgs false
set_option linter.unusedVariables false
namespace Go.Proofs.S
open Go Go.Ux Go.Ux.Mach Go.Proofs
end Go.Proofs.S
end
section
set_option linter.unusedSimpArgs false
set_option linter.unusedVariables false
namespace Go.Proofs.S
open Go Go.Ux Go.Ux.Mach Go.Proofs
theorem fo61_0 : fieldOff Tryz.prog 61 0 = some 0 := by kernel_rfl
theorem bld22_10 (a b n m : Nat) : ∀ w : World, (Instr.build 70 #[(1, .slice (some ⟨a, 0, none⟩) n n), (2, .slice (some ⟨b, 0, none⟩) m m), (5, U64 (65536#64))]).run Tryz.prog w = .ok (.agg #[.slice none 0 0, .slice (some ⟨a, 0, none⟩) n n, .slice (some ⟨b, 0, none⟩) m m, .slice none 0 0, .int .u64 0, .int .u64 0, .int .u64 0, .int .u64 0, .int .u64 0, .int .u64 0, .int .u64 0, .int .u64 0, .int .u64 0, .int .u64 0, .int .u64 0, .int .u64 0, .int .u64 0, .int .u64 0, .int .u64 0, .int .u64 0, .int .u64 0, .int .u64 0, .int .u64 0, .int .u64 0, .int .u64 0, .int .u64 0, .int .u64 0, .int .u64 0, .int .u64 0, .int .u64 0, .int .u64 0, .int .u64 0, .int .u64 0, .int .u64 0, .int .u64 0, .int .u64 0, U64 (65536#64), .slice none 0 0, .bool false, .bool false, IN 0]) w := fun _ => by kernel_rfl
theorem fo70_0 : fieldOff Tryz.prog 70 0 = some 0 := by kernel_rfl
theorem fo61_2 : fieldOff Tryz.prog 61 2 = some 2 := by kernel_rfl
theorem sz23 : sizeT Tryz.prog 23 = some 1 := by kernel_rfl
theorem fo70_3 : fieldOff Tryz.prog 70 3 = some 3 := by kernel_rfl
theorem fo70_4 : fieldOff Tryz.prog 70 4 = some 4 := by kernel_rfl
open Go.Proofs.M (instV Glob)
open Go.Ux.Image
theorem ones_U32 (l : List (BitVec 32)) : ∀ u ∈ wordCells l, u.oneCell' = true := by
 intro u hu; unfold wordCells at hu; obtain ⟨x, _, rfl⟩ := List.mem_map.1 hu; rfl
end Go.Proofs.S
end
