/- Steps of the proof, packed by program: McO2 McO3 McIn McKp McRd McRe McKr UxSub McO4 McO5. -/
import Derived.Test.YtlabgjcjccdjfaaGreatDoorRows
import Derived.Test.YtlabgjcjccdjfaaGreatDoorMpackQ01
import Derived.Test.YtlabgjcjccdjfaaGreatDoorMpackQ02
import Derived.Test.YtlabgjcjccdjfaaGreatDoorMpackQ09
set_option linter.unusedVariables false
set_option linter.unusedSimpArgs false
set_option linter.unnecessarySimpa false
set_option maxRecDepth 100000
section
set_option linter.unusedSimpArgs false
set_option linter.unusedVariables false
namespace Go.Proofs.S
open Go Go.Ux Go.Ux.Mach Go.Proofs
theorem ca79 : callable Tryz.prog 79 = true := by kernel_rfl
theorem ca98 : callable Tryz.prog 98 = true := by kernel_rfl
theorem fo163_0 : fieldOff Tryz.prog 163 0 = some 0 := by kernel_rfl
theorem fo163_2 : fieldOff Tryz.prog 163 2 = some 2 := by kernel_rfl
theorem fo163_1 : fieldOff Tryz.prog 163 1 = some 1 := by kernel_rfl
theorem ag9 : isAggT Tryz.prog 9 = some false := by kernel_rfl
theorem fo163_3 : fieldOff Tryz.prog 163 3 = some 3 := by kernel_rfl
theorem fo163_4 : fieldOff Tryz.prog 163 4 = some 4 := by kernel_rfl
def numberQ (x : BitVec 32) (s : BitVec 8) : BitVec 64 := bif ([73#8].any fun c => s == c) then (signedQ ((fieldQ (x) 20 12).setWidth 64) 12) else bif ([72#8].any fun c => s == c) then (fieldQ (x) 20 6).setWidth 64 else bif ([87#8].any fun c => s == c) then (fieldQ (x) 20 5).setWidth 64 else bif ([83#8].any fun c => s == c) then (signedQ (((fieldQ (x) 25 7) <<< 5 ||| (fieldQ (x) 7 5)).setWidth 64) 12) else bif ([66#8].any fun c => s == c) then (signedQ (((fieldQ (x) 31 1) <<< 12 ||| (fieldQ (x) 7 1) <<< 11 ||| (fieldQ (x) 25 6) <<< 5 ||| (fieldQ (x) 8 4) <<< 1).setWidth 64) 13) else bif ([85#8].any fun c => s == c) then (signedQ (((fieldQ (x) 12 20).setWidth 64) <<< 12) 32) else bif ([74#8].any fun c => s == c) then (signedQ (((fieldQ (x) 31 1) <<< 20 ||| (fieldQ (x) 12 8) <<< 12 ||| (fieldQ (x) 20 1) <<< 11 ||| (fieldQ (x) 21 10) <<< 1).setWidth 64) 21) else 0#64
theorem number_q (x : BitVec 32) (s : BitVec 8) (w : World) : CallsR Tryz.prog 77 #[U32 x, U8 s] w (fun v w' => v = I64 (numberQ x s) ∧ Ext w w') := by
 refine callsR_of Tryz.func77 G G G ?_
 refine Sr (An (I64 (0#64)) G (Ni (Sq (Sr (Mv (U8 s) G (Ni (Bk ?_)))))))
 refine Sq ?_
 refine WC.orU (x := 5) (d := 6) (s := s) (cs := [73#8]) (ts := [7]) (by kernel_rfl) G (fun g1 => ?_)
 refine WC.cond G (fun hc6 => ?_) (fun hc6 => ?_)
 ·refine Sr (Mv (U32 x) G (WL.call ca79 G G (field_q x 20 12 _) ?_))
  rintro _ wc9 ⟨rfl, ec9⟩
  have E2 : Ext w wc9 := ec9
  refine Cv G (ConvR.u32i64 Tryz.underlying50 Tryz.underlying2) (WL.call ca98 G G (signed_q ((fieldQ x 20 12).setWidth 64) 12 _ (by decide) (by decide)) ?_)
  rintro _ wc11 ⟨rfl, ec11⟩
  have E3 := Mt E2 ec11
  refine An (I64 ((signedQ ((fieldQ x 20 12).setWidth 64) 12))) G (Ni (WC.ret ?_))
  have hfin : numberQ x s = (signedQ ((fieldQ x 20 12).setWidth 64) 12) := by unfold numberQ; rw [hc6]; try rfl
  exact ⟨_, Res.one (v := I64 ((signedQ ((fieldQ x 20 12).setWidth 64) 12))) G G, congrArg I64 hfin.symm, E3⟩
 ·refine Sq ?_
  refine WC.orU (x := 5) (d := 12) (s := s) (cs := [72#8]) (ts := [13]) (by kernel_rfl) G (fun g4 => ?_)
  refine WC.cond G (fun hc12 => ?_) (fun hc12 => ?_)
  ·refine Sr (Mv (U32 x) G (WL.call ca79 G G (field_q x 20 6 _) ?_))
   rintro _ wc15 ⟨rfl, ec15⟩
   have E5 : Ext w wc15 := ec15
   refine Cv G (ConvR.u32i64 Tryz.underlying50 Tryz.underlying2) (An (I64 ((fieldQ x 20 6).setWidth 64)) G (Ni (WC.ret ?_)))
   have hfin : numberQ x s = (fieldQ x 20 6).setWidth 64 := by unfold numberQ; rw [hc6, hc12]; try rfl
   exact ⟨_, Res.one (v := I64 ((fieldQ x 20 6).setWidth 64)) G G, congrArg I64 hfin.symm, E5⟩
  ·refine Sq ?_
   refine WC.orU (x := 5) (d := 17) (s := s) (cs := [87#8]) (ts := [18]) (by kernel_rfl) G (fun g6 => ?_)
   refine WC.cond G (fun hc17 => ?_) (fun hc17 => ?_)
   ·refine Sr (Mv (U32 x) G (WL.call ca79 G G (field_q x 20 5 _) ?_))
    rintro _ wc20 ⟨rfl, ec20⟩
    have E7 : Ext w wc20 := ec20
    refine Cv G (ConvR.u32i64 Tryz.underlying50 Tryz.underlying2) (An (I64 ((fieldQ x 20 5).setWidth 64)) G (Ni (WC.ret ?_)))
    have hfin : numberQ x s = (fieldQ x 20 5).setWidth 64 := by unfold numberQ; rw [hc6, hc12, hc17]; try rfl
    exact ⟨_, Res.one (v := I64 ((fieldQ x 20 5).setWidth 64)) G G, congrArg I64 hfin.symm, E7⟩
   ·refine Sq ?_
    refine WC.orU (x := 5) (d := 22) (s := s) (cs := [83#8]) (ts := [23]) (by kernel_rfl) G (fun g8 => ?_)
    refine WC.cond G (fun hc22 => ?_) (fun hc22 => ?_)
    ·refine Sr (Mv (U32 x) G (WL.call ca79 G G (field_q x 25 7 _) ?_))
     rintro _ wc25 ⟨rfl, ec25⟩
     have E9 : Ext w wc25 := ec25
     refine Bn (vy := .int .u64 ((5 : Nat) : Int)) G G BinR.shlU32 (Mv (U32 x) G (WL.call ca79 G G (field_q x 7 5 _) ?_))
     rintro _ wc28 ⟨rfl, ec28⟩
     have E10 := Mt E9 ec28
     refine Bn G G BinR.orU32 (Cv G (ConvR.u32i64 Tryz.underlying50 Tryz.underlying2) (WL.call ca98 G G (signed_q (((((fieldQ x 25 7) <<< 5) ||| (fieldQ x 7 5))).setWidth 64) 12 _ (by decide) (by decide)) ?_))
     rintro _ wc31 ⟨rfl, ec31⟩
     have E11 := Mt E10 ec31
     refine An (I64 ((signedQ (((((fieldQ x 25 7) <<< 5) ||| (fieldQ x 7 5))).setWidth 64) 12))) G (Ni (WC.ret ?_))
     have hfin : numberQ x s = (signedQ (((((fieldQ x 25 7) <<< 5) ||| (fieldQ x 7 5))).setWidth 64) 12) := by unfold numberQ; rw [hc6, hc12, hc17, hc22]; try rfl
     exact ⟨_, Res.one (v := I64 ((signedQ (((((fieldQ x 25 7) <<< 5) ||| (fieldQ x 7 5))).setWidth 64) 12))) G G, congrArg I64 hfin.symm, E11⟩
    ·refine Sq ?_
     refine WC.orU (x := 5) (d := 32) (s := s) (cs := [66#8]) (ts := [33]) (by kernel_rfl) G (fun g12 => ?_)
     refine WC.cond G (fun hc32 => ?_) (fun hc32 => ?_)
     ·refine Sr (Mv (U32 x) G (WL.call ca79 G G (field_q x 31 1 _) ?_))
      rintro _ wc35 ⟨rfl, ec35⟩
      have E13 : Ext w wc35 := ec35
      refine Bn (vy := .int .u64 ((12 : Nat) : Int)) G G BinR.shlU32 (Mv (U32 x) G (WL.call ca79 G G (field_q x 7 1 _) ?_))
      rintro _ wc38 ⟨rfl, ec38⟩
      have E14 := Mt E13 ec38
      refine Bn (vy := .int .u64 ((11 : Nat) : Int)) G G BinR.shlU32 (Bn G G BinR.orU32 (Mv (U32 x) G (WL.call ca79 G G (field_q x 25 6 _) ?_)))
      rintro _ wc42 ⟨rfl, ec42⟩
      have E15 := Mt E14 ec42
      refine Bn (vy := .int .u64 ((5 : Nat) : Int)) G G BinR.shlU32 (Bn G G BinR.orU32 (Mv (U32 x) G (WL.call ca79 G G (field_q x 8 4 _) ?_)))
      rintro _ wc46 ⟨rfl, ec46⟩
      have E16 := Mt E15 ec46
      refine Bn (vy := .int .u64 ((1 : Nat) : Int)) G G BinR.shlU32 (Bn G G BinR.orU32 (Cv G (ConvR.u32i64 Tryz.underlying50 Tryz.underlying2) (WL.call ca98 G G (signed_q (((((((fieldQ x 31 1) <<< 12) ||| ((fieldQ x 7 1) <<< 11)) ||| ((fieldQ x 25 6) <<< 5)) ||| ((fieldQ x 8 4) <<< 1))).setWidth 64) 13 _ (by decide) (by decide)) ?_)))
      rintro _ wc50 ⟨rfl, ec50⟩
      have E17 := Mt E16 ec50
      refine An (I64 ((signedQ (((((((fieldQ x 31 1) <<< 12) ||| ((fieldQ x 7 1) <<< 11)) ||| ((fieldQ x 25 6) <<< 5)) ||| ((fieldQ x 8 4) <<< 1))).setWidth 64) 13))) G (Ni (WC.ret ?_))
      have hfin : numberQ x s = (signedQ (((((((fieldQ x 31 1) <<< 12) ||| ((fieldQ x 7 1) <<< 11)) ||| ((fieldQ x 25 6) <<< 5)) ||| ((fieldQ x 8 4) <<< 1))).setWidth 64) 13) := by unfold numberQ; rw [hc6, hc12, hc17, hc22, hc32]; try rfl
      exact ⟨_, Res.one (v := I64 ((signedQ (((((((fieldQ x 31 1) <<< 12) ||| ((fieldQ x 7 1) <<< 11)) ||| ((fieldQ x 25 6) <<< 5)) ||| ((fieldQ x 8 4) <<< 1))).setWidth 64) 13))) G G, congrArg I64 hfin.symm, E17⟩
     ·refine Sq ?_
      refine WC.orU (x := 5) (d := 51) (s := s) (cs := [85#8]) (ts := [52]) (by kernel_rfl) G (fun g18 => ?_)
      refine WC.cond G (fun hc51 => ?_) (fun hc51 => ?_)
      ·refine Sr (Mv (U32 x) G (WL.call ca79 G G (field_q x 12 20 _) ?_))
       rintro _ wc54 ⟨rfl, ec54⟩
       have E19 : Ext w wc54 := ec54
       refine Cv G (ConvR.u32i64 Tryz.underlying50 Tryz.underlying2) (Bn (vy := .int .u64 ((12 : Nat) : Int)) G G BinR.shl64 (WL.call ca98 G G (signed_q (((fieldQ x 12 20).setWidth 64 <<< 12)) 32 _ (by decide) (by decide)) ?_))
       rintro _ wc57 ⟨rfl, ec57⟩
       have E20 := Mt E19 ec57
       refine An (I64 ((signedQ (((fieldQ x 12 20).setWidth 64 <<< 12)) 32))) G (Ni (WC.ret ?_))
       have hfin : numberQ x s = (signedQ (((fieldQ x 12 20).setWidth 64 <<< 12)) 32) := by unfold numberQ; rw [hc6, hc12, hc17, hc22, hc32, hc51]; try rfl
       exact ⟨_, Res.one (v := I64 ((signedQ (((fieldQ x 12 20).setWidth 64 <<< 12)) 32))) G G, congrArg I64 hfin.symm, E20⟩
      ·refine Sq ?_
       refine WC.orU (x := 5) (d := 58) (s := s) (cs := [74#8]) (ts := [59]) (by kernel_rfl) G (fun g21 => ?_)
       refine WC.cond G (fun hc58 => ?_) (fun hc58 => ?_)
       ·refine Sr (Mv (U32 x) G (WL.call ca79 G G (field_q x 31 1 _) ?_))
        rintro _ wc61 ⟨rfl, ec61⟩
        have E22 : Ext w wc61 := ec61
        refine Bn (vy := .int .u64 ((20 : Nat) : Int)) G G BinR.shlU32 (Mv (U32 x) G (WL.call ca79 G G (field_q x 12 8 _) ?_))
        rintro _ wc64 ⟨rfl, ec64⟩
        have E23 := Mt E22 ec64
        refine Bn (vy := .int .u64 ((12 : Nat) : Int)) G G BinR.shlU32 (Bn G G BinR.orU32 (Mv (U32 x) G (WL.call ca79 G G (field_q x 20 1 _) ?_)))
        rintro _ wc68 ⟨rfl, ec68⟩
        have E24 := Mt E23 ec68
        refine Bn (vy := .int .u64 ((11 : Nat) : Int)) G G BinR.shlU32 (Bn G G BinR.orU32 (Mv (U32 x) G (WL.call ca79 G G (field_q x 21 10 _) ?_)))
        rintro _ wc72 ⟨rfl, ec72⟩
        have E25 := Mt E24 ec72
        refine Bn (vy := .int .u64 ((1 : Nat) : Int)) G G BinR.shlU32 (Bn G G BinR.orU32 (Cv G (ConvR.u32i64 Tryz.underlying50 Tryz.underlying2) (WL.call ca98 G G (signed_q (((((((fieldQ x 31 1) <<< 20) ||| ((fieldQ x 12 8) <<< 12)) ||| ((fieldQ x 20 1) <<< 11)) ||| ((fieldQ x 21 10) <<< 1))).setWidth 64) 21 _ (by decide) (by decide)) ?_)))
        rintro _ wc76 ⟨rfl, ec76⟩
        have E26 := Mt E25 ec76
        refine An (I64 ((signedQ (((((((fieldQ x 31 1) <<< 20) ||| ((fieldQ x 12 8) <<< 12)) ||| ((fieldQ x 20 1) <<< 11)) ||| ((fieldQ x 21 10) <<< 1))).setWidth 64) 21))) G (Ni (WC.ret ?_))
        have hfin : numberQ x s = (signedQ (((((((fieldQ x 31 1) <<< 20) ||| ((fieldQ x 12 8) <<< 12)) ||| ((fieldQ x 20 1) <<< 11)) ||| ((fieldQ x 21 10) <<< 1))).setWidth 64) 21) := by unfold numberQ; rw [hc6, hc12, hc17, hc22, hc32, hc51, hc58]; try rfl
        exact ⟨_, Res.one (v := I64 ((signedQ (((((((fieldQ x 31 1) <<< 20) ||| ((fieldQ x 12 8) <<< 12)) ||| ((fieldQ x 20 1) <<< 11)) ||| ((fieldQ x 21 10) <<< 1))).setWidth 64) 21))) G G, congrArg I64 hfin.symm, E26⟩
       ·refine WC.skip (Sr (An (I64 (0#64)) G (Ni (WC.ret ?_))))
        have hfin : numberQ x s = 0#64 := by unfold numberQ; rw [hc6, hc12, hc17, hc22, hc32, hc51, hc58]; try rfl
        exact ⟨_, Res.one (v := I64 (0#64)) G G, congrArg I64 hfin.symm, Mod.refl _ _⟩
def isQ (x : BitVec 32) (s : BitVec 8) (nm : List UInt8) (c f3 f7 : BitVec 32) : Bool := bif ([69#8].any fun c => s == c) then ((x == c && nm == [101, 99, 97, 108, 108]) || (x == 1048691#32 && nm == [101, 98, 114, 101, 97, 107])) else bif ([85#8, 74#8].any fun c => s == c) then ((fieldQ (x) 0 7) == c) else bif ([72#8].any fun c => s == c) then (((fieldQ (x) 0 7) == c && (fieldQ (x) 12 3) == f3) && (fieldQ (x) 26 6) == f7 >>> 1) else bif ([82#8, 87#8].any fun c => s == c) then (((fieldQ (x) 0 7) == c && (fieldQ (x) 12 3) == f3) && (fieldQ (x) 25 7) == f7) else ((fieldQ (x) 0 7) == c && (fieldQ (x) 12 3) == f3)
theorem is_q (x : BitVec 32) (s : BitVec 8) (nm : List UInt8) (c f3 f7 : BitVec 32) (w : World) : CallsR Tryz.prog 76 #[U32 x, .agg #[U8 s, St nm, U32 c, U32 f3, U32 f7]] w (fun v w' => v = .bool (isQ x s nm c f3 f7) ∧ Ext w w') := by
 refine callsR_of Tryz.func76 G G G ?_
 refine Sr (WL.box (v := .agg #[U8 s, St nm, U32 c, U32 f3, U32 f7]) G G ?_)
 intro b3 w3 n3
 have E1 : Ext w w3 := n3.ext
 refine An (.bool false) G (Ni (Sq (Sr (Fa G fo163_0 (Lo G ag5 (n3.blk.cell (j := 0) G) (Ni (Bk (Sq ?_))))))))
 refine WC.orU (x := 6) (d := 7) (s := s) (cs := [69#8]) (ts := [8]) (by kernel_rfl) G (fun g2 => ?_)
 refine WC.cond G (fun hc7 => ?_) (fun hc7 => ?_)
 ·refine Sr (Mv (U32 x) G (Fa G fo163_2 (Lo G ag50 (n3.blk.cell (j := 2) G) (Bn G G BinR.eqlU32 (Mv (.bool ((x == c))) G ?_)))))
  rcases Bool.eq_false_or_eq_true ((x == c)) with hg13 | hg13
  ·refine Gt (Yb G G hg13) (Fa G fo163_1 (Gt (Yb G G hg13) (Lo G ag9 (n3.blk.cell (j := 1) G) (Gt (Yb G G hg13) (Bn (vy := St [101, 99, 97, 108, 108]) G G BinR.eqlS (Pk (b := true) (congrArg Value.bool hg13) G (Mv (.bool ((nm == [101, 99, 97, 108, 108]))) G ?_)))))))
   rcases Bool.eq_false_or_eq_true ((nm == [101, 99, 97, 108, 108])) with hg18 | hg18
   ·refine Gf true (Yb G G hg18) (Gf true (Yb G G hg18) (Gf true (Yb G G hg18) (WL.guardU G G (WL.guardU G G (WL.guardU G G (Gf true (Yb G G hg18) (Pk (b := true) (congrArg Value.bool hg18) G (An (.bool true) G (Ni ?_)))))))))
    refine WC.ret ?_
    have hfin : isQ x s nm c f3 f7 = true := by unfold isQ; rw [hc7]; simp only [*, cond_true, cond_false, Bool.true_or, Bool.or_true, Bool.false_or, Bool.or_false, Bool.true_and, Bool.and_true, Bool.false_and, Bool.and_false]
    exact ⟨_, Res.one (v := .bool true) G G, congrArg Value.bool hfin.symm, E1⟩
   ·refine Gt (Yb G G hg18) (Mv (U32 x) G (Gt (Yb G G hg18) (Bn (vy := U32 (1048691#32)) G G BinR.eqlU32 (Gt (Yb G G hg18) (Mv (.bool ((x == 1048691#32))) G ?_)))))
    rcases Bool.eq_false_or_eq_true ((x == 1048691#32)) with hg21 | hg21
    ·refine Gt (Yb G G hg21) (Fa G fo163_1 (Gt (Yb G G hg21) (Lo G ag9 (n3.blk.cell (j := 1) G) (Gt (Yb G G hg21) (Bn (vy := St [101, 98, 114, 101, 97, 107]) G G BinR.eqlS (Gt (Yb G G hg18) (Pk (b := true) (congrArg Value.bool hg21) G (Pk (b := false) (congrArg Value.bool hg18) G (An (.bool ((nm == [101, 98, 114, 101, 97, 107]))) G ?_)))))))))
     refine Ni (WC.ret ?_)
     have hfin : isQ x s nm c f3 f7 = (nm == [101, 98, 114, 101, 97, 107]) := by unfold isQ; rw [hc7]; simp only [*, cond_true, cond_false, Bool.true_or, Bool.or_true, Bool.false_or, Bool.or_false, Bool.true_and, Bool.and_true, Bool.false_and, Bool.and_false]
     exact ⟨_, Res.one (v := .bool ((nm == [101, 98, 114, 101, 97, 107]))) G G, congrArg Value.bool hfin.symm, E1⟩
    ·refine Gf false (Yb G G hg21) (Gf false (Yb G G hg21) (Gf false (Yb G G hg21) (Gt (Yb G G hg18) (Pk (b := false) (congrArg Value.bool hg21) G (Pk (b := false) (congrArg Value.bool hg18) G (An (.bool false) G (Ni (WC.ret ?_))))))))
     have hfin : isQ x s nm c f3 f7 = false := by unfold isQ; rw [hc7]; simp only [*, cond_true, cond_false, Bool.true_or, Bool.or_true, Bool.false_or, Bool.or_false, Bool.true_and, Bool.and_true, Bool.false_and, Bool.and_false]
     exact ⟨_, Res.one (v := .bool false) G G, congrArg Value.bool hfin.symm, E1⟩
  ·refine Gf false (Yb G G hg13) (Gf false (Yb G G hg13) (Gf false (Yb G G hg13) (Pk (b := false) (congrArg Value.bool hg13) G (Mv (.bool false) G (Gt G (Mv (U32 x) G (Gt G (Bn (vy := U32 (1048691#32)) G G BinR.eqlU32 (Gt G ?_)))))))))
   refine Mv (.bool ((x == 1048691#32))) G ?_
   rcases Bool.eq_false_or_eq_true ((x == 1048691#32)) with hg21 | hg21
   ·refine Gt (Yb G G hg21) (Fa G fo163_1 (Gt (Yb G G hg21) (Lo G ag9 (n3.blk.cell (j := 1) G) (Gt (Yb G G hg21) (Bn (vy := St [101, 98, 114, 101, 97, 107]) G G BinR.eqlS (Gt G (Pk (b := true) (congrArg Value.bool hg21) G (Pk (b := false) G G (An (.bool ((nm == [101, 98, 114, 101, 97, 107]))) G ?_)))))))))
    refine Ni (WC.ret ?_)
    have hfin : isQ x s nm c f3 f7 = (nm == [101, 98, 114, 101, 97, 107]) := by unfold isQ; rw [hc7]; simp only [*, cond_true, cond_false, Bool.true_or, Bool.or_true, Bool.false_or, Bool.or_false, Bool.true_and, Bool.and_true, Bool.false_and, Bool.and_false]
    exact ⟨_, Res.one (v := .bool ((nm == [101, 98, 114, 101, 97, 107]))) G G, congrArg Value.bool hfin.symm, E1⟩
   ·refine Gf false (Yb G G hg21) (Gf false (Yb G G hg21) (Gf false (Yb G G hg21) (Gt G (Pk (b := false) (congrArg Value.bool hg21) G (Pk (b := false) G G (An (.bool false) G (Ni (WC.ret ?_))))))))
    have hfin : isQ x s nm c f3 f7 = false := by unfold isQ; rw [hc7]; simp only [*, cond_true, cond_false, Bool.true_or, Bool.or_true, Bool.false_or, Bool.or_false, Bool.true_and, Bool.and_true, Bool.false_and, Bool.and_false]
    exact ⟨_, Res.one (v := .bool false) G G, congrArg Value.bool hfin.symm, E1⟩
 ·refine Sq ?_
  refine WC.orU (x := 6) (d := 27) (s := s) (cs := [85#8, 74#8]) (ts := [28, 29]) (by kernel_rfl) G (fun g3 => ?_)
  refine WC.cond G (fun hc27 => ?_) (fun hc27 => ?_)
  ·refine Sq (WC.draw (fun w_ => Ext w3 w_) 6 G mixed ?_)
   intro wd_6 ed_6
   have R4 : Ext w3 wd_6 := ed_6
   have E5 := Mt E1 ed_6
   refine Tk 0 (U32 x) G G (fun _ _ => Mv _ G Ok) R4 (Tk 2 (ptr b3 2) G G (fun _ _ => Fa G fo163_2 Ok) R4 (Tk 3 (U32 c) G G (fun _ hS => Lo G ag50 ((n3.blk.ext hS).cell (j := 2) G) Ok) R4 (WA.one (i := 1) (m' := 15) (by kernel_rfl) G G (WL.call ca79 G G (field_q x 0 7 _) ?_))))
   rintro _ wc31 ⟨rfl, ec31⟩
   have R10 := Mt R4 ec31
   have E11 := Mt E5 ec31
   refine WL.behind R10 (Tk 4 (.bool (((fieldQ x 0 7) == c))) G G (fun _ _ => Bn G G BinR.eqlU32 Ok) R10 (Tk 5 (.bool (((fieldQ x 0 7) == c))) G G (fun _ _ => An _ G Ok) R10 (WA.done (by kernel_rfl) (WC.ret ?_))))
   have hfin : isQ x s nm c f3 f7 = ((fieldQ x 0 7) == c) := by unfold isQ; rw [hc7, hc27]; simp only [*, cond_true, cond_false, Bool.true_or, Bool.or_true, Bool.false_or, Bool.or_false, Bool.true_and, Bool.and_true, Bool.false_and, Bool.and_false]
   exact ⟨_, Res.one (v := .bool (((fieldQ x 0 7) == c))) G G, congrArg Value.bool hfin.symm, E11⟩
  ·refine Sq ?_
   refine WC.orU (x := 6) (d := 35) (s := s) (cs := [72#8]) (ts := [36]) (by kernel_rfl) G (fun g14 => ?_)
   refine WC.cond G (fun hc35 => ?_) (fun hc35 => ?_)
   ·refine Sq ?_
    rcases Bool.eq_false_or_eq_true (((fieldQ x 0 7) == c)) with hd8_42 | hd8_42
    ·rcases Bool.eq_false_or_eq_true (((fieldQ x 12 3) == f3)) with hd8_49 | hd8_49
     ·refine WC.draw (fun w_ => Ext w3 w_) 21 G mixed ?_
      intro wd_8 ed_8
      have R15 : Ext w3 wd_8 := ed_8
      have E16 := Mt E1 ed_8
      refine Tk 0 (U32 x) G G (fun _ _ => Mv _ G Ok) R15 (Tk 2 (ptr b3 2) G G (fun _ _ => Fa G fo163_2 Ok) R15 (Tk 3 (U32 c) G G (fun _ hS => Lo G ag50 ((n3.blk.ext hS).cell (j := 2) G) Ok) R15 (WA.one (i := 1) (m' := 15) (by kernel_rfl) G G (WL.call ca79 G G (field_q x 0 7 _) ?_))))
      rintro _ wc38 ⟨rfl, ec38⟩
      have R21 := Mt R15 ec38
      have E22 := Mt E16 ec38
      refine WL.behind R21 (Tk 4 (.bool (((fieldQ x 0 7) == c))) G G (fun _ _ => Bn G G BinR.eqlU32 Ok) R21 (Tk 5 (.bool (((fieldQ x 0 7) == c))) G G (fun _ _ => Mv _ G Ok) R21 (Tk 6 (U32 x) G G (fun _ _ => Gt (Yb G G hd8_42) (Mv _ G Ok)) R21 (Tk 8 (ptr b3 3) G G (fun _ _ => Gt (Yb G G hd8_42) (Fa G fo163_3 Ok)) R21 (Tk 9 (U32 f3) G G (fun _ hS => Gt (Yb G G hd8_42) (Lo G ag50 ((n3.blk.ext hS).cell (j := 3) G) Ok)) R21 (WA.one (i := 7) (m' := 1023) (by kernel_rfl) G G (Gt (Yb G G hd8_42) (WL.call ca79 G G (field_q x 12 3 _) ?_))))))))
      rintro _ wc44 ⟨rfl, ec44⟩
      have R29 := Mt R21 ec44
      have E30 := Mt E22 ec44
      refine WL.behind R29 (Tk 10 (.bool (((fieldQ x 12 3) == f3))) G G (fun _ _ => Gt (Yb G G hd8_42) (Bn G G BinR.eqlU32 Ok)) R29 (Tk 11 (.bool (((fieldQ x 12 3) == f3))) G G (fun _ _ => Pk (b := true) (congrArg Value.bool hd8_42) G Ok) R29 (Tk 12 (.bool (((fieldQ x 12 3) == f3))) G G (fun _ _ => Mv _ G Ok) R29 (Tk 13 (U32 x) G G (fun _ _ => Gt (Yb G G hd8_49) (Mv _ G Ok)) R29 (Tk 15 (ptr b3 4) G G (fun _ _ => Gt (Yb G G hd8_49) (Fa G fo163_4 Ok)) R29 (Tk 16 (U32 f7) G G (fun _ hS => Gt (Yb G G hd8_49) (Lo G ag50 ((n3.blk.ext hS).cell (j := 4) G) Ok)) R29 (Tk 17 (U32 ((f7 >>> 1))) G G (fun _ _ => Gt (Yb G G hd8_49) (Bn (vy := .int .u64 ((1 : Nat) : Int)) G G BinR.shrU32 Ok)) R29 (WA.one (i := 14) (m' := 262143) (by kernel_rfl) G G (Gt (Yb G G hd8_49) ?_)))))))))
      refine WL.call ca79 G G (field_q x 26 6 _) ?_
      rintro _ wc51 ⟨rfl, ec51⟩
      have R39 := Mt R29 ec51
      have E40 := Mt E30 ec51
      refine WL.behind R39 (Tk 18 (.bool (((fieldQ x 26 6) == (f7 >>> 1)))) G G (fun _ _ => Gt (Yb G G hd8_49) (Bn G G BinR.eqlU32 Ok)) R39 (Tk 19 (.bool (((fieldQ x 26 6) == (f7 >>> 1)))) G G (fun _ _ => Pk (b := true) (congrArg Value.bool hd8_49) G Ok) R39 (Tk 20 (.bool (((fieldQ x 26 6) == (f7 >>> 1)))) G G (fun _ _ => An _ G Ok) R39 (WA.done (by kernel_rfl) (WC.ret ?_)))))
      have hfin : isQ x s nm c f3 f7 = ((fieldQ x 26 6) == (f7 >>> 1)) := by unfold isQ; rw [hc7, hc27, hc35]; simp only [*, cond_true, cond_false, Bool.true_or, Bool.or_true, Bool.false_or, Bool.or_false, Bool.true_and, Bool.and_true, Bool.false_and, Bool.and_false]
      exact ⟨_, Res.one (v := .bool (((fieldQ x 26 6) == (f7 >>> 1)))) G G, congrArg Value.bool hfin.symm, E40⟩
     ·refine WC.draw (fun w_ => Ext w3 w_) 21 G mixed ?_
      intro wd_8 ed_8
      have R44 : Ext w3 wd_8 := ed_8
      have E45 := Mt E1 ed_8
      refine Tk 0 (U32 x) G G (fun _ _ => Mv _ G Ok) R44 (Tk 2 (ptr b3 2) G G (fun _ _ => Fa G fo163_2 Ok) R44 (Tk 3 (U32 c) G G (fun _ hS => Lo G ag50 ((n3.blk.ext hS).cell (j := 2) G) Ok) R44 (WA.one (i := 1) (m' := 15) (by kernel_rfl) G G (WL.call ca79 G G (field_q x 0 7 _) ?_))))
      rintro _ wc38 ⟨rfl, ec38⟩
      have R50 := Mt R44 ec38
      have E51 := Mt E45 ec38
      refine WL.behind R50 (Tk 4 (.bool (((fieldQ x 0 7) == c))) G G (fun _ _ => Bn G G BinR.eqlU32 Ok) R50 (Tk 5 (.bool (((fieldQ x 0 7) == c))) G G (fun _ _ => Mv _ G Ok) R50 (Tk 6 (U32 x) G G (fun _ _ => Gt (Yb G G hd8_42) (Mv _ G Ok)) R50 (Tk 8 (ptr b3 3) G G (fun _ _ => Gt (Yb G G hd8_42) (Fa G fo163_3 Ok)) R50 (Tk 9 (U32 f3) G G (fun _ hS => Gt (Yb G G hd8_42) (Lo G ag50 ((n3.blk.ext hS).cell (j := 3) G) Ok)) R50 (WA.one (i := 7) (m' := 1023) (by kernel_rfl) G G (Gt (Yb G G hd8_42) (WL.call ca79 G G (field_q x 12 3 _) ?_))))))))
      rintro _ wc44 ⟨rfl, ec44⟩
      have R58 := Mt R50 ec44
      have E59 := Mt E51 ec44
      refine WL.behind R58 (Tk 10 (.bool (((fieldQ x 12 3) == f3))) G G (fun _ _ => Gt (Yb G G hd8_42) (Bn G G BinR.eqlU32 Ok)) R58 (Tk 11 (.bool (((fieldQ x 12 3) == f3))) G G (fun _ _ => Pk (b := true) (congrArg Value.bool hd8_42) G Ok) R58 (Tk 12 (.bool (((fieldQ x 12 3) == f3))) G G (fun _ _ => Mv _ G Ok) R58 (To 13 (some false) G G G (Yb G G hd8_49) R58 (To 14 (some false) G G G (Yb G G hd8_49) R58 (To 15 (some false) G G G (Yb G G hd8_49) R58 (To 16 (some false) G G G (Yb G G hd8_49) R58 (To 17 (some false) G G G (Yb G G hd8_49) R58 (To 18 (some false) G G G (Yb G G hd8_49) R58 ?_)))))))))
      refine Tk 19 (.bool false) G G (fun _ _ => Pk (b := false) (congrArg Value.bool hd8_49) G Ok) R58 (Tk 20 (.bool false) G G (fun _ _ => An _ G Ok) R58 (WA.done (by kernel_rfl) (WC.ret ?_)))
      have hfin : isQ x s nm c f3 f7 = false := by unfold isQ; rw [hc7, hc27, hc35]; simp only [*, cond_true, cond_false, Bool.true_or, Bool.or_true, Bool.false_or, Bool.or_false, Bool.true_and, Bool.and_true, Bool.false_and, Bool.and_false]
      exact ⟨_, Res.one (v := .bool false) G G, congrArg Value.bool hfin.symm, E59⟩
    ·refine WC.draw (fun w_ => Ext w3 w_) 21 G mixed ?_
     intro wd_8 ed_8
     have R65 : Ext w3 wd_8 := ed_8
     have E66 := Mt E1 ed_8
     refine Tk 0 (U32 x) G G (fun _ _ => Mv _ G Ok) R65 (Tk 2 (ptr b3 2) G G (fun _ _ => Fa G fo163_2 Ok) R65 (Tk 3 (U32 c) G G (fun _ hS => Lo G ag50 ((n3.blk.ext hS).cell (j := 2) G) Ok) R65 (WA.one (i := 1) (m' := 15) (by kernel_rfl) G G (WL.call ca79 G G (field_q x 0 7 _) ?_))))
     rintro _ wc38 ⟨rfl, ec38⟩
     have R71 := Mt R65 ec38
     have E72 := Mt E66 ec38
     refine WL.behind R71 (Tk 4 (.bool (((fieldQ x 0 7) == c))) G G (fun _ _ => Bn G G BinR.eqlU32 Ok) R71 (Tk 5 (.bool (((fieldQ x 0 7) == c))) G G (fun _ _ => Mv _ G Ok) R71 (To 6 (some false) G G G (Yb G G hd8_42) R71 (To 7 (some false) G G G (Yb G G hd8_42) R71 (To 8 (some false) G G G (Yb G G hd8_42) R71 (To 9 (some false) G G G (Yb G G hd8_42) R71 (To 10 (some false) G G G (Yb G G hd8_42) R71 (Tk 11 (.bool false) G G (fun _ _ => Pk (b := false) (congrArg Value.bool hd8_42) G Ok) R71 (Tk 12 (.bool false) G G (fun _ _ => Mv _ G Ok) R71 ?_)))))))))
     refine To 13 (some false) G G G G R71 (To 14 (some false) G G G G R71 (To 15 (some false) G G G G R71 (To 16 (some false) G G G G R71 (To 17 (some false) G G G G R71 (To 18 (some false) G G G G R71 (Tk 19 (.bool false) G G (fun _ _ => Pk (b := false) G G Ok) R71 (Tk 20 (.bool false) G G (fun _ _ => An _ G Ok) R71 (WA.done (by kernel_rfl) (WC.ret ?_)))))))))
     have hfin : isQ x s nm c f3 f7 = false := by unfold isQ; rw [hc7, hc27, hc35]; simp only [*, cond_true, cond_false, Bool.true_or, Bool.or_true, Bool.false_or, Bool.or_false, Bool.true_and, Bool.and_true, Bool.false_and, Bool.and_false]
     exact ⟨_, Res.one (v := .bool false) G G, congrArg Value.bool hfin.symm, E72⟩
   ·refine Sq ?_
    refine WC.orU (x := 6) (d := 57) (s := s) (cs := [82#8, 87#8]) (ts := [58, 59]) (by kernel_rfl) G (fun g79 => ?_)
    refine WC.cond G (fun hc57 => ?_) (fun hc57 => ?_)
    ·refine Sq ?_
     rcases Bool.eq_false_or_eq_true (((fieldQ x 0 7) == c)) with hd11_65 | hd11_65
     ·rcases Bool.eq_false_or_eq_true (((fieldQ x 12 3) == f3)) with hd11_72 | hd11_72
      ·refine WC.draw (fun w_ => Ext w3 w_) 20 G mixed ?_
       intro wd_11 ed_11
       have R80 : Ext w3 wd_11 := ed_11
       have E81 := Mt E1 ed_11
       refine Tk 0 (U32 x) G G (fun _ _ => Mv _ G Ok) R80 (Tk 2 (ptr b3 2) G G (fun _ _ => Fa G fo163_2 Ok) R80 (Tk 3 (U32 c) G G (fun _ hS => Lo G ag50 ((n3.blk.ext hS).cell (j := 2) G) Ok) R80 (WA.one (i := 1) (m' := 15) (by kernel_rfl) G G (WL.call ca79 G G (field_q x 0 7 _) ?_))))
       rintro _ wc61 ⟨rfl, ec61⟩
       have R86 := Mt R80 ec61
       have E87 := Mt E81 ec61
       refine WL.behind R86 (Tk 4 (.bool (((fieldQ x 0 7) == c))) G G (fun _ _ => Bn G G BinR.eqlU32 Ok) R86 (Tk 5 (.bool (((fieldQ x 0 7) == c))) G G (fun _ _ => Mv _ G Ok) R86 (Tk 6 (U32 x) G G (fun _ _ => Gt (Yb G G hd11_65) (Mv _ G Ok)) R86 (Tk 8 (ptr b3 3) G G (fun _ _ => Gt (Yb G G hd11_65) (Fa G fo163_3 Ok)) R86 (Tk 9 (U32 f3) G G (fun _ hS => Gt (Yb G G hd11_65) (Lo G ag50 ((n3.blk.ext hS).cell (j := 3) G) Ok)) R86 (WA.one (i := 7) (m' := 1023) (by kernel_rfl) G G (Gt (Yb G G hd11_65) (WL.call ca79 G G (field_q x 12 3 _) ?_))))))))
       rintro _ wc67 ⟨rfl, ec67⟩
       have R94 := Mt R86 ec67
       have E95 := Mt E87 ec67
       refine WL.behind R94 (Tk 10 (.bool (((fieldQ x 12 3) == f3))) G G (fun _ _ => Gt (Yb G G hd11_65) (Bn G G BinR.eqlU32 Ok)) R94 (Tk 11 (.bool (((fieldQ x 12 3) == f3))) G G (fun _ _ => Pk (b := true) (congrArg Value.bool hd11_65) G Ok) R94 (Tk 12 (.bool (((fieldQ x 12 3) == f3))) G G (fun _ _ => Mv _ G Ok) R94 (Tk 13 (U32 x) G G (fun _ _ => Gt (Yb G G hd11_72) (Mv _ G Ok)) R94 (Tk 15 (ptr b3 4) G G (fun _ _ => Gt (Yb G G hd11_72) (Fa G fo163_4 Ok)) R94 (Tk 16 (U32 f7) G G (fun _ hS => Gt (Yb G G hd11_72) (Lo G ag50 ((n3.blk.ext hS).cell (j := 4) G) Ok)) R94 (WA.one (i := 14) (m' := 131071) (by kernel_rfl) G G (Gt (Yb G G hd11_72) (WL.call ca79 G G (field_q x 25 7 _) ?_)))))))))
       rintro _ wc74 ⟨rfl, ec74⟩
       have R103 := Mt R94 ec74
       have E104 := Mt E95 ec74
       refine WL.behind R103 (Tk 17 (.bool (((fieldQ x 25 7) == f7))) G G (fun _ _ => Gt (Yb G G hd11_72) (Bn G G BinR.eqlU32 Ok)) R103 (Tk 18 (.bool (((fieldQ x 25 7) == f7))) G G (fun _ _ => Pk (b := true) (congrArg Value.bool hd11_72) G Ok) R103 (Tk 19 (.bool (((fieldQ x 25 7) == f7))) G G (fun _ _ => An _ G Ok) R103 (WA.done (by kernel_rfl) (WC.ret ?_)))))
       have hfin : isQ x s nm c f3 f7 = ((fieldQ x 25 7) == f7) := by unfold isQ; rw [hc7, hc27, hc35, hc57]; simp only [*, cond_true, cond_false, Bool.true_or, Bool.or_true, Bool.false_or, Bool.or_false, Bool.true_and, Bool.and_true, Bool.false_and, Bool.and_false]
       exact ⟨_, Res.one (v := .bool (((fieldQ x 25 7) == f7))) G G, congrArg Value.bool hfin.symm, E104⟩
      ·refine WC.draw (fun w_ => Ext w3 w_) 20 G mixed ?_
       intro wd_11 ed_11
       have R108 : Ext w3 wd_11 := ed_11
       have E109 := Mt E1 ed_11
       refine Tk 0 (U32 x) G G (fun _ _ => Mv _ G Ok) R108 (Tk 2 (ptr b3 2) G G (fun _ _ => Fa G fo163_2 Ok) R108 (Tk 3 (U32 c) G G (fun _ hS => Lo G ag50 ((n3.blk.ext hS).cell (j := 2) G) Ok) R108 (WA.one (i := 1) (m' := 15) (by kernel_rfl) G G (WL.call ca79 G G (field_q x 0 7 _) ?_))))
       rintro _ wc61 ⟨rfl, ec61⟩
       have R114 := Mt R108 ec61
       have E115 := Mt E109 ec61
       refine WL.behind R114 (Tk 4 (.bool (((fieldQ x 0 7) == c))) G G (fun _ _ => Bn G G BinR.eqlU32 Ok) R114 (Tk 5 (.bool (((fieldQ x 0 7) == c))) G G (fun _ _ => Mv _ G Ok) R114 (Tk 6 (U32 x) G G (fun _ _ => Gt (Yb G G hd11_65) (Mv _ G Ok)) R114 (Tk 8 (ptr b3 3) G G (fun _ _ => Gt (Yb G G hd11_65) (Fa G fo163_3 Ok)) R114 (Tk 9 (U32 f3) G G (fun _ hS => Gt (Yb G G hd11_65) (Lo G ag50 ((n3.blk.ext hS).cell (j := 3) G) Ok)) R114 (WA.one (i := 7) (m' := 1023) (by kernel_rfl) G G (Gt (Yb G G hd11_65) (WL.call ca79 G G (field_q x 12 3 _) ?_))))))))
       rintro _ wc67 ⟨rfl, ec67⟩
       have R122 := Mt R114 ec67
       have E123 := Mt E115 ec67
       refine WL.behind R122 (Tk 10 (.bool (((fieldQ x 12 3) == f3))) G G (fun _ _ => Gt (Yb G G hd11_65) (Bn G G BinR.eqlU32 Ok)) R122 (Tk 11 (.bool (((fieldQ x 12 3) == f3))) G G (fun _ _ => Pk (b := true) (congrArg Value.bool hd11_65) G Ok) R122 (Tk 12 (.bool (((fieldQ x 12 3) == f3))) G G (fun _ _ => Mv _ G Ok) R122 (To 13 (some false) G G G (Yb G G hd11_72) R122 (To 14 (some false) G G G (Yb G G hd11_72) R122 (To 15 (some false) G G G (Yb G G hd11_72) R122 (To 16 (some false) G G G (Yb G G hd11_72) R122 (To 17 (some false) G G G (Yb G G hd11_72) R122 (Tk 18 (.bool false) G G (fun _ _ => Pk (b := false) (congrArg Value.bool hd11_72) G Ok) R122 ?_)))))))))
       refine Tk 19 (.bool false) G G (fun _ _ => An _ G Ok) R122 (WA.done (by kernel_rfl) (WC.ret ?_))
       have hfin : isQ x s nm c f3 f7 = false := by unfold isQ; rw [hc7, hc27, hc35, hc57]; simp only [*, cond_true, cond_false, Bool.true_or, Bool.or_true, Bool.false_or, Bool.or_false, Bool.true_and, Bool.and_true, Bool.false_and, Bool.and_false]
       exact ⟨_, Res.one (v := .bool false) G G, congrArg Value.bool hfin.symm, E123⟩
     ·refine WC.draw (fun w_ => Ext w3 w_) 20 G mixed ?_
      intro wd_11 ed_11
      have R129 : Ext w3 wd_11 := ed_11
      have E130 := Mt E1 ed_11
      refine Tk 0 (U32 x) G G (fun _ _ => Mv _ G Ok) R129 (Tk 2 (ptr b3 2) G G (fun _ _ => Fa G fo163_2 Ok) R129 (Tk 3 (U32 c) G G (fun _ hS => Lo G ag50 ((n3.blk.ext hS).cell (j := 2) G) Ok) R129 (WA.one (i := 1) (m' := 15) (by kernel_rfl) G G (WL.call ca79 G G (field_q x 0 7 _) ?_))))
      rintro _ wc61 ⟨rfl, ec61⟩
      have R135 := Mt R129 ec61
      have E136 := Mt E130 ec61
      refine WL.behind R135 (Tk 4 (.bool (((fieldQ x 0 7) == c))) G G (fun _ _ => Bn G G BinR.eqlU32 Ok) R135 (Tk 5 (.bool (((fieldQ x 0 7) == c))) G G (fun _ _ => Mv _ G Ok) R135 (To 6 (some false) G G G (Yb G G hd11_65) R135 (To 7 (some false) G G G (Yb G G hd11_65) R135 (To 8 (some false) G G G (Yb G G hd11_65) R135 (To 9 (some false) G G G (Yb G G hd11_65) R135 (To 10 (some false) G G G (Yb G G hd11_65) R135 (Tk 11 (.bool false) G G (fun _ _ => Pk (b := false) (congrArg Value.bool hd11_65) G Ok) R135 (Tk 12 (.bool false) G G (fun _ _ => Mv _ G Ok) R135 ?_)))))))))
      refine To 13 (some false) G G G G R135 (To 14 (some false) G G G G R135 (To 15 (some false) G G G G R135 (To 16 (some false) G G G G R135 (To 17 (some false) G G G G R135 (Tk 18 (.bool false) G G (fun _ _ => Pk (b := false) G G Ok) R135 (Tk 19 (.bool false) G G (fun _ _ => An _ G Ok) R135 (WA.done (by kernel_rfl) (WC.ret ?_))))))))
      have hfin : isQ x s nm c f3 f7 = false := by unfold isQ; rw [hc7, hc27, hc35, hc57]; simp only [*, cond_true, cond_false, Bool.true_or, Bool.or_true, Bool.false_or, Bool.or_false, Bool.true_and, Bool.and_true, Bool.false_and, Bool.and_false]
      exact ⟨_, Res.one (v := .bool false) G G, congrArg Value.bool hfin.symm, E136⟩
    ·refine WC.skip (Sq ?_)
     rcases Bool.eq_false_or_eq_true (((fieldQ x 0 7) == c)) with hd12_84 | hd12_84
     ·refine WC.draw (fun w_ => Ext w3 w_) 13 G mixed ?_
      intro wd_12 ed_12
      have R143 : Ext w3 wd_12 := ed_12
      have E144 := Mt E1 ed_12
      refine Tk 0 (U32 x) G G (fun _ _ => Mv _ G Ok) R143 (Tk 2 (ptr b3 2) G G (fun _ _ => Fa G fo163_2 Ok) R143 (Tk 3 (U32 c) G G (fun _ hS => Lo G ag50 ((n3.blk.ext hS).cell (j := 2) G) Ok) R143 (WA.one (i := 1) (m' := 15) (by kernel_rfl) G G (WL.call ca79 G G (field_q x 0 7 _) ?_))))
      rintro _ wc80 ⟨rfl, ec80⟩
      have R149 := Mt R143 ec80
      have E150 := Mt E144 ec80
      refine WL.behind R149 (Tk 4 (.bool (((fieldQ x 0 7) == c))) G G (fun _ _ => Bn G G BinR.eqlU32 Ok) R149 (Tk 5 (.bool (((fieldQ x 0 7) == c))) G G (fun _ _ => Mv _ G Ok) R149 (Tk 6 (U32 x) G G (fun _ _ => Gt (Yb G G hd12_84) (Mv _ G Ok)) R149 (Tk 8 (ptr b3 3) G G (fun _ _ => Gt (Yb G G hd12_84) (Fa G fo163_3 Ok)) R149 (Tk 9 (U32 f3) G G (fun _ hS => Gt (Yb G G hd12_84) (Lo G ag50 ((n3.blk.ext hS).cell (j := 3) G) Ok)) R149 (WA.one (i := 7) (m' := 1023) (by kernel_rfl) G G (Gt (Yb G G hd12_84) (WL.call ca79 G G (field_q x 12 3 _) ?_))))))))
      rintro _ wc86 ⟨rfl, ec86⟩
      have R157 := Mt R149 ec86
      have E158 := Mt E150 ec86
      refine WL.behind R157 (Tk 10 (.bool (((fieldQ x 12 3) == f3))) G G (fun _ _ => Gt (Yb G G hd12_84) (Bn G G BinR.eqlU32 Ok)) R157 (Tk 11 (.bool (((fieldQ x 12 3) == f3))) G G (fun _ _ => Pk (b := true) (congrArg Value.bool hd12_84) G Ok) R157 (Tk 12 (.bool (((fieldQ x 12 3) == f3))) G G (fun _ _ => An _ G Ok) R157 (WA.done (by kernel_rfl) (WC.ret ?_)))))
      have hfin : isQ x s nm c f3 f7 = ((fieldQ x 12 3) == f3) := by unfold isQ; rw [hc7, hc27, hc35, hc57]; simp only [*, cond_true, cond_false, Bool.true_or, Bool.or_true, Bool.false_or, Bool.or_false, Bool.true_and, Bool.and_true, Bool.false_and, Bool.and_false]
      exact ⟨_, Res.one (v := .bool (((fieldQ x 12 3) == f3))) G G, congrArg Value.bool hfin.symm, E158⟩
     ·refine WC.draw (fun w_ => Ext w3 w_) 13 G mixed ?_
      intro wd_12 ed_12
      have R162 : Ext w3 wd_12 := ed_12
      have E163 := Mt E1 ed_12
      refine Tk 0 (U32 x) G G (fun _ _ => Mv _ G Ok) R162 (Tk 2 (ptr b3 2) G G (fun _ _ => Fa G fo163_2 Ok) R162 (Tk 3 (U32 c) G G (fun _ hS => Lo G ag50 ((n3.blk.ext hS).cell (j := 2) G) Ok) R162 (WA.one (i := 1) (m' := 15) (by kernel_rfl) G G (WL.call ca79 G G (field_q x 0 7 _) ?_))))
      rintro _ wc80 ⟨rfl, ec80⟩
      have R168 := Mt R162 ec80
      have E169 := Mt E163 ec80
      refine WL.behind R168 (Tk 4 (.bool (((fieldQ x 0 7) == c))) G G (fun _ _ => Bn G G BinR.eqlU32 Ok) R168 (Tk 5 (.bool (((fieldQ x 0 7) == c))) G G (fun _ _ => Mv _ G Ok) R168 (To 6 (some false) G G G (Yb G G hd12_84) R168 (To 7 (some false) G G G (Yb G G hd12_84) R168 (To 8 (some false) G G G (Yb G G hd12_84) R168 (To 9 (some false) G G G (Yb G G hd12_84) R168 (To 10 (some false) G G G (Yb G G hd12_84) R168 (Tk 11 (.bool false) G G (fun _ _ => Pk (b := false) (congrArg Value.bool hd12_84) G Ok) R168 (Tk 12 (.bool false) G G (fun _ _ => An _ G Ok) R168 ?_)))))))))
      refine WA.done (by kernel_rfl) (WC.ret ?_)
      have hfin : isQ x s nm c f3 f7 = false := by unfold isQ; rw [hc7, hc27, hc35, hc57]; simp only [*, cond_true, cond_false, Bool.true_or, Bool.or_true, Bool.false_or, Bool.or_false, Bool.true_and, Bool.and_true, Bool.false_and, Bool.and_false]
      exact ⟨_, Res.one (v := .bool false) G G, congrArg Value.bool hfin.symm, E169⟩
end Go.Proofs.S
end
section
set_option linter.unusedSimpArgs false
set_option linter.unusedVariables false
namespace Go.Proofs.S
open Go Go.Ux Go.Ux.Mach Go.Proofs
theorem ca100 : callable Tryz.prog 100 = true := by kernel_rfl
theorem ca101 : callable Tryz.prog 101 = true := by kernel_rfl
theorem ca102 : callable Tryz.prog 102 = true := by kernel_rfl
def halfQ (x : BitVec 64) : BitVec 64 := (x.setWidth 32).signExtend 64
theorem sll_q (a b : BitVec 64) : b % 64#64 = b &&& 63#64 := by
 apply BitVec.eq_of_toNat_eq
 rw [BitVec.toNat_umod, BitVec.toNat_and]
 exact (Nat.and_two_pow_sub_one_eq_mod b.toNat 6).symm
theorem shl_q (a b : BitVec 64) : a <<< (b % 64#64).toNat = sllW a b := by rw [sll_q a b]; rfl
theorem shr_q (a b : BitVec 64) : a >>> (b % 64#64).toNat = srlW a b := by rw [sll_q a b]; rfl
theorem sar_q (a b : BitVec 64) : BitVec.sshiftRight a (b % 64#64).toNat = sraW a b := by rw [sll_q a b]; rfl
theorem mulhsu_q (a b : BitVec 64) : hiW a b - bitW (BitVec.slt a 0#64) * b = mulhsuW a b := by unfold mulhsuW; rw [BitVec.mul_comm b]
theorem mulh_q (a b : BitVec 64) : mulhsuW a b - bitW (BitVec.slt b 0#64) * a = mulhW a b := by unfold mulhW; rw [BitVec.mul_comm a]
theorem half_q (x : BitVec 64) (w : World) : CallsR Tryz.prog 99 #[U64 x] w (fun v w' => v = U64 (halfQ x) ∧ Ext w w') := by
 refine callsR_of Tryz.func99 G G G ?_
 refine Sr (An (U64 (0#64)) G (Ni (Sr (Mv (U64 x) G (Cv G (ConvR.u64u32 Tryz.underlying39 Tryz.underlying50) (Cv G (ConvR.u32i32 Tryz.underlying50 Tryz.underlying21) (Cv G (ConvR.i32i64 Tryz.underlying21 Tryz.underlying2) ?_)))))))
 refine Cv G (ConvR.i64u64 Tryz.underlying2 Tryz.underlying39) (An (U64 (((x.setWidth 32).signExtend 64))) G (Ni (WC.ret ?_)))
 exact ⟨_, Res.one (v := U64 (((x.setWidth 32).signExtend 64))) G G, G, Mod.refl _ _⟩
theorem divide_q (x y : BitVec 64) (w : World) : CallsR Tryz.prog 100 #[I64 x, I64 y] w (fun v w' => v = .tuple #[I64 (divW x y), I64 (remW x y)] ∧ Ext w w') := by
 refine callsR_of Tryz.func100 G G G ?_
 refine Sr (An (I64 (0#64)) G (An (I64 (0#64)) G (Ni (Sq (Sr (Mv (I64 y) G (Bn (vy := I64 (0#64)) G G BinR.eql64 ?_)))))))
 refine Ni ?_
 refine WC.cond G (fun hc7 => ?_) (fun hc7 => ?_)
 ·refine Sr (Mv (I64 x) G (An (I64 (BitVec.ofInt 64 (-1))) (cI64 _ (by decide)) (An (I64 x) G (Ni (WC.ret ?_)))))
  have hfin : divW x y = BitVec.ofInt 64 (-1) ∧ remW x y = x := by
   unfold divW remW; rw [hc7]; refine ⟨?_, ?_⟩ <;> first | rfl | exact (BitVec.zero_sub _).symm
  exact ⟨_, Res.two (v := I64 (BitVec.ofInt 64 (-1))) (v' := I64 x) G G G, by rw [hfin.1, hfin.2], Mod.refl _ _⟩
 ·have hy : y ≠ 0#64 := by simpa using hc7
  refine WC.skip (Sq (Sr (Mv (I64 y) G (Bn (vy := I64 (BitVec.ofInt 64 (-1))) G (cI64 _ (by decide)) BinR.eql64 (Ni ?_)))))
  refine WC.cond G (fun hc10 => ?_) (fun hc10 => ?_)
  ·refine Sr (Mv (I64 x) G (Bn (vx := I64 0#64) G G BinR.sub64 (An (I64 ((0#64 - x))) G (An (I64 (0#64)) G (Ni (WC.ret ?_))))))
   have hfin : divW x y = (0#64 - x) ∧ remW x y = 0#64 := by
    unfold divW remW; rw [hc7, hc10]; refine ⟨?_, ?_⟩ <;> first | rfl | exact (BitVec.zero_sub _).symm
   exact ⟨_, Res.two (v := I64 ((0#64 - x))) (v' := I64 (0#64)) G G G, by rw [hfin.1, hfin.2], Mod.refl _ _⟩
  ·refine WC.skip (Sq (WC.draw (fun w_ => Ext w w_) 8 G mixed ?_))
   intro wd_5 ed_5
   have R1 : Ext w wd_5 := ed_5
   have E2 : Ext w wd_5 := ed_5
   refine Tk 0 (I64 x) G G (fun _ _ => Mv _ G Ok) R1 (Tk 1 (I64 y) G G (fun _ _ => Mv _ G Ok) R1 (Tk 2 (I64 (x.sdiv y)) G G (fun _ _ => Bn G G (BinR.quo64 hy) Ok) R1 (Tk 3 (I64 x) G G (fun _ _ => Mv _ G Ok) R1 (Tk 4 (I64 y) G G (fun _ _ => Mv _ G Ok) R1 (Tk 5 (I64 (x.srem y)) G G (fun _ _ => Bn G G (BinR.rem64 hy) Ok) R1 (Tk 6 (I64 (x.sdiv y)) G G (fun _ _ => An _ G Ok) R1 (Tk 7 (I64 (x.srem y)) G G (fun _ _ => An _ G Ok) R1 (WA.done (by kernel_rfl) (WC.ret ?_)))))))))
   have hfin : divW x y = (x.sdiv y) ∧ remW x y = (x.srem y) := by
    unfold divW remW; rw [hc7, hc10]; refine ⟨?_, ?_⟩ <;> first | rfl | exact (BitVec.zero_sub _).symm
   exact ⟨_, Res.two (v := I64 (x.sdiv y)) (v' := I64 (x.srem y)) G G G, by rw [hfin.1, hfin.2], E2⟩
theorem bit_q (b : Bool) (w : World) : CallsR Tryz.prog 101 #[.bool b] w (fun v w' => v = U64 (bitW b) ∧ Ext w w') := by
 refine callsR_of Tryz.func101 G G G ?_
 refine Sr (An (U64 (0#64)) G (Ni (Sq (Sr (Mv (.bool b) G (Ni ?_))))))
 refine WC.cond G (fun hc3 => ?_) (fun hc3 => ?_)
 ·refine Sr (An (U64 (1#64)) G (Ni (WC.ret ?_)))
  have hfin : ((U64 (1#64)) : Value) = U64 (bitW b) := by unfold bitW; rw [hc3]; try rfl
  exact ⟨_, Res.one (v := U64 (1#64)) G G, hfin, Mod.refl _ _⟩
 ·refine WC.skip (Sr (An (U64 (0#64)) G (Ni (WC.ret ?_))))
  have hfin : ((U64 (0#64)) : Value) = U64 (bitW b) := by unfold bitW; rw [hc3]; try rfl
  exact ⟨_, Res.one (v := U64 (0#64)) G G, hfin, Mod.refl _ _⟩
theorem high_q (x y : BitVec 64) (w : World) : CallsR Tryz.prog 102 #[U64 x, U64 y] w (fun v w' => v = U64 (hiW x y) ∧ Ext w w') := by
 refine callsR_of Tryz.func102 G G G ?_
 refine Sr (An (U64 (0#64)) G (Ni (Sr (Mv (U64 x) G (Bn (vy := U64 (4294967295#64)) G G BinR.andU64 (Mv (U64 x) G (Bn (vy := .int .u64 ((32 : Nat) : Int)) G G BinR.shrU64 ?_)))))))
 refine Mv (U64 y) G (Bn (vy := U64 (4294967295#64)) G G BinR.andU64 (Mv (U64 y) G (Bn (vy := .int .u64 ((32 : Nat) : Int)) G G BinR.shrU64 (An (U64 ((x &&& 4294967295#64))) G (An (U64 ((x >>> 32))) G (An (U64 ((y &&& 4294967295#64))) G (An (U64 ((y >>> 32))) G (Ni (Sq ?_)))))))))
 refine Rg (Mv (U64 ((x >>> 32))) G (Mv (U64 ((y &&& 4294967295#64))) G (Bn G G BinR.mulU64 (Mv (U64 ((x &&& 4294967295#64))) G (Mv (U64 ((y &&& 4294967295#64))) G (Bn G G BinR.mulU64 (Bn (vy := .int .u64 ((32 : Nat) : Int)) G G BinR.shrU64 (Bn G G BinR.addU64 (An (U64 ((((x >>> 32) * (y &&& 4294967295#64)) + (((x &&& 4294967295#64) * (y &&& 4294967295#64)) >>> 32)))) G ?_)))))))))
 refine Ni (Sr (Mv (U64 ((((x >>> 32) * (y &&& 4294967295#64)) + (((x &&& 4294967295#64) * (y &&& 4294967295#64)) >>> 32)))) G (Bn (vy := U64 (4294967295#64)) G G BinR.andU64 (Mv (U64 ((x &&& 4294967295#64))) G (Mv (U64 ((y >>> 32))) G (Bn G G BinR.mulU64 (Bn G G BinR.addU64 (An (U64 ((((((x >>> 32) * (y &&& 4294967295#64)) + (((x &&& 4294967295#64) * (y &&& 4294967295#64)) >>> 32)) &&& 4294967295#64) + ((x &&& 4294967295#64) * (y >>> 32))))) G ?_))))))))
 refine Ni (Sr (Mv (U64 ((x >>> 32))) G (Mv (U64 ((y >>> 32))) G (Bn G G BinR.mulU64 (Mv (U64 ((((x >>> 32) * (y &&& 4294967295#64)) + (((x &&& 4294967295#64) * (y &&& 4294967295#64)) >>> 32)))) G (Bn (vy := .int .u64 ((32 : Nat) : Int)) G G BinR.shrU64 (Bn G G BinR.addU64 (Mv (U64 ((((((x >>> 32) * (y &&& 4294967295#64)) + (((x &&& 4294967295#64) * (y &&& 4294967295#64)) >>> 32)) &&& 4294967295#64) + ((x &&& 4294967295#64) * (y >>> 32))))) G ?_))))))))
 refine Bn (vy := .int .u64 ((32 : Nat) : Int)) G G BinR.shrU64 (Bn G G BinR.addU64 (An (U64 (((((x >>> 32) * (y >>> 32)) + ((((x >>> 32) * (y &&& 4294967295#64)) + (((x &&& 4294967295#64) * (y &&& 4294967295#64)) >>> 32)) >>> 32)) + ((((((x >>> 32) * (y &&& 4294967295#64)) + (((x &&& 4294967295#64) * (y &&& 4294967295#64)) >>> 32)) &&& 4294967295#64) + ((x &&& 4294967295#64) * (y >>> 32))) >>> 32)))) G (Ni (WC.ret ?_))))
 exact ⟨_, Res.one (v := U64 (((((x >>> 32) * (y >>> 32)) + ((((x >>> 32) * (y &&& 4294967295#64)) + (((x &&& 4294967295#64) * (y &&& 4294967295#64)) >>> 32)) >>> 32)) + ((((((x >>> 32) * (y &&& 4294967295#64)) + (((x &&& 4294967295#64) * (y &&& 4294967295#64)) >>> 32)) &&& 4294967295#64) + ((x &&& 4294967295#64) * (y >>> 32))) >>> 32)))) G G, G, Mod.refl _ _⟩
def arithQ (s : List UInt8) (a b : BitVec 64) : BitVec 64 := bif ([[97, 100, 100]].any fun c => s == c) then a + b else bif ([[115, 117, 98]].any fun c => s == c) then a - b else bif ([[115, 108, 108]].any fun c => s == c) then sllW a b else bif ([[115, 108, 116]].any fun c => s == c) then bitW (BitVec.slt a b) else bif ([[115, 108, 116, 117]].any fun c => s == c) then bitW (BitVec.ult a b) else bif ([[120, 111, 114]].any fun c => s == c) then a ^^^ b else bif ([[115, 114, 108]].any fun c => s == c) then srlW a b else bif ([[115, 114, 97]].any fun c => s == c) then sraW a b else bif ([[111, 114]].any fun c => s == c) then a ||| b else bif ([[97, 110, 100]].any fun c => s == c) then a &&& b else bif ([[109, 117, 108]].any fun c => s == c) then a * b else bif ([[109, 117, 108, 104, 117]].any fun c => s == c) then hiW a b else bif ([[109, 117, 108, 104]].any fun c => s == c) then mulhW a b else bif ([[109, 117, 108, 104, 115, 117]].any fun c => s == c) then mulhsuW a b else bif ([[100, 105, 118]].any fun c => s == c) then divW a b else bif ([[114, 101, 109]].any fun c => s == c) then remW a b else bif ([[100, 105, 118, 117]].any fun c => s == c) then divuW a b else remuW a b
theorem arith_q (s : List UInt8) (a b : BitVec 64) (w : World) : CallsR Tryz.prog 84 #[St s, U64 a, U64 b] w (fun v w' => v = U64 (arithQ s a b) ∧ Ext w w') := by
 refine callsR_of Tryz.func84 G G G ?_
 refine Sr (An (U64 (0#64)) G (Ni (Sr (Mv (U64 a) G (Cv G (ConvR.u64i64 Tryz.underlying39 Tryz.underlying2) (Mv (U64 b) G (Cv G (ConvR.u64i64 Tryz.underlying39 Tryz.underlying2) ?_)))))))
 refine WL.call ca100 G G (divide_q a b _) ?_
 rintro _ wc14 ⟨rfl, ec14⟩
 have E1 : Ext w wc14 := ec14
 refine Mv (.tuple #[I64 (divW a b), I64 (remW a b)]) G (Et G G (Et G G (An (I64 (divW a b)) G (An (I64 (remW a b)) G (Ni (Sq (Sr (Mv (St s) G ?_))))))))
 refine Ni (Bk (Sq ?_))
 refine WC.orS (x := 17) (d := 18) (s := s) (cs := [[97, 100, 100]]) (ts := [19]) (by kernel_rfl) G (fun g2 => ?_)
 refine WC.cond G (fun hc18 => ?_) (fun hc18 => ?_)
 ·refine Sr (Mv (U64 a) G (Mv (U64 b) G (Bn G G BinR.addU64 (An (U64 ((a + b))) G (Ni (WC.ret ?_))))))
  have hfin : arithQ s a b = (a + b) := by unfold arithQ; rw [hc18]; try rfl
  exact ⟨_, Res.one (v := U64 ((a + b))) G G, congrArg U64 hfin.symm, E1⟩
 ·refine Sq ?_
  refine WC.orS (x := 17) (d := 23) (s := s) (cs := [[115, 117, 98]]) (ts := [24]) (by kernel_rfl) G (fun g3 => ?_)
  refine WC.cond G (fun hc23 => ?_) (fun hc23 => ?_)
  ·refine Sr (Mv (U64 a) G (Mv (U64 b) G (Bn G G BinR.subU64 (An (U64 ((a - b))) G (Ni (WC.ret ?_))))))
   have hfin : arithQ s a b = (a - b) := by unfold arithQ; rw [hc18, hc23]; try rfl
   exact ⟨_, Res.one (v := U64 ((a - b))) G G, congrArg U64 hfin.symm, E1⟩
  ·refine Sq ?_
   refine WC.orS (x := 17) (d := 28) (s := s) (cs := [[115, 108, 108]]) (ts := [29]) (by kernel_rfl) G (fun g4 => ?_)
   refine WC.cond G (fun hc28 => ?_) (fun hc28 => ?_)
   ·refine Sr (Mv (U64 a) G (Mv (U64 b) G (Bn (vy := U64 (64#64)) G G (BinR.remU64 (by decide)) (Bn G G ((shl_q a b) ▸ BinR.shlU64) (An (U64 (sllW a b)) G (Ni (WC.ret ?_)))))))
    have hfin : arithQ s a b = (sllW a b) := by unfold arithQ; rw [hc18, hc23, hc28]; try rfl
    exact ⟨_, Res.one (v := U64 (sllW a b)) G G, congrArg U64 hfin.symm, E1⟩
   ·refine Sq ?_
    refine WC.orS (x := 17) (d := 34) (s := s) (cs := [[115, 108, 116]]) (ts := [35]) (by kernel_rfl) G (fun g5 => ?_)
    refine WC.cond G (fun hc34 => ?_) (fun hc34 => ?_)
    ·refine Sr (Mv (U64 a) G (Cv G (ConvR.u64i64 Tryz.underlying39 Tryz.underlying2) (Mv (U64 b) G (Cv G (ConvR.u64i64 Tryz.underlying39 Tryz.underlying2) (Bn G G BinR.lss64 (WL.call ca101 G G (bit_q (BitVec.slt a b) _) ?_))))))
     rintro _ wc41 ⟨rfl, ec41⟩
     have E6 := Mt E1 ec41
     refine An (U64 ((bitW (BitVec.slt a b)))) G (Ni (WC.ret ?_))
     have hfin : arithQ s a b = (bitW (BitVec.slt a b)) := by unfold arithQ; rw [hc18, hc23, hc28, hc34]; try rfl
     exact ⟨_, Res.one (v := U64 ((bitW (BitVec.slt a b)))) G G, congrArg U64 hfin.symm, E6⟩
    ·refine Sq ?_
     refine WC.orS (x := 17) (d := 42) (s := s) (cs := [[115, 108, 116, 117]]) (ts := [43]) (by kernel_rfl) G (fun g7 => ?_)
     refine WC.cond G (fun hc42 => ?_) (fun hc42 => ?_)
     ·refine Sr (Mv (U64 a) G (Mv (U64 b) G (Bn G G BinR.lssU64 (WL.call ca101 G G (bit_q (BitVec.ult a b) _) ?_))))
      rintro _ wc47 ⟨rfl, ec47⟩
      have E8 := Mt E1 ec47
      refine An (U64 ((bitW (BitVec.ult a b)))) G (Ni (WC.ret ?_))
      have hfin : arithQ s a b = (bitW (BitVec.ult a b)) := by unfold arithQ; rw [hc18, hc23, hc28, hc34, hc42]; try rfl
      exact ⟨_, Res.one (v := U64 ((bitW (BitVec.ult a b)))) G G, congrArg U64 hfin.symm, E8⟩
     ·refine Sq ?_
      refine WC.orS (x := 17) (d := 48) (s := s) (cs := [[120, 111, 114]]) (ts := [49]) (by kernel_rfl) G (fun g9 => ?_)
      refine WC.cond G (fun hc48 => ?_) (fun hc48 => ?_)
      ·refine Sr (Mv (U64 a) G (Mv (U64 b) G (Bn G G BinR.xorU64 (An (U64 ((a ^^^ b))) G (Ni (WC.ret ?_))))))
       have hfin : arithQ s a b = (a ^^^ b) := by unfold arithQ; rw [hc18, hc23, hc28, hc34, hc42, hc48]; try rfl
       exact ⟨_, Res.one (v := U64 ((a ^^^ b))) G G, congrArg U64 hfin.symm, E1⟩
      ·refine Sq ?_
       refine WC.orS (x := 17) (d := 53) (s := s) (cs := [[115, 114, 108]]) (ts := [54]) (by kernel_rfl) G (fun g10 => ?_)
       refine WC.cond G (fun hc53 => ?_) (fun hc53 => ?_)
       ·refine Sr (Mv (U64 a) G (Mv (U64 b) G (Bn (vy := U64 (64#64)) G G (BinR.remU64 (by decide)) (Bn G G ((shr_q a b) ▸ BinR.shrU64) (An (U64 (srlW a b)) G (Ni (WC.ret ?_)))))))
        have hfin : arithQ s a b = (srlW a b) := by unfold arithQ; rw [hc18, hc23, hc28, hc34, hc42, hc48, hc53]; try rfl
        exact ⟨_, Res.one (v := U64 (srlW a b)) G G, congrArg U64 hfin.symm, E1⟩
       ·refine Sq ?_
        refine WC.orS (x := 17) (d := 59) (s := s) (cs := [[115, 114, 97]]) (ts := [60]) (by kernel_rfl) G (fun g11 => ?_)
        refine WC.cond G (fun hc59 => ?_) (fun hc59 => ?_)
        ·refine Sr (Mv (U64 a) G (Cv G (ConvR.u64i64 Tryz.underlying39 Tryz.underlying2) (Mv (U64 b) G (Bn (vy := U64 (64#64)) G G (BinR.remU64 (by decide)) (Bn G G ((sar_q a b) ▸ BinR.shr64) (Cv G (ConvR.i64u64 Tryz.underlying2 Tryz.underlying39) (An (U64 (sraW a b)) G (Ni ?_))))))))
         refine WC.ret ?_
         have hfin : arithQ s a b = (sraW a b) := by unfold arithQ; rw [hc18, hc23, hc28, hc34, hc42, hc48, hc53, hc59]; try rfl
         exact ⟨_, Res.one (v := U64 (sraW a b)) G G, congrArg U64 hfin.symm, E1⟩
        ·refine Sq ?_
         refine WC.orS (x := 17) (d := 67) (s := s) (cs := [[111, 114]]) (ts := [68]) (by kernel_rfl) G (fun g12 => ?_)
         refine WC.cond G (fun hc67 => ?_) (fun hc67 => ?_)
         ·refine Sr (Mv (U64 a) G (Mv (U64 b) G (Bn G G BinR.orU64 (An (U64 ((a ||| b))) G (Ni (WC.ret ?_))))))
          have hfin : arithQ s a b = (a ||| b) := by unfold arithQ; rw [hc18, hc23, hc28, hc34, hc42, hc48, hc53, hc59, hc67]; try rfl
          exact ⟨_, Res.one (v := U64 ((a ||| b))) G G, congrArg U64 hfin.symm, E1⟩
         ·refine Sq ?_
          refine WC.orS (x := 17) (d := 72) (s := s) (cs := [[97, 110, 100]]) (ts := [73]) (by kernel_rfl) G (fun g13 => ?_)
          refine WC.cond G (fun hc72 => ?_) (fun hc72 => ?_)
          ·refine Sr (Mv (U64 a) G (Mv (U64 b) G (Bn G G BinR.andU64 (An (U64 ((a &&& b))) G (Ni (WC.ret ?_))))))
           have hfin : arithQ s a b = (a &&& b) := by unfold arithQ; rw [hc18, hc23, hc28, hc34, hc42, hc48, hc53, hc59, hc67, hc72]; try rfl
           exact ⟨_, Res.one (v := U64 ((a &&& b))) G G, congrArg U64 hfin.symm, E1⟩
          ·refine Sq ?_
           refine WC.orS (x := 17) (d := 77) (s := s) (cs := [[109, 117, 108]]) (ts := [78]) (by kernel_rfl) G (fun g14 => ?_)
           refine WC.cond G (fun hc77 => ?_) (fun hc77 => ?_)
           ·refine Sr (Mv (U64 a) G (Mv (U64 b) G (Bn G G BinR.mulU64 (An (U64 ((a * b))) G (Ni (WC.ret ?_))))))
            have hfin : arithQ s a b = (a * b) := by unfold arithQ; rw [hc18, hc23, hc28, hc34, hc42, hc48, hc53, hc59, hc67, hc72, hc77]; try rfl
            exact ⟨_, Res.one (v := U64 ((a * b))) G G, congrArg U64 hfin.symm, E1⟩
           ·refine Sq ?_
            refine WC.orS (x := 17) (d := 82) (s := s) (cs := [[109, 117, 108, 104, 117]]) (ts := [83]) (by kernel_rfl) G (fun g15 => ?_)
            refine WC.cond G (fun hc82 => ?_) (fun hc82 => ?_)
            ·refine Sr (Mv (U64 a) G (Mv (U64 b) G (WL.call ca102 G G (high_q a b _) ?_)))
             rintro _ wc86 ⟨rfl, ec86⟩
             have E16 := Mt E1 ec86
             refine An (U64 (hiW a b)) G (Ni (WC.ret ?_))
             have hfin : arithQ s a b = (hiW a b) := by unfold arithQ; rw [hc18, hc23, hc28, hc34, hc42, hc48, hc53, hc59, hc67, hc72, hc77, hc82]; try rfl
             exact ⟨_, Res.one (v := U64 (hiW a b)) G G, congrArg U64 hfin.symm, E16⟩
            ·refine Sq ?_
             refine WC.orS (x := 17) (d := 87) (s := s) (cs := [[109, 117, 108, 104]]) (ts := [88]) (by kernel_rfl) G (fun g17 => ?_)
             refine WC.cond G (fun hc87 => ?_) (fun hc87 => ?_)
             ·refine Sr (Mv (U64 a) G (Mv (U64 b) G (WL.call ca102 G G (high_q a b _) ?_)))
              rintro _ wc91 ⟨rfl, ec91⟩
              have E18 := Mt E1 ec91
              refine Mv (U64 a) G (Cv G (ConvR.u64i64 Tryz.underlying39 Tryz.underlying2) (Bn (vy := I64 (0#64)) G G BinR.lss64 (WL.call ca101 G G (bit_q (BitVec.slt a (0#64)) _) ?_)))
              rintro _ wc95 ⟨rfl, ec95⟩
              have E19 := Mt E18 ec95
              refine Mv (U64 b) G (Bn G G BinR.mulU64 (Bn G G ((mulhsu_q a b) ▸ BinR.subU64) (Mv (U64 b) G (Cv G (ConvR.u64i64 Tryz.underlying39 Tryz.underlying2) (Bn (vy := I64 (0#64)) G G BinR.lss64 (WL.call ca101 G G (bit_q (BitVec.slt b (0#64)) _) ?_))))))
              rintro _ wc102 ⟨rfl, ec102⟩
              have E20 := Mt E19 ec102
              refine Mv (U64 a) G (Bn G G BinR.mulU64 (Bn G G ((mulh_q a b) ▸ BinR.subU64) (An (U64 (mulhW a b)) G (Ni (WC.ret ?_)))))
              have hfin : arithQ s a b = (mulhW a b) := by unfold arithQ; rw [hc18, hc23, hc28, hc34, hc42, hc48, hc53, hc59, hc67, hc72, hc77, hc82, hc87]; try rfl
              exact ⟨_, Res.one (v := U64 (mulhW a b)) G G, congrArg U64 hfin.symm, E20⟩
             ·refine Sq ?_
              refine WC.orS (x := 17) (d := 106) (s := s) (cs := [[109, 117, 108, 104, 115, 117]]) (ts := [107]) (by kernel_rfl) G (fun g21 => ?_)
              refine WC.cond G (fun hc106 => ?_) (fun hc106 => ?_)
              ·refine Sr (Mv (U64 a) G (Mv (U64 b) G (WL.call ca102 G G (high_q a b _) ?_)))
               rintro _ wc110 ⟨rfl, ec110⟩
               have E22 := Mt E1 ec110
               refine Mv (U64 a) G (Cv G (ConvR.u64i64 Tryz.underlying39 Tryz.underlying2) (Bn (vy := I64 (0#64)) G G BinR.lss64 (WL.call ca101 G G (bit_q (BitVec.slt a (0#64)) _) ?_)))
               rintro _ wc114 ⟨rfl, ec114⟩
               have E23 := Mt E22 ec114
               refine Mv (U64 b) G (Bn G G BinR.mulU64 (Bn G G ((mulhsu_q a b) ▸ BinR.subU64) (An (U64 (mulhsuW a b)) G (Ni (WC.ret ?_)))))
               have hfin : arithQ s a b = (mulhsuW a b) := by unfold arithQ; rw [hc18, hc23, hc28, hc34, hc42, hc48, hc53, hc59, hc67, hc72, hc77, hc82, hc87, hc106]; try rfl
               exact ⟨_, Res.one (v := U64 (mulhsuW a b)) G G, congrArg U64 hfin.symm, E23⟩
              ·refine Sq ?_
               refine WC.orS (x := 17) (d := 118) (s := s) (cs := [[100, 105, 118]]) (ts := [119]) (by kernel_rfl) G (fun g24 => ?_)
               refine WC.cond G (fun hc118 => ?_) (fun hc118 => ?_)
               ·refine Sr (Mv (I64 (divW a b)) G (Cv G (ConvR.i64u64 Tryz.underlying2 Tryz.underlying39) (An (U64 (divW a b)) G (Ni (WC.ret ?_)))))
                have hfin : arithQ s a b = (divW a b) := by unfold arithQ; rw [hc18, hc23, hc28, hc34, hc42, hc48, hc53, hc59, hc67, hc72, hc77, hc82, hc87, hc106, hc118]; try rfl
                exact ⟨_, Res.one (v := U64 (divW a b)) G G, congrArg U64 hfin.symm, E1⟩
               ·refine Sq ?_
                refine WC.orS (x := 17) (d := 122) (s := s) (cs := [[114, 101, 109]]) (ts := [123]) (by kernel_rfl) G (fun g25 => ?_)
                refine WC.cond G (fun hc122 => ?_) (fun hc122 => ?_)
                ·refine Sr (Mv (I64 (remW a b)) G (Cv G (ConvR.i64u64 Tryz.underlying2 Tryz.underlying39) (An (U64 (remW a b)) G (Ni (WC.ret ?_)))))
                 have hfin : arithQ s a b = (remW a b) := by unfold arithQ; rw [hc18, hc23, hc28, hc34, hc42, hc48, hc53, hc59, hc67, hc72, hc77, hc82, hc87, hc106, hc118, hc122]; try rfl
                 exact ⟨_, Res.one (v := U64 (remW a b)) G G, congrArg U64 hfin.symm, E1⟩
                ·refine Sq ?_
                 refine WC.orS (x := 17) (d := 126) (s := s) (cs := [[100, 105, 118, 117]]) (ts := [127]) (by kernel_rfl) G (fun g26 => ?_)
                 refine WC.cond G (fun hc126 => ?_) (fun hc126 => ?_)
                 ·refine Sq (Sr (Mv (U64 b) G (Bn (vy := U64 (0#64)) G G BinR.eqlU64 (Ni ?_))))
                  refine WC.cond G (fun hc129 => ?_) (fun hc129 => ?_)
                  ·refine Sr (An (U64 (18446744073709551615#64)) G (Ni (WC.ret ?_)))
                   have hfin : arithQ s a b = 18446744073709551615#64 := by unfold arithQ; rw [hc18, hc23, hc28, hc34, hc42, hc48, hc53, hc59, hc67, hc72, hc77, hc82, hc87, hc106, hc118, hc122, hc126]; show divuW a b = _; unfold divuW; rw [hc129]; rfl
                   exact ⟨_, Res.one (v := U64 (18446744073709551615#64)) G G, congrArg U64 hfin.symm, E1⟩
                  ·refine WC.skip (Sr (Mv (U64 a) G (Mv (U64 b) G (Bn G G (BinR.quoU64 (by simpa using hc129)) (An (U64 ((a / b))) G (Ni (WC.ret ?_)))))))
                   have hfin : arithQ s a b = (a / b) := by unfold arithQ; rw [hc18, hc23, hc28, hc34, hc42, hc48, hc53, hc59, hc67, hc72, hc77, hc82, hc87, hc106, hc118, hc122, hc126]; show divuW a b = _; unfold divuW; rw [hc129]; rfl
                   exact ⟨_, Res.one (v := U64 ((a / b))) G G, congrArg U64 hfin.symm, E1⟩
                 ·refine WC.skip (Sq (Sr (Mv (U64 b) G (Bn (vy := U64 (0#64)) G G BinR.eqlU64 (Ni ?_)))))
                  refine WC.cond G (fun hc134 => ?_) (fun hc134 => ?_)
                  ·refine Sr (Mv (U64 a) G (An (U64 a) G (Ni (WC.ret ?_))))
                   have hfin : arithQ s a b = a := by unfold arithQ; rw [hc18, hc23, hc28, hc34, hc42, hc48, hc53, hc59, hc67, hc72, hc77, hc82, hc87, hc106, hc118, hc122, hc126]; show remuW a b = _; unfold remuW; rw [hc134]; rfl
                   exact ⟨_, Res.one (v := U64 a) G G, congrArg U64 hfin.symm, E1⟩
                  ·refine WC.skip (Sr (Mv (U64 a) G (Mv (U64 b) G (Bn G G (BinR.remU64 (by simpa using hc134)) (An (U64 ((a % b))) G (Ni (WC.ret ?_)))))))
                   have hfin : arithQ s a b = (a % b) := by unfold arithQ; rw [hc18, hc23, hc28, hc34, hc42, hc48, hc53, hc59, hc67, hc72, hc77, hc82, hc87, hc106, hc118, hc122, hc126]; show remuW a b = _; unfold remuW; rw [hc134]; rfl
                   exact ⟨_, Res.one (v := U64 ((a % b))) G G, congrArg U64 hfin.symm, E1⟩
end Go.Proofs.S
end
section
namespace Go.Proofs.S
open Go Go.Ux Go.Ux.Mach
theorem evV_get : ∀ (l : List (BitVec 8 × BitVec 64)) (j : Nat) (h : j < l.length), (evV l)[j * 2]? = some (U8 (l[j]).1) ∧ (evV l)[j * 2 + 1]? = some (I64 (l[j]).2)
  | p :: r, 0, _ => ⟨rfl, rfl⟩
  | p :: r, j + 1, h => by
    have hh := evV_get r j (by simpa using h)
    have e : evV (p :: r) = U8 p.1 :: I64 p.2 :: evV r := rfl
    rw [e, Nat.add_mul, Nat.one_mul]
    exact hh
theorem long_form {w : World} {v : Value} {n : Nat} {xs : List Value} (h : Ux.Own w 1 v n xs) : v = .slice none 0 0 ∨ ∃ a c, v = .slice (some a) n c := by
  rcases h.2 with ⟨e, _⟩ | ⟨g, cap, e, _⟩
  · exact .inl e
  · exact .inr ⟨_, _, e⟩
end Go.Proofs.S
end
section
namespace Go.Proofs.S
open Go Go.Ux Go.Ux.Mach Go.Proofs Go.Proofs.M Go.Ux.Image
set_option linter.unusedVariables false
def apart (i j : Nat) : Bool := ((rvAt i).mtch &&& (rvAt j).form.mask) != ((rvAt j).mtch &&& (rvAt i).form.mask)
theorem row_zero : (rvAt 0).form.mask = 0#32 := rfl
theorem and_low {n : Nat} (x : BitVec n) (k : Nat) (h : k < n) : (x &&& BitVec.ofNat n (2 ^ k - 1)).toNat = x.toNat % 2 ^ k := by
 have h2 : (2 : Nat) ^ k < 2 ^ n := Nat.pow_lt_pow_right (by decide) h
 have h1 := Nat.two_pow_pos k
 rw [BitVec.toNat_and, BitVec.toNat_ofNat, Nat.mod_eq_of_lt (show 2 ^ k - 1 < 2 ^ n by omega), Nat.and_two_pow_sub_one_eq_mod]
def bitsAt (w : BitVec 32) (a b : Nat) : Nat := w.toNat / 2 ^ a % 2 ^ b
theorem bitsOf_nat (w : BitVec 32) (a b : Nat) (h : b < 32) : (bitsOf (a, b) w).toNat = bitsAt w a b := by
 unfold bitsOf bitsAt
 have e : (1#32 <<< b) - 1#32 = BitVec.ofNat 32 (2 ^ b - 1) := by
  apply BitVec.eq_of_toNat_eq
  have h2 : (2 : Nat) ^ b < 2 ^ 32 := Nat.pow_lt_pow_right (by decide) h
  have h1 := Nat.two_pow_pos b
  rw [BitVec.toNat_sub, BitVec.toNat_shiftLeft, BitVec.toNat_ofNat, BitVec.toNat_ofNat, Nat.shiftLeft_eq]
  omega
 show (w >>> a &&& ((1#32 <<< b) - 1#32)).toNat = _
 rw [e, and_low _ _ h, BitVec.toNat_ushiftRight, Nat.shiftRight_eq_div_pow]
theorem decI_of {x : BitVec 32} {i : Nat} (h : findRow x tableD = some i) : decI x = decodeAt i x ∧ decE x = 0 := by
 unfold decI decE; rw [h]; exact ⟨rfl, rfl⟩
def addX (y : BitVec 12) : BitVec 64 := y.signExtend 64
def addI (y : BitVec 12) : RvInst := ⟨41#8, 6#8, 6#8, 0#8, addX y⟩
end Go.Proofs.S
end
section
namespace Go.Proofs.S
open Go Go.Ux Go.Ux.Mach Go.Proofs Go.Proofs.M Go.Ux.Image
open Go.Proofs.N (doM loadsM)
set_option linter.unusedVariables false
def fch : FK → BitVec 8
 | .R => 82#8 | .I => 73#8 | .H => 72#8 | .W => 87#8 | .S => 83#8 | .B => 66#8 | .U => 85#8 | .J => 74#8 | .E => 69#8 | .Z => 0#8
def rowC (i : Nat) : List Value := [U8 (fch (rvAt i).k), St (rvAt i).name, U32 ((rvAt i).mtch &&& 127#32), U32 (((rvAt i).mtch >>> 12) &&& 7#32), U32 ((rvAt i).mtch >>> 25)]
def rowQ (i : Nat) : Value := .agg (rowC i).toArray
def rowsC : Array Value := ((List.range 65).flatMap fun i => rowC (i + 1)).toArray
theorem rowsC_get (i : Nat) (h : i < 65) : ∀ q u, (rowC (i + 1))[q]? = some u → rowsC.toList[i * 5 + q]? = some u := by
 have gen : ∀ (l : List Nat) (i : Nat) (h : i < l.length) (q : Nat) (u : Value), (rowC (l[i] + 1))[q]? = some u → (l.flatMap fun i => rowC (i + 1))[i * 5 + q]? = some u := by
  intro l
  induction l with
  | nil => intro i h; simp at h
  | cons a r ih =>
   intro i h q u hq
   rw [List.flatMap_cons]
   cases i with
   | zero =>
    have hl : q < (rowC (a + 1)).length := (List.getElem?_eq_some_iff.1 hq).1
    rw [Nat.zero_mul, Nat.zero_add, List.getElem?_append_left hl]; exact hq
   | succ i =>
    have hl : (rowC (a + 1)).length = 5 := rfl
    rw [List.getElem?_append_right (by rw [hl]; omega), hl, show (i + 1) * 5 + q - 5 = i * 5 + q by omega]
    exact ih i (by simpa using h) q u hq
 intro q u hq
 have := gen (List.range 65) i (by simpa using h) q u (by rw [List.getElem_range]; exact hq)
 exact this
theorem rowsC_cells {w : World} {b : Nat} {t : TypeId} (h : Blk w b rowsC t) {i : Nat} (hi : i < 65) : Cells w b (0 + i * 5) (rowC (i + 1)) := by
 intro q u hq
 rw [Nat.add_assoc]
 exact h.cells (i * 5 + q) u (rowsC_get i hi q u hq)
theorem and_split {x c m n : BitVec 32} (h : c &&& (m ||| n) = c) : (x &&& (m ||| n)) = c ↔ (x &&& m) = (c &&& m) ∧ (x &&& n) = (c &&& n) := by
 have d : ∀ y : BitVec 32, y &&& (m ||| n) = (y &&& m) ||| (y &&& n) := fun y => by
  apply BitVec.eq_of_getLsbD_eq; intro i hi
  simp only [BitVec.getLsbD_and, BitVec.getLsbD_or, Bool.and_or_distrib_left]
 have e : ∀ y : BitVec 32, (y &&& (m ||| n)) &&& m = y &&& m := fun y => by
  apply BitVec.eq_of_getLsbD_eq; intro i hi
  simp only [BitVec.getLsbD_and, BitVec.getLsbD_or]
  cases y.getLsbD i <;> cases m.getLsbD i <;> cases n.getLsbD i <;> rfl
 have e' : ∀ y : BitVec 32, (y &&& (m ||| n)) &&& n = y &&& n := fun y => by
  apply BitVec.eq_of_getLsbD_eq; intro i hi
  simp only [BitVec.getLsbD_and, BitVec.getLsbD_or]
  cases y.getLsbD i <;> cases m.getLsbD i <;> cases n.getLsbD i <;> rfl
 constructor
 ·intro hx
  exact ⟨by rw [← e x, hx], by rw [← e' x, hx]⟩
 ·rintro ⟨h1, h2⟩
  rw [d x, h1, h2, ← d c, h]
theorem fld_iff {x c o : BitVec 32} {a : Nat} (h : (o <<< a) >>> a = o) : (x &&& (o <<< a)) = (c &&& (o <<< a)) ↔ ((x >>> a) &&& o) = ((c >>> a) &&& o) := by
 have s : ∀ y : BitVec 32, (y &&& (o <<< a)) >>> a = (y >>> a) &&& o := fun y => by
  rw [BitVec.ushiftRight_and_distrib, h]
 have t : ∀ y : BitVec 32, y &&& (o <<< a) = ((y >>> a) &&& o) <<< a := fun y => by
  apply BitVec.eq_of_getLsbD_eq; intro i hi
  simp only [BitVec.getLsbD_and, BitVec.getLsbD_shiftLeft, BitVec.getLsbD_ushiftRight]
  by_cases hia : i < a
  ·simp [hia]
  ·rw [show a + (i - a) = i by omega]
   cases y.getLsbD i <;> simp
 exact ⟨fun e => by rw [← s, ← s, e], fun e => by rw [t, t, e]⟩
theorem beq_iff {α : Type} [BEq α] [LawfulBEq α] {a b : α} {p : Bool} (h : a = b ↔ p = true) : (a == b) = p := by
 cases p with
 | true => exact beq_iff_eq.2 (h.2 rfl)
 | false =>
  rcases hab : (a == b) with _ | _
  ·rfl
  ·exact absurd (h.1 (beq_iff_eq.1 hab)) (by decide)
theorem is_base (x m : BitVec 32) (h : m &&& 127#32 = m) : ((x &&& 127#32) == m) = (fieldQ x 0 7 == (m &&& 127#32)) := by
 have e : fieldQ x 0 7 = x &&& 127#32 := by unfold fieldQ; rw [BitVec.ushiftRight_zero]; rfl
 rw [e, h]
theorem is_three (x m : BitVec 32) (h : m &&& 28799#32 = m) : ((x &&& 28799#32) == m) = (fieldQ x 0 7 == (m &&& 127#32) && fieldQ x 12 3 == ((m >>> 12) &&& 7#32)) := by
 have e : fieldQ x 0 7 = x &&& 127#32 := by unfold fieldQ; rw [BitVec.ushiftRight_zero]; rfl
 refine beq_iff ?_
 have hs := and_split (x := x) (c := m) (m := 127#32) (n := 7#32 <<< 12) (by exact h)
 have hf := fld_iff (x := x) (c := m) (o := 7#32) (a := 12) (by decide)
 rw [e, Bool.and_eq_true, beq_iff_eq, beq_iff_eq]
 show (x &&& (127#32 ||| 7#32 <<< 12)) = m ↔ _
 rw [hs, hf]; exact Iff.rfl
theorem is_four (x m : BitVec 32) (h : m &&& 4261441663#32 = m) : ((x &&& 4261441663#32) == m) = ((fieldQ x 0 7 == (m &&& 127#32) && fieldQ x 12 3 == ((m >>> 12) &&& 7#32)) && fieldQ x 25 7 == m >>> 25) := by
 have e : fieldQ x 0 7 = x &&& 127#32 := by unfold fieldQ; rw [BitVec.ushiftRight_zero]; rfl
 refine beq_iff ?_
 have h1 : (m &&& 28799#32) &&& (127#32 ||| 7#32 <<< 12) = m &&& 28799#32 := by rw [BitVec.and_assoc]; rfl
 have hs := and_split (x := x) (c := m) (m := 28799#32) (n := 127#32 <<< 25) (by exact h)
 have hs2 := and_split (x := x) (c := m &&& 28799#32) (m := 127#32) (n := 7#32 <<< 12) h1
 have hf := fld_iff (x := x) (c := m) (o := 7#32) (a := 12) (by decide)
 have hf2 := fld_iff (x := x) (c := m) (o := 127#32) (a := 25) (by decide)
 have a1 : (m &&& 28799#32) &&& 127#32 = m &&& 127#32 := by rw [BitVec.and_assoc]; rfl
 have a2 : (m &&& 28799#32) &&& (7#32 <<< 12) = m &&& (7#32 <<< 12) := by rw [BitVec.and_assoc]; rfl
 have a3 : (m >>> 25) &&& 127#32 = m >>> 25 := by
  apply BitVec.eq_of_toNat_eq
  rw [show (127#32) = BitVec.ofNat 32 (2 ^ 7 - 1) from rfl, and_low _ _ (by decide), BitVec.toNat_ushiftRight, Nat.shiftRight_eq_div_pow]
  have := m.isLt; omega
 rw [e, Bool.and_eq_true, Bool.and_eq_true, beq_iff_eq, beq_iff_eq, beq_iff_eq]
 show (x &&& (28799#32 ||| 127#32 <<< 25)) = m ↔ _
 rw [hs, hf2, a3]
 have : (x &&& 28799#32 = m &&& 28799#32) ↔ (x &&& (127#32 ||| 7#32 <<< 12)) = m &&& 28799#32 := Iff.rfl
 rw [this, hs2, a1, a2, hf]; exact Iff.rfl
theorem is_six (x m : BitVec 32) (h : m &&& 4227887231#32 = m) : ((x &&& 4227887231#32) == m) = ((fieldQ x 0 7 == (m &&& 127#32) && fieldQ x 12 3 == ((m >>> 12) &&& 7#32)) && fieldQ x 26 6 == (m >>> 25) >>> 1) := by
 have e : fieldQ x 0 7 = x &&& 127#32 := by unfold fieldQ; rw [BitVec.ushiftRight_zero]; rfl
 refine beq_iff ?_
 have h1 : (m &&& 28799#32) &&& (127#32 ||| 7#32 <<< 12) = m &&& 28799#32 := by rw [BitVec.and_assoc]; rfl
 have hs := and_split (x := x) (c := m) (m := 28799#32) (n := 63#32 <<< 26) (by exact h)
 have hs2 := and_split (x := x) (c := m &&& 28799#32) (m := 127#32) (n := 7#32 <<< 12) h1
 have hf := fld_iff (x := x) (c := m) (o := 7#32) (a := 12) (by decide)
 have hf2 := fld_iff (x := x) (c := m) (o := 63#32) (a := 26) (by decide)
 have a1 : (m &&& 28799#32) &&& 127#32 = m &&& 127#32 := by rw [BitVec.and_assoc]; rfl
 have a2 : (m &&& 28799#32) &&& (7#32 <<< 12) = m &&& (7#32 <<< 12) := by rw [BitVec.and_assoc]; rfl
 have a3 : (m >>> 26) &&& 63#32 = (m >>> 25) >>> 1 := by
  apply BitVec.eq_of_toNat_eq
  rw [show (63#32) = BitVec.ofNat 32 (2 ^ 6 - 1) from rfl, and_low _ _ (by decide), BitVec.toNat_ushiftRight, BitVec.toNat_ushiftRight, BitVec.toNat_ushiftRight, Nat.shiftRight_eq_div_pow, Nat.shiftRight_eq_div_pow, Nat.shiftRight_eq_div_pow]
  have := m.isLt; omega
 rw [e, Bool.and_eq_true, Bool.and_eq_true, beq_iff_eq, beq_iff_eq, beq_iff_eq]
 show (x &&& (28799#32 ||| 63#32 <<< 26)) = m ↔ _
 rw [hs, hf2, a3]
 have : (x &&& 28799#32 = m &&& 28799#32) ↔ (x &&& (127#32 ||| 7#32 <<< 12)) = m &&& 28799#32 := Iff.rfl
 rw [this, hs2, a1, a2, hf]; exact Iff.rfl
theorem rows_mask : ((List.range 66).all fun i => ((rvAt i).mtch &&& (rvAt i).form.mask) == (rvAt i).mtch) = true := by kernel_rfl
theorem rows_E : ((List.range 66).all fun i => (rvAt i).k != .E || (i == 64 || i == 65)) = true := by kernel_rfl
theorem rows_Z : ((List.range 66).all fun i => (rvAt i).k != .Z || i == 0) = true := by kernel_rfl
theorem is_eq (x : BitVec 32) (i : Nat) (h0 : 0 < i) (h : i < 66) : isQ x (fch (rvAt i).k) (rvAt i).name ((rvAt i).mtch &&& 127#32) (((rvAt i).mtch >>> 12) &&& 7#32) ((rvAt i).mtch >>> 25) = rowIs (rvAt i) x := by
 have hm := List.all_eq_true.1 rows_mask i (List.mem_range.2 h)
 have hE := List.all_eq_true.1 rows_E i (List.mem_range.2 h)
 have hZ := List.all_eq_true.1 rows_Z i (List.mem_range.2 h)
 by_cases he : i = 64 ∨ i = 65
 ·rcases he with rfl | rfl
  ·have e : rowIs (rvAt 64) x = (x == 115#32) := by
    show ((4294967295#32 != 0#32) && ((x &&& 4294967295#32) == 115#32)) = _
    rw [show (4294967295#32) = BitVec.allOnes 32 from rfl, BitVec.and_allOnes]; rfl
   rw [e]
   show ((x == (115#32 &&& 127#32)) && true || (x == 1048691#32) && false) = _
   rw [Bool.and_true, Bool.and_false, Bool.or_false]; rfl
  ·have e : rowIs (rvAt 65) x = (x == 1048691#32) := by
    show ((4294967295#32 != 0#32) && ((x &&& 4294967295#32) == 1048691#32)) = _
    rw [show (4294967295#32) = BitVec.allOnes 32 from rfl, BitVec.and_allOnes]; rfl
   rw [e]
   show ((x == (1048691#32 &&& 127#32)) && false || (x == 1048691#32) && true) = _
   rw [Bool.and_false, Bool.and_true, Bool.false_or]
 unfold rowIs
 generalize hr : rvAt i = r at *
 have hk : r.form = formOf r.k := rfl
 rw [hk] at hm ⊢
 have hm' : r.mtch &&& (formOf r.k).mask = r.mtch := by simpa using hm
 cases hkk : r.k <;> rw [hkk] at hm' hE hZ
 ·exact (is_four x _ hm').symm
 ·exact (is_three x _ hm').symm
 ·exact (is_six x _ hm').symm
 ·exact (is_four x _ hm').symm
 ·exact (is_three x _ hm').symm
 ·exact (is_three x _ hm').symm
 ·exact (is_base x _ hm').symm
 ·exact (is_base x _ hm').symm
 ·exfalso
  simp at hE
  omega
 ·exfalso
  simp at hZ
  omega
theorem nat_or_add {X Y k : Nat} (h : X % 2 ^ k = 0) (h2 : Y < 2 ^ k) : X ||| Y = X + Y := by
 have e : X = (X / 2 ^ k) <<< k := by rw [Nat.shiftLeft_eq]; exact (Nat.div_mul_cancel (Nat.dvd_of_mod_eq_zero h)).symm
 rw [e, Nat.shiftLeft_add_eq_or_of_lt h2]
theorem fld_lt (x : BitVec 32) (a b : Nat) (h : b < 32) : (fieldQ x a b).toNat < 2 ^ b := by
 rw [fieldQ_eq, bitsOf_nat _ _ _ h]; exact Nat.mod_lt _ (Nat.two_pow_pos b)
theorem sgn_nat (y : BitVec 64) (b : Nat) (hb : b = 12 ∨ b = 13 ∨ b = 21 ∨ b = 32) (h : y.toNat < 2 ^ b) : signedQ y b = BitVec.sshiftRight (y <<< (64 - b)) (64 - b) := by
 apply BitVec.eq_of_toInt_eq
 rw [BitVec.toInt_sshiftRight, Int.shiftRight_eq_div_pow]
 have e : (y <<< (64 - b)).toNat = y.toNat * 2 ^ (64 - b) := by
  rw [BitVec.toNat_shiftLeft, Nat.shiftLeft_eq]
  rcases hb with rfl | rfl | rfl | rfl <;> omega
 rw [BitVec.toInt_eq_toNat_cond (y <<< (64 - b)), e]
 have c : ∀ s : Bool, (bif s then y - 1#64 <<< b else y).toInt = bif s then (y - 1#64 <<< b).toInt else y.toInt := fun s => by cases s <;> rfl
 unfold signedQ
 rw [c]
 have hy : y.toInt = (y.toNat : Int) := by rw [BitVec.toInt_eq_toNat_cond]; rcases hb with rfl | rfl | rfl | rfl <;> (split <;> omega)
 have h1 : (1#64 <<< (b - 1)).toInt = 2 ^ (b - 1) := by rcases hb with rfl | rfl | rfl | rfl <;> decide
 have h2 : (y - 1#64 <<< b).toNat = (18446744073709551616 - 2 ^ b + y.toNat) % 18446744073709551616 := by rw [BitVec.toNat_sub]; rcases hb with rfl | rfl | rfl | rfl <;> rfl
 have hs : BitVec.sle (1#64 <<< (b - 1)) y = decide ((2 : Int) ^ (b - 1) ≤ (y.toNat : Int)) := by unfold BitVec.sle; rw [h1, hy]
 rw [hs, hy, BitVec.toInt_eq_toNat_cond, h2]
 by_cases hc : (2 : Int) ^ (b - 1) ≤ (y.toNat : Int)
 ·rw [decide_eq_true hc]
  simp only [cond_true]
  rcases hb with rfl | rfl | rfl | rfl <;> (split <;> split <;> omega)
 ·rw [decide_eq_false hc]
  simp only [cond_false]
  rcases hb with rfl | rfl | rfl | rfl <;> (split <;> omega)
end Go.Proofs.S
end
section
namespace Go.Proofs.S
open Go Go.Ux Go.Ux.Mach Go.Proofs Go.Proofs.M Go.Ux.Image
open Go.Proofs.N (doM loadsM)
set_option linter.unusedVariables false
theorem or0 (k : Nat) (y : BitVec 64) : (0#64 <<< k ||| y) = y := by rw [BitVec.zero_shiftLeft, BitVec.zero_or]
theorem or_toNat {n : Nat} {X Y : BitVec n} (k : Nat) (h : X.toNat % 2 ^ k = 0) (h2 : Y.toNat < 2 ^ k) : (X ||| Y).toNat = X.toNat + Y.toNat := by rw [BitVec.toNat_or, nat_or_add h h2]
theorem sl32 (a : BitVec 32) (k : Nat) (h : a.toNat * 2 ^ k < 4294967296) : (a <<< k).toNat = a.toNat * 2 ^ k := by rw [BitVec.toNat_shiftLeft, Nat.shiftLeft_eq, Nat.mod_eq_of_lt h]
theorem sl64 (a : BitVec 64) (k : Nat) (h : a.toNat * 2 ^ k < 18446744073709551616) : (a <<< k).toNat = a.toNat * 2 ^ k := by rw [BitVec.toNat_shiftLeft, Nat.shiftLeft_eq, Nat.mod_eq_of_lt h]
theorem sw64 (a : BitVec 32) : (a.setWidth 64).toNat = a.toNat := by rw [BitVec.toNat_setWidth]; have := a.isLt; omega
theorem num_S (a b : BitVec 32) (ha : a.toNat < 128) (hb : b.toNat < 32) : (a <<< 5 ||| b).setWidth 64 = (a.setWidth 64 <<< 5 ||| b.setWidth 64) <<< 0 ∧ ((a <<< 5 ||| b).setWidth 64).toNat < 4096 := by
 have e1 := sl32 a 5 (by omega)
 have e2 := or_toNat (X := a <<< 5) (Y := b) 5 (by omega) (by omega)
 have e3 := sl64 (a.setWidth 64) 5 (by rw [sw64]; omega)
 rw [sw64] at e3
 have e4 := or_toNat (X := a.setWidth 64 <<< 5) (Y := b.setWidth 64) 5 (by omega) (by rw [sw64]; omega)
 rw [sw64] at e4
 refine ⟨?_, by rw [sw64]; omega⟩
 apply BitVec.eq_of_toNat_eq
 rw [sw64, BitVec.shiftLeft_zero]; omega
theorem num_B (a b c d : BitVec 32) (ha : a.toNat < 2) (hb : b.toNat < 2) (hc : c.toNat < 64) (hd : d.toNat < 16) :
  (a <<< 12 ||| b <<< 11 ||| c <<< 5 ||| d <<< 1).setWidth 64 = ((((a.setWidth 64 <<< 1 ||| b.setWidth 64) <<< 6 ||| c.setWidth 64) <<< 4 ||| d.setWidth 64) <<< 1) ∧ ((a <<< 12 ||| b <<< 11 ||| c <<< 5 ||| d <<< 1).setWidth 64).toNat < 8192 := by
 have a1 := sl32 a 12 (by omega)
 have b1 := sl32 b 11 (by omega)
 have c1 := sl32 c 5 (by omega)
 have d1 := sl32 d 1 (by omega)
 have e1 := or_toNat (X := a <<< 12) (Y := b <<< 11) 12 (by omega) (by omega)
 have e2 := or_toNat (X := a <<< 12 ||| b <<< 11) (Y := c <<< 5) 11 (by omega) (by omega)
 have e3 := or_toNat (X := a <<< 12 ||| b <<< 11 ||| c <<< 5) (Y := d <<< 1) 5 (by omega) (by omega)
 have A := sw64 a; have B := sw64 b; have C := sw64 c; have D := sw64 d
 have f1 := sl64 (a.setWidth 64) 1 (by omega)
 have f2 := or_toNat (X := a.setWidth 64 <<< 1) (Y := b.setWidth 64) 1 (by omega) (by omega)
 have f3 := sl64 (a.setWidth 64 <<< 1 ||| b.setWidth 64) 6 (by omega)
 have f4 := or_toNat (X := (a.setWidth 64 <<< 1 ||| b.setWidth 64) <<< 6) (Y := c.setWidth 64) 6 (by omega) (by omega)
 have f5 := sl64 ((a.setWidth 64 <<< 1 ||| b.setWidth 64) <<< 6 ||| c.setWidth 64) 4 (by omega)
 have f6 := or_toNat (X := ((a.setWidth 64 <<< 1 ||| b.setWidth 64) <<< 6 ||| c.setWidth 64) <<< 4) (Y := d.setWidth 64) 4 (by omega) (by omega)
 have f7 := sl64 (((a.setWidth 64 <<< 1 ||| b.setWidth 64) <<< 6 ||| c.setWidth 64) <<< 4 ||| d.setWidth 64) 1 (by omega)
 have g := sw64 (a <<< 12 ||| b <<< 11 ||| c <<< 5 ||| d <<< 1)
 refine ⟨?_, by omega⟩
 apply BitVec.eq_of_toNat_eq
 omega
theorem num_J (a b c d : BitVec 32) (ha : a.toNat < 2) (hb : b.toNat < 256) (hc : c.toNat < 2) (hd : d.toNat < 1024) :
  (a <<< 20 ||| b <<< 12 ||| c <<< 11 ||| d <<< 1).setWidth 64 = ((((a.setWidth 64 <<< 8 ||| b.setWidth 64) <<< 1 ||| c.setWidth 64) <<< 10 ||| d.setWidth 64) <<< 1) ∧ ((a <<< 20 ||| b <<< 12 ||| c <<< 11 ||| d <<< 1).setWidth 64).toNat < 2097152 := by
 have a1 := sl32 a 20 (by omega)
 have b1 := sl32 b 12 (by omega)
 have c1 := sl32 c 11 (by omega)
 have d1 := sl32 d 1 (by omega)
 have e1 := or_toNat (X := a <<< 20) (Y := b <<< 12) 20 (by omega) (by omega)
 have e2 := or_toNat (X := a <<< 20 ||| b <<< 12) (Y := c <<< 11) 12 (by omega) (by omega)
 have e3 := or_toNat (X := a <<< 20 ||| b <<< 12 ||| c <<< 11) (Y := d <<< 1) 11 (by omega) (by omega)
 have A := sw64 a; have B := sw64 b; have C := sw64 c; have D := sw64 d
 have f1 := sl64 (a.setWidth 64) 8 (by omega)
 have f2 := or_toNat (X := a.setWidth 64 <<< 8) (Y := b.setWidth 64) 8 (by omega) (by omega)
 have f3 := sl64 (a.setWidth 64 <<< 8 ||| b.setWidth 64) 1 (by omega)
 have f4 := or_toNat (X := (a.setWidth 64 <<< 8 ||| b.setWidth 64) <<< 1) (Y := c.setWidth 64) 1 (by omega) (by omega)
 have f5 := sl64 ((a.setWidth 64 <<< 8 ||| b.setWidth 64) <<< 1 ||| c.setWidth 64) 10 (by omega)
 have f6 := or_toNat (X := ((a.setWidth 64 <<< 8 ||| b.setWidth 64) <<< 1 ||| c.setWidth 64) <<< 10) (Y := d.setWidth 64) 10 (by omega) (by omega)
 have f7 := sl64 (((a.setWidth 64 <<< 8 ||| b.setWidth 64) <<< 1 ||| c.setWidth 64) <<< 10 ||| d.setWidth 64) 1 (by omega)
 have g := sw64 (a <<< 20 ||| b <<< 12 ||| c <<< 11 ||| d <<< 1)
 refine ⟨?_, by omega⟩
 apply BitVec.eq_of_toNat_eq
 omega
set_option maxHeartbeats 4000000 in
theorem number_eq (x : BitVec 32) (k : FK) : numberQ x (fch k) = number (formOf k) x := by
 cases k
 ·kernel_rfl
 ·show signedQ ((fieldQ x 20 12).setWidth 64) 12 = BitVec.sshiftRight (((0#64 <<< 12 ||| (fieldQ x 20 12).setWidth 64) <<< 0) <<< (64 - 12)) (64 - 12)
  rw [or0, BitVec.shiftLeft_zero, sgn_nat _ 12 (.inl rfl) (by rw [sw64]; exact fld_lt x 20 12 (by decide))]
 ·show (fieldQ x 20 6).setWidth 64 = (0#64 <<< 6 ||| (fieldQ x 20 6).setWidth 64) <<< 0
  rw [or0, BitVec.shiftLeft_zero]
 ·show (fieldQ x 20 5).setWidth 64 = (0#64 <<< 5 ||| (fieldQ x 20 5).setWidth 64) <<< 0
  rw [or0, BitVec.shiftLeft_zero]
 ·obtain ⟨h1, h2⟩ := num_S (fieldQ x 25 7) (fieldQ x 7 5) (fld_lt x 25 7 (by decide)) (fld_lt x 7 5 (by decide))
  show signedQ ((fieldQ x 25 7 <<< 5 ||| fieldQ x 7 5).setWidth 64) 12 = BitVec.sshiftRight ((((0#64 <<< 7 ||| (fieldQ x 25 7).setWidth 64) <<< 5 ||| (fieldQ x 7 5).setWidth 64) <<< 0) <<< (64 - 12)) (64 - 12)
  rw [or0, ← h1, sgn_nat _ 12 (.inl rfl) h2]
 ·obtain ⟨h1, h2⟩ := num_B (fieldQ x 31 1) (fieldQ x 7 1) (fieldQ x 25 6) (fieldQ x 8 4) (fld_lt x 31 1 (by decide)) (fld_lt x 7 1 (by decide)) (fld_lt x 25 6 (by decide)) (fld_lt x 8 4 (by decide))
  show signedQ _ 13 = BitVec.sshiftRight ((((((0#64 <<< 1 ||| (fieldQ x 31 1).setWidth 64) <<< 1 ||| (fieldQ x 7 1).setWidth 64) <<< 6 ||| (fieldQ x 25 6).setWidth 64) <<< 4 ||| (fieldQ x 8 4).setWidth 64) <<< 1) <<< (64 - 13)) (64 - 13)
  rw [or0, ← h1]
  exact sgn_nat _ 13 (.inr (.inl G)) h2
 ·have e : number (formOf .U) x = BitVec.sshiftRight (((0#64 <<< 20 ||| (fieldQ x 12 20).setWidth 64) <<< 12) <<< (64 - 32)) (64 - 32) := by kernel_rfl
  have h := fld_lt x 12 20 (by decide)
  have h2 : ((fieldQ x 12 20).setWidth 64 <<< 12).toNat < 2 ^ 32 := by rw [sl64 _ 12 (by rw [sw64]; omega), sw64]; omega
  have h3 := sgn_nat ((fieldQ x 12 20).setWidth 64 <<< 12) 32 (.inr (.inr (.inr rfl))) h2
  rw [e, or0, ← h3]; rfl
 ·obtain ⟨h1, h2⟩ := num_J (fieldQ x 31 1) (fieldQ x 12 8) (fieldQ x 20 1) (fieldQ x 21 10) (fld_lt x 31 1 (by decide)) (fld_lt x 12 8 (by decide)) (fld_lt x 20 1 (by decide)) (fld_lt x 21 10 (by decide))
  show signedQ _ 21 = BitVec.sshiftRight ((((((0#64 <<< 1 ||| (fieldQ x 31 1).setWidth 64) <<< 8 ||| (fieldQ x 12 8).setWidth 64) <<< 1 ||| (fieldQ x 20 1).setWidth 64) <<< 10 ||| (fieldQ x 21 10).setWidth 64) <<< 1) <<< (64 - 21)) (64 - 21)
  rw [or0, ← h1]
  exact sgn_nat _ 21 (.inr (.inr (.inl G))) h2
 ·kernel_rfl
 ·kernel_rfl
theorem has_eq (k : FK) : hasQ (fch k) = ((formOf k).rd, (formOf k).rs1, (formOf k).rs2) := by cases k <;> rfl
theorem dec_hit {x : BitVec 32} {i : Nat} (hi : i < 65) (hl : ∀ j, j < i → rowIs (rvAt (j + 1)) x = false) (h : rowIs (rvAt (i + 1)) x = true) : decI x = decodeAt (i + 1) x ∧ decE x = 0 := by
 refine decI_of ?_
 unfold findRow
 rw [List.findIdx?_eq_some_iff_getElem]
 refine ⟨by rw [tableD_length]; omega, ?_, fun j hj => ?_⟩
 ·rw [rvAt_eq _ (by rw [tableD_length]; omega)]; exact h
 ·rw [rvAt_eq j (by rw [tableD_length]; omega)]
  rcases Nat.eq_zero_or_pos j with rfl | h0
  ·unfold rowIs; rw [row_zero]; simp
  ·have := hl (j - 1) (by omega)
   rw [show j - 1 + 1 = j by omega] at this
   rw [this]; decide
theorem dec_miss {x : BitVec 32} (hl : ∀ j, j < 65 → rowIs (rvAt (j + 1)) x = false) : decI x = ⟨0, 0, 0, 0, 0⟩ ∧ decE x = 100 := by
 have : findRow x tableD = none := by
  unfold findRow
  rw [List.findIdx?_eq_none_iff]
  intro r hr
  obtain ⟨j, hj, rfl⟩ := List.getElem_of_mem hr
  rw [rvAt_eq j hj]
  rw [tableD_length] at hj
  rcases Nat.eq_zero_or_pos j with rfl | h0
  ·unfold rowIs; rw [row_zero]; rfl
  ·have := hl (j - 1) (by omega)
   rwa [show j - 1 + 1 = j by omega] at this
 unfold decI decE; rw [this]; exact ⟨rfl, rfl⟩
end Go.Proofs.S
end
section
namespace Go.Proofs.S
open Go Go.Ux Go.Ux.Mach Go.Proofs Go.Proofs.M Go.Ux.Image
open Go.Proofs.N (doM loadsM)
set_option linter.unusedVariables false
theorem signW_nat (v : BitVec 64) : (signW v 32).toInt = if v.toNat % 4294967296 < 2147483648 then ((v.toNat % 4294967296 : Nat) : Int) else ((v.toNat % 4294967296 : Nat) : Int) - 4294967296 := by
 unfold signW
 rw [BitVec.toInt_sshiftRight, Int.shiftRight_eq_div_pow, BitVec.toInt_eq_toNat_cond, BitVec.toNat_shiftLeft, Nat.shiftLeft_eq]
 have := v.isLt
 split <;> split <;> omega
theorem nat_of_int {x : BitVec 64} {z : Int} (h : x.toInt = z) : (x.toNat : Int) = if z < 0 then z + 18446744073709551616 else z := by
 have := x.isLt
 rw [BitVec.toInt_eq_toNat_cond] at h
 split at h <;> split <;> omega
def MemIs (mem : Nat → BitVec 8) (M : MS) : Prop := ∀ k, k < 128 → mem k = if k < 64 then M.d k else M.s (65408 + k)
structure KI (L : List RvInst) (mem : Nat → BitVec 8) (i : Nat) (M : MS) : Prop where
 code : M.code = L.map fun a => (a, true)
 pc : M.pc = 65536#64 + BitVec.ofNat 64 (4 * i)
 n : M.n = 64
 x0 : M.x 0 = 0#64
 x2 : M.x 2 = 8388608#64
 x5 : M.x 5 = 4194304#64
 fin : M.fin = none
 mem : MemIs mem M
theorem writes_of {a : RvInst} (h : (encodeR a).2 = 0) : writesF a = ((formOf (rvAt a.op.toNat).k).rd && !(a.rd == 0#8)) := by
 unfold writesF; rw [h]; rfl
end Go.Proofs.S
end
section
namespace Go.Ux
open Go
theorem ba_size (l : List UInt8) : (⟨l.toArray⟩ : ByteArray).size = l.length := by simp [ByteArray.size]
theorem ba_take (l : List UInt8) (j : Nat) : (⟨l.toArray⟩ : ByteArray).extract 0 j = ⟨(l.take j).toArray⟩ := by
 apply ByteArray.ext
 simp [ByteArray.extract, ByteArray.copySlice]
section
variable {P : Program} {ops : Array Oper} {l : List Oper} {n : Nat} {f : Fr} {w : World} {Q : Exit → Fr → World → Prop}
variable {d : Nat} {ty : TypeId} {pos : String} {aft : Array Edge}
theorem WL.sliceToSt {t j : Nat} {x hi : Operand} {bl : List UInt8} {kd : IntKind} (ht : P.underlying t = some .string) (hx : ev f x = St bl) (hhi : ev f hi = .int kd (j : Int)) (hj : j ≤ bl.length) (hd : decide (d < n) = true)
  (k : WL P ops l n (upd f d (St (bl.take j))) w Q) : WL P ops (⟨some d, .slice t x none (some hi) none, ty, pos, aft, none⟩ :: l) n f w Q := by
 refine WL.val G hd (v := St (bl.take j)) (w' := w) ?_ k
 have h1 : (0 : Int) ≤ (j : Int) ∧ (j : Int) ≤ (bl.length : Int) := by omega
 simp [execOp, hx, hhi, St, Instr.sliceAt, Instr.slice, run_underlying ht, Instr.sliceBounds, Instr.sliceBound, asIntOf, ba_size, hj, Result.andThen, ba_take]
theorem WL.indexSt {t i : Nat} {x y : Operand} {bl : List UInt8} {kd : IntKind} (ht : P.underlying t = some .string) (hx : ev f x = St bl) (hy : ev f y = .int kd (i : Int)) (hi : i < bl.length) (hd : decide (d < n) = true)
  (k : WL P ops l n (upd f d (U8 (bl.getD i 0).toBitVec)) w Q) : WL P ops (⟨some d, .index t x y, ty, pos, aft, none⟩ :: l) n f w Q := by
 refine WL.val G hd (v := U8 (bl.getD i 0).toBitVec) (w' := w) ?_ k
 have e : (⟨bl.toArray⟩ : ByteArray)[i]? = some bl[i] := by
  have : i < (⟨bl.toArray⟩ : ByteArray).size := by rw [ba_size]; exact hi
  rw [getElem?_pos (⟨bl.toArray⟩ : ByteArray) i this]; rfl
 have e2 : bl.getD i 0 = bl[i] := by rw [List.getD_eq_getElem?_getD, List.getElem?_eq_getElem hi]; rfl
 rw [e2]
 simp [execOp, hx, hy, St, Instr.index, run_underlying ht, asIntOf, e, Result.andThen]
end
theorem BinR.addS {P : Program} {t : TypeId} {a b : List UInt8} (h : a.length + b.length ≤ 9223372036854775807) : BinR P .add t (St a) (St b) (St (a ++ b)) := fun x y w => by
 have e : (⟨a.toArray⟩ ++ ⟨b.toArray⟩ : ByteArray) = ⟨(a ++ b).toArray⟩ := by apply ByteArray.ext; simp
 have h2 : ¬ (((a.length + b.length : Nat) : Int) > 9223372036854775807) := by omega
 simp [eqGuard, binOp, St, Op.stringOp, ba_size, e]
 omega
theorem any_len {s : List UInt8} {cs : List (List UInt8)} {k : Nat} (h : (cs.any fun c => s == c) = true) (hl : (cs.all fun c => decide (k ≤ c.length)) = true) : k ≤ s.length := by
 obtain ⟨c, hc, e⟩ := List.any_eq_true.1 h
 have : s = c := by simpa using e
 subst this
 exact of_decide_eq_true (List.all_eq_true.1 hl _ hc)
end Go.Ux
end
section
set_option linter.unusedSimpArgs false
set_option linter.unusedVariables false
namespace Go.Proofs.S
open Go Go.Ux Go.Ux.Mach Go.Proofs
theorem ca84 : callable Tryz.prog 84 = true := by kernel_rfl
theorem ca99 : callable Tryz.prog 99 = true := by kernel_rfl
def immQ (s : List UInt8) : List UInt8 := bif ([[115, 108, 116, 105, 117]].any fun c => s == c) then [115, 108, 116, 117] else bif ([[97, 100, 100, 105], [115, 108, 116, 105], [120, 111, 114, 105], [111, 114, 105], [97, 110, 100, 105], [115, 108, 108, 105], [115, 114, 108, 105], [115, 114, 97, 105]].any fun c => s == c) then (s.take (s.length - 1)) else bif ([[97, 100, 100, 105, 119], [115, 108, 108, 105, 119], [115, 114, 108, 105, 119], [115, 114, 97, 105, 119]].any fun c => s == c) then (s.take 3 ++ [119]) else []
theorem imm_q (s : List UInt8) (w : World) (hs : s.length ≤ 1000) : CallsR Tryz.prog 81 #[St s] w (fun v w' => v = St (immQ s) ∧ Ext w w') := by
 refine callsR_of Tryz.func81 G G G ?_
 refine Sr (An (St []) G (Ni (Sq (Sr (Mv (St s) G (Ni (Bk ?_)))))))
 refine Sq ?_
 refine WC.orS (x := 3) (d := 4) (s := s) (cs := [[115, 108, 116, 105, 117]]) (ts := [5]) (by kernel_rfl) G (fun g1 => ?_)
 refine WC.cond G (fun hc4 => ?_) (fun hc4 => ?_)
 ·refine Sr (An (St [115, 108, 116, 117]) G (Ni (WC.ret ?_)))
  have hfin : immQ s = [115, 108, 116, 117] := by unfold immQ; rw [hc4]; try rfl
  exact ⟨_, Res.one (v := St [115, 108, 116, 117]) G G, congrArg St hfin.symm, Mod.refl _ _⟩
 ·refine Sq ?_
  refine WC.orS (x := 3) (d := 6) (s := s) (cs := [[97, 100, 100, 105], [115, 108, 116, 105], [120, 111, 114, 105], [111, 114, 105], [97, 110, 100, 105], [115, 108, 108, 105], [115, 114, 108, 105], [115, 114, 97, 105]]) (ts := [7, 8, 9, 10, 11, 12, 13, 14]) (by kernel_rfl) G (fun g2 => ?_)
  refine WC.cond G (fun hc6 => ?_) (fun hc6 => ?_)
  ·have hl := any_len (k := 1) hc6 (by decide)
   refine Sr (Mv (St s) G (Mv (St s) G (WL.lenSt Tryz.underlying9 G G (Bn G G (BinR.subN (b := 1) (by omega) (by omega)) (WL.sliceToSt (j := s.length - 1) Tryz.underlying9 G G (by omega) G (An (St (s.take (s.length - 1))) G (Ni (WC.ret ?_))))))))
   have hfin : immQ s = (s.take (s.length - 1)) := by unfold immQ; rw [hc4, hc6]; try rfl
   exact ⟨_, Res.one (v := St (s.take (s.length - 1))) G G, congrArg St hfin.symm, Mod.refl _ _⟩
  ·refine Sq ?_
   refine WC.orS (x := 3) (d := 20) (s := s) (cs := [[97, 100, 100, 105, 119], [115, 108, 108, 105, 119], [115, 114, 108, 105, 119], [115, 114, 97, 105, 119]]) (ts := [21, 22, 23, 24]) (by kernel_rfl) G (fun g3 => ?_)
   refine WC.cond G (fun hc20 => ?_) (fun hc20 => ?_)
   ·have hl := any_len (k := 3) hc20 (by decide)
    refine Sr (Mv (St s) G (WL.sliceToSt (j := 3) Tryz.underlying9 G G hl G (Bn G G (BinR.addS (by rw [List.length_take]; simp; omega)) (An (St (s.take 3 ++ [119])) G (Ni (WC.ret ?_))))))
    have hfin : immQ s = (s.take 3 ++ [119]) := by unfold immQ; rw [hc4, hc6, hc20]; try rfl
    exact ⟨_, Res.one (v := St (s.take 3 ++ [119])) G G, congrArg St hfin.symm, Mod.refl _ _⟩
   ·refine WC.skip (Sr (An (St []) G (Ni (WC.ret ?_))))
    have hfin : immQ s = [] := by unfold immQ; rw [hc4, hc6, hc20]; try rfl
    exact ⟨_, Res.one (v := St []) G G, congrArg St hfin.symm, Mod.refl _ _⟩
def jumpsQ (s : List UInt8) (a b : BitVec 64) : Bool := bif ([[98, 101, 113]].any fun c => s == c) then (a == b) else bif ([[98, 110, 101]].any fun c => s == c) then (a != b) else bif ([[98, 108, 116]].any fun c => s == c) then BitVec.slt a b else bif ([[98, 103, 101]].any fun c => s == c) then BitVec.sle b a else bif ([[98, 108, 116, 117]].any fun c => s == c) then BitVec.ult a b else BitVec.ule b a
theorem jumps_q (s : List UInt8) (a b : BitVec 64) (w : World) : CallsR Tryz.prog 82 #[St s, U64 a, U64 b] w (fun v w' => v = .bool (jumpsQ s a b) ∧ Ext w w') := by
 refine callsR_of Tryz.func82 G G G ?_
 refine Sr (An (.bool false) G (Ni (Sq (Sr (Mv (St s) G (Ni (Bk ?_)))))))
 refine Sq ?_
 refine WC.orS (x := 7) (d := 8) (s := s) (cs := [[98, 101, 113]]) (ts := [9]) (by kernel_rfl) G (fun g1 => ?_)
 refine WC.cond G (fun hc8 => ?_) (fun hc8 => ?_)
 ·refine Sr (Mv (U64 a) G (Mv (U64 b) G (Bn G G BinR.eqlU64 (An (.bool ((a == b))) G (Ni (WC.ret ?_))))))
  have hfin : jumpsQ s a b = (a == b) := by unfold jumpsQ; rw [hc8]; try rfl
  exact ⟨_, Res.one (v := .bool ((a == b))) G G, congrArg Value.bool hfin.symm, Mod.refl _ _⟩
 ·refine Sq ?_
  refine WC.orS (x := 7) (d := 13) (s := s) (cs := [[98, 110, 101]]) (ts := [14]) (by kernel_rfl) G (fun g2 => ?_)
  refine WC.cond G (fun hc13 => ?_) (fun hc13 => ?_)
  ·refine Sr (Mv (U64 a) G (Mv (U64 b) G (Bn G G BinR.neqU64 (An (.bool ((a != b))) G (Ni (WC.ret ?_))))))
   have hfin : jumpsQ s a b = (a != b) := by unfold jumpsQ; rw [hc8, hc13]; try rfl
   exact ⟨_, Res.one (v := .bool ((a != b))) G G, congrArg Value.bool hfin.symm, Mod.refl _ _⟩
  ·refine Sq ?_
   refine WC.orS (x := 7) (d := 18) (s := s) (cs := [[98, 108, 116]]) (ts := [19]) (by kernel_rfl) G (fun g3 => ?_)
   refine WC.cond G (fun hc18 => ?_) (fun hc18 => ?_)
   ·refine Sr (Mv (U64 a) G (Cv G (ConvR.u64i64 Tryz.underlying39 Tryz.underlying2) (Mv (U64 b) G (Cv G (ConvR.u64i64 Tryz.underlying39 Tryz.underlying2) (Bn G G BinR.lss64 (An (.bool (BitVec.slt a b)) G (Ni (WC.ret ?_))))))))
    have hfin : jumpsQ s a b = BitVec.slt a b := by unfold jumpsQ; rw [hc8, hc13, hc18]; try rfl
    exact ⟨_, Res.one (v := .bool (BitVec.slt a b)) G G, congrArg Value.bool hfin.symm, Mod.refl _ _⟩
   ·refine Sq ?_
    refine WC.orS (x := 7) (d := 25) (s := s) (cs := [[98, 103, 101]]) (ts := [26]) (by kernel_rfl) G (fun g4 => ?_)
    refine WC.cond G (fun hc25 => ?_) (fun hc25 => ?_)
    ·refine Sr (Mv (U64 a) G (Cv G (ConvR.u64i64 Tryz.underlying39 Tryz.underlying2) (Mv (U64 b) G (Cv G (ConvR.u64i64 Tryz.underlying39 Tryz.underlying2) (Bn G G BinR.geq64 (An (.bool (BitVec.sle b a)) G (Ni (WC.ret ?_))))))))
     have hfin : jumpsQ s a b = BitVec.sle b a := by unfold jumpsQ; rw [hc8, hc13, hc18, hc25]; try rfl
     exact ⟨_, Res.one (v := .bool (BitVec.sle b a)) G G, congrArg Value.bool hfin.symm, Mod.refl _ _⟩
    ·refine Sq ?_
     refine WC.orS (x := 7) (d := 32) (s := s) (cs := [[98, 108, 116, 117]]) (ts := [33]) (by kernel_rfl) G (fun g5 => ?_)
     refine WC.cond G (fun hc32 => ?_) (fun hc32 => ?_)
     ·refine Sr (Mv (U64 a) G (Mv (U64 b) G (Bn G G BinR.lssU64 (An (.bool (BitVec.ult a b)) G (Ni (WC.ret ?_))))))
      have hfin : jumpsQ s a b = BitVec.ult a b := by unfold jumpsQ; rw [hc8, hc13, hc18, hc25, hc32]; try rfl
      exact ⟨_, Res.one (v := .bool (BitVec.ult a b)) G G, congrArg Value.bool hfin.symm, Mod.refl _ _⟩
     ·refine WC.skip (Sr (Mv (U64 a) G (Mv (U64 b) G (Bn G G BinR.geqU64 (An (.bool (BitVec.ule b a)) G (Ni (WC.ret ?_)))))))
      have hfin : jumpsQ s a b = BitVec.ule b a := by unfold jumpsQ; rw [hc8, hc13, hc18, hc25, hc32]; try rfl
      exact ⟨_, Res.one (v := .bool (BitVec.ule b a)) G G, congrArg Value.bool hfin.symm, Mod.refl _ _⟩
theorem half_eq (x : BitVec 64) : halfQ x = signW x 32 := by
 apply BitVec.eq_of_toInt_eq
 rw [signW_nat]
 unfold halfQ
 rw [BitVec.toInt_signExtend_of_le (by decide), BitVec.toInt_eq_toNat_cond, BitVec.toNat_setWidth]
 split <;> split <;> omega
theorem rem32 (b : BitVec 64) : b % 32#64 = b &&& 31#64 := by
 apply BitVec.eq_of_toNat_eq
 rw [BitVec.toNat_umod, BitVec.toNat_and]
 exact (Nat.and_two_pow_sub_one_eq_mod b.toNat 5).symm
theorem rem32_sign (b : BitVec 64) : b % 32#64 = signW (b &&& 31#64) 32 := by
 have h : (b % 32#64).toNat < 32 := by rw [BitVec.toNat_umod]; exact Nat.mod_lt _ (by decide)
 rw [← rem32]
 apply BitVec.eq_of_toInt_eq
 rw [signW_nat, BitVec.toInt_eq_toNat_cond]
 split <;> split <;> omega
theorem rem32_low (b : BitVec 64) : b % 32#64 = (b &&& 31#64) &&& 4294967295#64 := by
 have h : (b % 32#64).toNat < 32 := by rw [BitVec.toNat_umod]; exact Nat.mod_lt _ (by decide)
 rw [← rem32]
 apply BitVec.eq_of_toNat_eq
 rw [show (4294967295#64) = BitVec.ofNat 64 (2 ^ 32 - 1) from rfl, and_low _ _ (by decide)]; omega
def wordQ (s : List UInt8) (a b : BitVec 64) : BitVec 64 :=
 bif ([[115, 114, 108, 119], [100, 105, 118, 117, 119], [114, 101, 109, 117, 119]].any fun c => s == c) then (if (s == [115, 114, 108, 119]) = true then signW (arithQ [115, 114, 108] (a &&& 4294967295#64) ((b &&& 31#64) &&& 4294967295#64)) 32 else signW (arithQ (s.take 4) (a &&& 4294967295#64) (b &&& 4294967295#64)) 32)
 else bif ([[115, 108, 108, 119], [115, 114, 97, 119]].any fun c => s == c) then signW (arithQ (s.take 3) (signW a 32) (signW (b &&& 31#64) 32)) 32 else signW (arithQ (s.take 3) (signW a 32) (signW b 32)) 32
theorem word_q (s : List UInt8) (a b : BitVec 64) (w : World) (h3 : 3 ≤ s.length) : CallsR Tryz.prog 83 #[St s, U64 a, U64 b] w (fun v w' => v = U64 (wordQ s a b) ∧ Ext w w') := by
 refine callsR_of Tryz.func83 G G G ?_
 refine Sr (An (U64 (0#64)) G (Ni (Sq (Sr (Mv (St s) G (Ni (Bk ?_)))))))
 refine Sq ?_
 refine WC.orS (x := 7) (d := 8) (s := s) (cs := [[115, 114, 108, 119], [100, 105, 118, 117, 119], [114, 101, 109, 117, 119]]) (ts := [9, 10, 11]) (by kernel_rfl) G (fun g1 => ?_)
 refine WC.cond G (fun hc8 => ?_) (fun hc8 => ?_)
 ·have hl := any_len (k := 4) hc8 (by decide)
  refine Sr (Mv (U64 a) G (Bn (vy := U64 (4294967295#64)) G G BinR.andU64 (An (U64 ((a &&& 4294967295#64))) G (Ni (Sq (Sr (Mv (St s) G ?_)))))))
  refine Bn (vy := St [115, 114, 108, 119]) G G BinR.eqlS (Ni ?_)
  refine WC.cond G (fun hc15 => ?_) (fun hc15 => ?_)
  ·refine Sr (Mv (U64 ((a &&& 4294967295#64))) G (Mv (U64 b) G (Bn (vy := U64 (32#64)) G G ((rem32_low b) ▸ BinR.remU64 (by decide)) (WL.call ca84 G G (arith_q [115, 114, 108] ((a &&& 4294967295#64)) (((b &&& 31#64) &&& 4294967295#64)) _) ?_))))
   rintro _ wc19 ⟨rfl, ec19⟩
   have E2 : Ext w wc19 := ec19
   refine WL.call ca99 G G (half_q ((arithQ [115, 114, 108] ((a &&& 4294967295#64)) (((b &&& 31#64) &&& 4294967295#64)))) _) ?_
   rintro _ wc20 ⟨rfl, ec20⟩
   rw [half_eq]
   have E3 := Mt E2 ec20
   refine An (U64 ((signW ((arithQ [115, 114, 108] ((a &&& 4294967295#64)) (((b &&& 31#64) &&& 4294967295#64)))) 32))) G (Ni (WC.ret ?_))
   have hfin : wordQ s a b = (signW ((arithQ [115, 114, 108] ((a &&& 4294967295#64)) (((b &&& 31#64) &&& 4294967295#64)))) 32) := by
    unfold wordQ; rw [hc8]
    show (if (s == [115, 114, 108, 119]) = true then _ else _) = _
    rw [hc15]; rfl
   exact ⟨_, Res.one (v := U64 ((signW ((arithQ [115, 114, 108] ((a &&& 4294967295#64)) (((b &&& 31#64) &&& 4294967295#64)))) 32))) G G, congrArg U64 hfin.symm, E3⟩
  ·refine WC.skip (Sr (Mv (St s) G (WL.sliceToSt (j := 4) Tryz.underlying9 G G hl G (Mv (U64 ((a &&& 4294967295#64))) G (Mv (U64 b) G (Bn (vy := U64 (4294967295#64)) G G BinR.andU64 (WL.call ca84 G G (arith_q (s.take 4) ((a &&& 4294967295#64)) ((b &&& 4294967295#64)) _) ?_)))))))
   rintro _ wc26 ⟨rfl, ec26⟩
   have E4 : Ext w wc26 := ec26
   refine WL.call ca99 G G (half_q ((arithQ (s.take 4) ((a &&& 4294967295#64)) ((b &&& 4294967295#64)))) _) ?_
   rintro _ wc27 ⟨rfl, ec27⟩
   rw [half_eq]
   have E5 := Mt E4 ec27
   refine An (U64 ((signW ((arithQ (s.take 4) ((a &&& 4294967295#64)) ((b &&& 4294967295#64)))) 32))) G (Ni (WC.ret ?_))
   have hfin : wordQ s a b = (signW ((arithQ (s.take 4) ((a &&& 4294967295#64)) ((b &&& 4294967295#64)))) 32) := by
    unfold wordQ; rw [hc8]
    show (if (s == [115, 114, 108, 119]) = true then _ else _) = _
    rw [hc15]; rfl
   exact ⟨_, Res.one (v := U64 ((signW ((arithQ (s.take 4) ((a &&& 4294967295#64)) ((b &&& 4294967295#64)))) 32))) G G, congrArg U64 hfin.symm, E5⟩
 ·refine Sq ?_
  refine WC.orS (x := 7) (d := 28) (s := s) (cs := [[115, 108, 108, 119], [115, 114, 97, 119]]) (ts := [29, 30]) (by kernel_rfl) G (fun g6 => ?_)
  refine WC.cond G (fun hc28 => ?_) (fun hc28 => ?_)
  ·refine Sq (WC.draw (fun w_ => Ext w w_) 9 G mixed ?_)
   intro wd_11 ed_11
   have R7 : Ext w wd_11 := ed_11
   have E8 : Ext w wd_11 := ed_11
   refine Tk 0 (St s) G G (fun _ _ => Mv _ G Ok) R7 (Tk 1 (St (s.take 3)) G G (fun _ _ => WL.sliceToSt (j := 3) Tryz.underlying9 G G h3 G Ok) R7 (Tk 2 (U64 a) G G (fun _ _ => Mv _ G Ok) R7 (Tk 4 (U64 b) G G (fun _ _ => Mv _ G Ok) R7 (Tk 5 (U64 ((signW (b &&& 31#64) 32))) G G (fun _ _ => Bn (vy := U64 (32#64)) G G ((rem32_sign b) ▸ BinR.remU64 (by decide)) Ok) R7 (WA.one (i := 3) (m' := 63) (by kernel_rfl) G G (WL.call ca99 G G (half_q a _) ?_))))))
   rintro _ wc34 ⟨rfl, ec34⟩
   rw [half_eq]
   have R14 := Mt R7 ec34
   have E15 := Mt E8 ec34
   refine WL.behind R14 (WA.one (i := 6) (m' := 127) (by kernel_rfl) G G (WL.call ca84 G G (arith_q (s.take 3) (signW a 32) ((signW (b &&& 31#64) 32)) _) ?_))
   rintro _ wc37 ⟨rfl, ec37⟩
   have R16 := Mt R14 ec37
   have E17 := Mt E15 ec37
   refine WL.behind R16 (WA.one (i := 7) (m' := 255) (by kernel_rfl) G G (WL.call ca99 G G (half_q ((arithQ (s.take 3) (signW a 32) ((signW (b &&& 31#64) 32)))) _) ?_))
   rintro _ wc38 ⟨rfl, ec38⟩
   rw [half_eq]
   have R18 := Mt R16 ec38
   have E19 := Mt E17 ec38
   refine WL.behind R18 (Tk 8 (U64 ((signW ((arithQ (s.take 3) (signW a 32) ((signW (b &&& 31#64) 32)))) 32))) G G (fun _ _ => An _ G Ok) R18 (WA.done (by kernel_rfl) (WC.ret ?_)))
   have hfin : wordQ s a b = (signW ((arithQ (s.take 3) (signW a 32) ((signW (b &&& 31#64) 32)))) 32) := by unfold wordQ; rw [hc8, hc28]; try rfl
   exact ⟨_, Res.one (v := U64 ((signW ((arithQ (s.take 3) (signW a 32) ((signW (b &&& 31#64) 32)))) 32))) G G, congrArg U64 hfin.symm, E19⟩
  ·refine WC.skip (Sq (WC.draw (fun w_ => Ext w w_) 9 G mixed ?_))
   intro wd_12 ed_12
   have R21 : Ext w wd_12 := ed_12
   have E22 : Ext w wd_12 := ed_12
   refine Tk 0 (St s) G G (fun _ _ => Mv _ G Ok) R21 (Tk 1 (St (s.take 3)) G G (fun _ _ => WL.sliceToSt (j := 3) Tryz.underlying9 G G h3 G Ok) R21 (Tk 2 (U64 a) G G (fun _ _ => Mv _ G Ok) R21 (Tk 4 (U64 b) G G (fun _ _ => Mv _ G Ok) R21 (WA.one (i := 3) (m' := 31) (by kernel_rfl) G G (WL.call ca99 G G (half_q a _) ?_)))))
   rintro _ wc42 ⟨rfl, ec42⟩
   rw [half_eq]
   have R27 := Mt R21 ec42
   have E28 := Mt E22 ec42
   refine WL.behind R27 (WA.one (i := 5) (m' := 63) (by kernel_rfl) G G (WL.call ca99 G G (half_q b _) ?_))
   rintro _ wc44 ⟨rfl, ec44⟩
   rw [half_eq]
   have R29 := Mt R27 ec44
   have E30 := Mt E28 ec44
   refine WL.behind R29 (WA.one (i := 6) (m' := 127) (by kernel_rfl) G G (WL.call ca84 G G (arith_q (s.take 3) (signW a 32) (signW b 32) _) ?_))
   rintro _ wc45 ⟨rfl, ec45⟩
   have R31 := Mt R29 ec45
   have E32 := Mt E30 ec45
   refine WL.behind R31 (WA.one (i := 7) (m' := 255) (by kernel_rfl) G G (WL.call ca99 G G (half_q ((arithQ (s.take 3) (signW a 32) (signW b 32))) _) ?_))
   rintro _ wc46 ⟨rfl, ec46⟩
   rw [half_eq]
   have R33 := Mt R31 ec46
   have E34 := Mt E32 ec46
   refine WL.behind R33 (Tk 8 (U64 ((signW ((arithQ (s.take 3) (signW a 32) (signW b 32))) 32))) G G (fun _ _ => An _ G Ok) R33 (WA.done (by kernel_rfl) (WC.ret ?_)))
   have hfin : wordQ s a b = (signW ((arithQ (s.take 3) (signW a 32) (signW b 32))) 32) := by unfold wordQ; rw [hc8, hc28]; try rfl
   exact ⟨_, Res.one (v := U64 ((signW ((arithQ (s.take 3) (signW a 32) (signW b 32))) 32))) G G, congrArg U64 hfin.symm, E34⟩
theorem wide_q (x : BitVec 64) (z : Nat) (w : World) (h : z ≤ 8) : CallsR Tryz.prog 44 #[U64 x, IN z] w (fun v w' => v = U64 (signW x (8 * z)) ∧ Ext w w') := by
 refine callsR_of Tryz.func44 G G G ?_
 refine Sr (An (U64 (0#64)) G (Ni (Sr (Mv (IN z) G (Bn G G (BinR.mulN (a := 8) (b := z) (by omega)) (Bn G G (BinR.subN (a := 64) (b := 8 * z) (by omega) (by omega)) (An (IN ((64 - 8 * z))) G ?_)))))))
 refine Ni (Sr (Mv (U64 x) G (Mv (IN ((64 - 8 * z))) G (Bn G G BinR.shlU64 (Cv G (ConvR.u64i64 Tryz.underlying39 Tryz.underlying2) (Mv (IN ((64 - 8 * z))) G (Bn G G BinR.shr64 (Cv G (ConvR.i64u64 Tryz.underlying2 Tryz.underlying39) ?_))))))))
 refine An (U64 ((BitVec.sshiftRight ((x <<< ((64 - 8 * z)))) ((64 - 8 * z))))) G (Ni (WC.ret ?_))
 exact ⟨_, Res.one (v := U64 ((BitVec.sshiftRight ((x <<< ((64 - 8 * z)))) ((64 - 8 * z))))) G G, G, Mod.refl _ _⟩
end Go.Proofs.S
end
section
set_option linter.unusedSimpArgs false
set_option linter.unusedVariables false
namespace Go.Proofs.S
open Go Go.Ux Go.Ux.Mach Go.Proofs
theorem ag163 : isAggT Tryz.prog 163 = some true := by kernel_rfl
theorem sz163 : sizeT Tryz.prog 163 = some 5 := by kernel_rfl
theorem zt163 : zeroT Tryz.prog 163 = some #[.int .u8 0, .string ⟨#[]⟩, .int .u32 0, .int .u32 0, .int .u32 0] := by kernel_rfl
theorem ca75 : callable Tryz.prog 75 = true := by kernel_rfl
theorem bld80_14  : ∀ w : World, (Instr.build 163 #[]).run Tryz.prog w = .ok (.agg #[.int .u8 0, St [], .int .u32 0, .int .u32 0, .int .u32 0]) w := fun _ => by kernel_rfl
theorem el159 : elemT Tryz.prog 159 = some 163 := by kernel_rfl
theorem ca80 : callable Tryz.prog 80 = true := by kernel_rfl
theorem row_one (i : Nat) : ((Value.agg (rowC i).toArray).cells.toList.all fun u => u.oneCell') = true := rfl
theorem names_len : ((List.range 66).all fun i => decide ((rvAt i).name.length ≤ 6)) = true := by kernel_rfl
theorem name_len {i : Nat} (h : i < 66) : (rvAt i).name.length ≤ 6 := of_decide_eq_true (List.all_eq_true.1 names_len i (List.mem_range.2 h))
theorem rows_q (w : World) : CallsR Tryz.prog 75 #[] w (fun v w' => ∃ b, v = .slice (some ⟨b, 0, none⟩) 65 65 ∧ Blk w' b rowsC 163 ∧ w.heap.size ≤ b ∧ Ext w w') := by
 refine callsR_of Tryz.func75 G G G ?_
 refine Sr (An (.slice none 0 0) G (Ni (Sr (WL.build (v := rowQ 1) G (fun _ => by kernel_rfl) G (WL.build (v := rowQ 2) G (fun _ => by kernel_rfl) G (WL.build (v := rowQ 3) G (fun _ => by kernel_rfl) G (WL.build (v := rowQ 4) G (fun _ => by kernel_rfl) G ?_)))))))
 refine WL.build (v := rowQ 5) G (fun _ => by kernel_rfl) G (WL.build (v := rowQ 6) G (fun _ => by kernel_rfl) G (WL.build (v := rowQ 7) G (fun _ => by kernel_rfl) G (WL.build (v := rowQ 8) G (fun _ => by kernel_rfl) G (WL.build (v := rowQ 9) G (fun _ => by kernel_rfl) G (WL.build (v := rowQ 10) G (fun _ => by kernel_rfl) G (WL.build (v := rowQ 11) G (fun _ => by kernel_rfl) G (WL.build (v := rowQ 12) G (fun _ => by kernel_rfl) G (WL.build (v := rowQ 13) G (fun _ => by kernel_rfl) G (WL.build (v := rowQ 14) G (fun _ => by kernel_rfl) G ?_)))))))))
 refine WL.build (v := rowQ 15) G (fun _ => by kernel_rfl) G (WL.build (v := rowQ 16) G (fun _ => by kernel_rfl) G (WL.build (v := rowQ 17) G (fun _ => by kernel_rfl) G (WL.build (v := rowQ 18) G (fun _ => by kernel_rfl) G (WL.build (v := rowQ 19) G (fun _ => by kernel_rfl) G (WL.build (v := rowQ 20) G (fun _ => by kernel_rfl) G (WL.build (v := rowQ 21) G (fun _ => by kernel_rfl) G (WL.build (v := rowQ 22) G (fun _ => by kernel_rfl) G (WL.build (v := rowQ 23) G (fun _ => by kernel_rfl) G (WL.build (v := rowQ 24) G (fun _ => by kernel_rfl) G ?_)))))))))
 refine WL.build (v := rowQ 25) G (fun _ => by kernel_rfl) G (WL.build (v := rowQ 26) G (fun _ => by kernel_rfl) G (WL.build (v := rowQ 27) G (fun _ => by kernel_rfl) G (WL.build (v := rowQ 28) G (fun _ => by kernel_rfl) G (WL.build (v := rowQ 29) G (fun _ => by kernel_rfl) G (WL.build (v := rowQ 30) G (fun _ => by kernel_rfl) G (WL.build (v := rowQ 31) G (fun _ => by kernel_rfl) G (WL.build (v := rowQ 32) G (fun _ => by kernel_rfl) G (WL.build (v := rowQ 33) G (fun _ => by kernel_rfl) G (WL.build (v := rowQ 34) G (fun _ => by kernel_rfl) G ?_)))))))))
 refine WL.build (v := rowQ 35) G (fun _ => by kernel_rfl) G (WL.build (v := rowQ 36) G (fun _ => by kernel_rfl) G (WL.build (v := rowQ 37) G (fun _ => by kernel_rfl) G (WL.build (v := rowQ 38) G (fun _ => by kernel_rfl) G (WL.build (v := rowQ 39) G (fun _ => by kernel_rfl) G (WL.build (v := rowQ 40) G (fun _ => by kernel_rfl) G (WL.build (v := rowQ 41) G (fun _ => by kernel_rfl) G (WL.build (v := rowQ 42) G (fun _ => by kernel_rfl) G (WL.build (v := rowQ 43) G (fun _ => by kernel_rfl) G (WL.build (v := rowQ 44) G (fun _ => by kernel_rfl) G ?_)))))))))
 refine WL.build (v := rowQ 45) G (fun _ => by kernel_rfl) G (WL.build (v := rowQ 46) G (fun _ => by kernel_rfl) G (WL.build (v := rowQ 47) G (fun _ => by kernel_rfl) G (WL.build (v := rowQ 48) G (fun _ => by kernel_rfl) G (WL.build (v := rowQ 49) G (fun _ => by kernel_rfl) G (WL.build (v := rowQ 50) G (fun _ => by kernel_rfl) G (WL.build (v := rowQ 51) G (fun _ => by kernel_rfl) G (WL.build (v := rowQ 52) G (fun _ => by kernel_rfl) G (WL.build (v := rowQ 53) G (fun _ => by kernel_rfl) G (WL.build (v := rowQ 54) G (fun _ => by kernel_rfl) G ?_)))))))))
 refine WL.build (v := rowQ 55) G (fun _ => by kernel_rfl) G (WL.build (v := rowQ 56) G (fun _ => by kernel_rfl) G (WL.build (v := rowQ 57) G (fun _ => by kernel_rfl) G (WL.build (v := rowQ 58) G (fun _ => by kernel_rfl) G (WL.build (v := rowQ 59) G (fun _ => by kernel_rfl) G (WL.build (v := rowQ 60) G (fun _ => by kernel_rfl) G (WL.build (v := rowQ 61) G (fun _ => by kernel_rfl) G (WL.build (v := rowQ 62) G (fun _ => by kernel_rfl) G (WL.build (v := rowQ 63) G (fun _ => by kernel_rfl) G (WL.build (v := rowQ 64) G (fun _ => by kernel_rfl) G ?_)))))))))
 refine WL.build (v := rowQ 65) rfl (fun _ => by kernel_rfl) rfl (WL.buildSlice rfl (show ∀ w : World, (Instr.buildSlice 159 65 _).run Tryz.prog w = .ok (.slice (some ⟨w.heap.size, 0, none⟩) 65 65) (w.alloc (.cells rowsC 163)) from fun _ => by kernel_rfl) rfl ?_)
 intro b w1 n1
 have E1 : Ext w w1 := n1.ext
 refine An (.slice (some ⟨b, 0, none⟩) 65 65) G (Ni (WC.ret ?_))
 exact ⟨_, Res.one (v := .slice (some ⟨b, 0, none⟩) 65 65) rfl rfl, b, rfl, n1.blk, by have := n1.num; omega, E1⟩
theorem row_0 (w : World) : CallsR Tryz.prog 80 #[U8 (0#8)] w (fun v w' => v = rowQ 0 ∧ Ext w w') := by
 refine callsR_of Tryz.func80 G G G ?_
 refine Sr (WL.alloc zt163 G ?_)
 intro b2 w2 n2
 have E1 : Ext w w2 := n2.ext
 refine Ni (Sr (WL.call ca75 G G (rows_q _) ?_))
 rintro _ wR ⟨bR, rfl, hR, zR, eR⟩
 have ne_b2 : b2 ≠ bR := by have h1 := n2.blk.lt; omega
 have E2 := Mt E1 eR
 refine An (.slice (some ⟨bR, 0, none⟩) 65 65) G (Ni (Sq (Sr (Mv (U8 (0#8)) G (Bn (v := .bool true) (vy := U8 (1#8)) G G (BinR.toB BinR.lssU8 G) (Mv (.bool true) G (Gf true G (Gf true G ?_))))))))
 refine Gf true G (Gf true G (Gf true G (Pk (b := true) G G (Ni (Ct G (Sr (WL.build (v := .agg #[.int .u8 0, St [], .int .u32 0, .int .u32 0, .int .u32 0]) (vs := []) G bld80_14 G ?_)))))))
 have B3 := n2.blk.ext eR
 refine WL.storeS (v := .agg #[.int .u8 0, St [], .int .u32 0, .int .u32 0, .int .u32 0]) G G B3 G sz163 G G ?_
 intro ws4 ms4 bs4 zs4
 have E4 : Ext w ws4 := Mod.own (Mod.refl _ _) n2 E2 ms4
 refine Ni (WC.ret ?_)
 exact ⟨_, Res.cell G G (loadVar_agg [U8 (0#8), St [], U32 (0#32), U32 (0#32), U32 (0#32)] ag163 sz163 G (bs4.sub (o := 0) G)), (by kernel_rfl), E4⟩
theorem row_q (op : BitVec 8) (w : World) (h1 : 1 ≤ op.toNat) (h2 : op.toNat < 66) : CallsR Tryz.prog 80 #[U8 op] w (fun v w' => v = rowQ op.toNat ∧ Ext w w') := by
 have e1 : (op - 1#8).toNat = op.toNat - 1 := by rw [BitVec.toNat_sub]; show (2 ^ 8 - 1 + op.toNat) % 2 ^ 8 = _; omega
 have e2 : (op - 1#8).toNat + 1 = op.toNat := by omega
 have hi : (op - 1#8).toNat < 65 := by omega
 have hu : BitVec.ult op 1#8 = false := by unfold BitVec.ult; exact decide_eq_false (by show ¬ op.toNat < 1; omega)
 refine callsR_of Tryz.func80 G G G ?_
 refine Sr (WL.alloc zt163 G ?_)
 intro b2 w2 n2
 have E1 : Ext w w2 := n2.ext
 refine Ni (Sr (WL.call ca75 G G (rows_q _) ?_))
 rintro _ wR ⟨bR, rfl, hR, zR, eR⟩
 have ne_b2 : b2 ≠ bR := by have h1 := n2.blk.lt; omega
 have E2 := Mt E1 eR
 refine An (.slice (some ⟨bR, 0, none⟩) 65 65) G (Ni (Sq (Sr (Mv (U8 op) G (Bn (v := .bool false) (vy := U8 (1#8)) G G (BinR.toB BinR.lssU8 hu) (Mv (.bool false) G (Gt G (Mv (U8 op) G ?_))))))))
 refine Gt G (Cv G (ConvR.u8n Tryz.underlying5 Tryz.underlying3) (Gt G (Mv (.slice (some ⟨bR, 0, none⟩) 65 65) G (Gt G (WL.lenS el159 G G (Gt G (Bn (v := .bool false) G G (BinR.toB BinR.gtr (decide_eq_false (by omega))) (Pk (b := false) G G (Ni ?_)))))))))
 refine Cf G (WC.skip (Sr (Mv (.slice (some ⟨bR, 0, none⟩) 65 65) G (Mv (U8 op) G (Bn (vy := U8 (1#8)) G G BinR.subU8 (WL.indexAddr (i := (op - 1#8).toNat) (b := bR) (o := 0) el159 sz163 G G hi G (WL.loadS (rowC ((op - 1#8).toNat + 1)) G ag163 sz163 G (rowsC_cells hR hi) G ?_)))))))
 have B3 := n2.blk.ext eR
 refine WL.storeS (v := .agg (rowC ((op - 1#8).toNat + 1)).toArray) G G B3 G sz163 G (row_one _) ?_
 intro ws4 ms4 bs4 zs4
 have E4 : Ext w ws4 := Mod.own (Mod.refl _ _) n2 E2 ms4
 refine Ni (WC.ret ?_)
 exact ⟨_, Res.cell rfl rfl (loadVar_agg (rowC ((op - 1#8).toNat + 1)) ag163 sz163 rfl (bs4.sub (o := 0) rfl)), by rw [e2]; rfl, E4⟩
theorem row_spec (op : BitVec 8) (w : World) (h : op.toNat < 66) : CallsR Tryz.prog 80 #[U8 op] w (fun v w' => v = rowQ op.toNat ∧ Ext w w') := by
 by_cases h0 : op.toNat = 0
 ·obtain rfl : op = 0#8 := BitVec.eq_of_toNat_eq h0
  exact row_0 w
 ·exact row_q op w (by omega) h
theorem name_q (op : BitVec 8) (w : World) (h : op.toNat < 66) : CallsR Tryz.prog 41 #[U8 op] w (fun v w' => v = St (rvAt op.toNat).name ∧ Ext w w') := by
 refine callsR_of Tryz.func41 G G G ?_
 refine Sr (An (St []) G (Ni (Sr (Mv (U8 op) G (WL.call ca80 G G (row_spec op _ h) ?_)))))
 rintro _ w4 ⟨rfl, e4⟩
 have E1 : Ext w w4 := e4
 refine WL.field1 G Tryz.underlying163 G ag9 G G G (An (St (rvAt op.toNat).name) G (Ni (WC.ret ?_)))
 exact ⟨_, Res.one (v := St (rvAt op.toNat).name) G G, G, E1⟩
end Go.Proofs.S
end
