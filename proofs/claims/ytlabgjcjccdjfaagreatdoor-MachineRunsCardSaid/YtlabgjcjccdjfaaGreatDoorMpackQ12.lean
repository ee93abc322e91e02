/- Steps of the proof, packed by program: MiY1 MiY4 McTq McO8 McO9. -/
import Derived.Test.YtlabgjcjccdjfaaGreatDoorRows
import Derived.Test.YtlabgjcjccdjfaaGreatDoorMpackQ02
import Derived.Test.YtlabgjcjccdjfaaGreatDoorMpackQ09
import Derived.Test.YtlabgjcjccdjfaaGreatDoorMpackQ11
set_option linter.unusedVariables false
set_option linter.unusedSimpArgs false
set_option linter.unnecessarySimpa false
set_option maxRecDepth 100000
set_option maxHeartbeats 4000000
section
set_option linter.unusedSimpArgs false
set_option linter.unusedVariables false
namespace Go.Proofs.R
open Go Go.Ux Go.Ux.Image Go.Proofs
theorem fo61_0 : fieldOff Tryz.prog 61 0 = some 0 := by kernel_rfl
theorem fo61_1 : fieldOff Tryz.prog 61 1 = some 1 := by kernel_rfl
theorem ag59 : isAggT Tryz.prog 59 = some false := by kernel_rfl
theorem el59 : elemT Tryz.prog 59 = some 101 := by kernel_rfl
theorem fo61_2 : fieldOff Tryz.prog 61 2 = some 2 := by kernel_rfl
theorem sz101 : sizeT Tryz.prog 101 = some 2 := by kernel_rfl
theorem ag101 : isAggT Tryz.prog 101 = some true := by kernel_rfl
theorem zt101 : zeroT Tryz.prog 101 = some #[.string ⟨#[]⟩, .int .i64 0] := by kernel_rfl
theorem fo101_0 : fieldOff Tryz.prog 101 0 = some 0 := by kernel_rfl
theorem fo101_1 : fieldOff Tryz.prog 101 1 = some 1 := by kernel_rfl
theorem BinR.remT {P : Program} {t : TypeId} {a b : Int} (hb : b ≠ 0) : BinR P .rem t (.int .i64 a) (.int .i64 b) (.int .i64 (a.tmod b)) := .of_int fun w => by
 simp [binOp, Op.intDiv, hb]
theorem rright_spec (sv wv : Value) (I : Img) (w : World) (hR : Rep w sv wv I) : CallsR Tryz.prog 25 #[.agg #[.int .i64 I.entry, sv, wv]] w (fun v w' => v = .bool (rightB I) ∧ Ext w w') := by
 have hI1 := hR.ls
 have hI2 := hR.lw
 refine callsR_of Tryz.func25 G G G ?_
 refine Sr (WL.box (v := .agg #[.int .i64 I.entry, sv, wv]) G G ?_)
 intro b1 w1 n1
 have E1 : Ext w w1 := n1.ext
 refine An (.bool false) G (Ni (Sq (Sq ?_)))
 refine WC.cut (fun f' w_ => f' 0 = .agg #[.int .i64 I.entry, sv, wv] ∧ f' 1 = ptr b1 0 ∧ f' 2 = .bool false ∧ f' 43 = .bool (headBad I) ∧ w1 = w_) ?_ ?_
 ·refine Rg (Fa G fo61_0 (Lo G ag3 (n1.blk.cell (j := 0) G) (Bn G G BinR.lss (Mv (.bool (decide ((I.entry : Int) < (0 : Int)))) G ?_))))
  rcases Bool.eq_false_or_eq_true (decide ((I.entry : Int) < (0 : Int))) with hg9 | hg9
  ·refine Gf true (Yb G G hg9) (Gf true (Yb G G hg9) (Gf true (Yb G G hg9) (Pk (b := true) (congrArg Value.bool hg9) G (Mv (.bool true) G (Gf true G (Gf true G (Gf true G (Gf true G (Pk (b := true) G G ?_)))))))))
   refine Mv (.bool true) G (Gf true G (Gf true G (Gf true G (Gf true G (Pk (b := true) G G (Mv (.bool true) G (Gf true G (Gf true G (Gf true G ?_)))))))))
   refine Gf true G (Pk (b := true) G G (Mv (.bool true) G (Gf true G (Gf true G (Gf true G (Gf true G (Pk (b := true) G G (Mv (.bool true) G (Gf true G ?_)))))))))
   refine Gf true G (Gf true G (Gf true G (Pk (b := true) G G (Ni ?_))))
   have hcut : true = headBad I := by simp only [headBad, *, Bool.true_or, Bool.or_true, Bool.false_or, Bool.or_false, Bool.true_and, Bool.and_true, Bool.false_and, Bool.and_false]
   exact ⟨G, G, G, G, congrArg Value.bool hcut, G⟩
  ·refine Gt (Yb G G hg9) (Fa G fo61_0 (Gt (Yb G G hg9) (Lo G ag3 (n1.blk.cell (j := 0) G) (Gt (Yb G G hg9) (Bn G G BinR.gtr (Pk (b := false) (congrArg Value.bool hg9) G (Mv (.bool (decide ((524288 : Int) < (I.entry : Int)))) G ?_)))))))
   rcases Bool.eq_false_or_eq_true (decide ((524288 : Int) < (I.entry : Int))) with hg14 | hg14
   ·refine Gf true (Yb G G hg14) (Gf true (Yb G G hg14) (Gf true (Yb G G hg14) (Gf true (Yb G G hg14) (Pk (b := true) (congrArg Value.bool hg14) G (Mv (.bool true) G (Gf true G (Gf true G (Gf true G (Gf true G ?_)))))))))
    refine Pk (b := true) G G (Mv (.bool true) G (Gf true G (Gf true G (Gf true G (Gf true G (Pk (b := true) G G (Mv (.bool true) G (Gf true G (Gf true G ?_)))))))))
    refine Gf true G (Gf true G (Pk (b := true) G G (Mv (.bool true) G (Gf true G (Gf true G (Gf true G (Gf true G (Pk (b := true) G G (Ni ?_)))))))))
    have hcut : true = headBad I := by simp only [headBad, *, Bool.true_or, Bool.or_true, Bool.false_or, Bool.or_false, Bool.true_and, Bool.and_true, Bool.false_and, Bool.and_false]
    exact ⟨G, G, G, G, congrArg Value.bool hcut, G⟩
   ·refine Gt (Yb G G hg14) (Fa G fo61_0 (Gt (Yb G G hg14) (Lo G ag3 (n1.blk.cell (j := 0) G) (Gt (Yb G G hg14) (Bn G G (BinR.remT (by decide)) (Gt (Yb G G hg14) (Bn G G BinR.neq (Pk (b := false) (congrArg Value.bool hg14) G (Mv (.bool (((I.entry.tmod 8 : Int) != (0 : Int)))) G ?_)))))))))
    rcases Bool.eq_false_or_eq_true (((I.entry.tmod 8 : Int) != (0 : Int))) with hg20 | hg20
    ·refine Gf true (Yb G G hg20) (Gf true (Yb G G hg20) (Gf true (Yb G G hg20) (Gf true (Yb G G hg20) (Pk (b := true) (congrArg Value.bool hg20) G (Mv (.bool true) G (Gf true G (Gf true G (Gf true G (Gf true G ?_)))))))))
     refine Pk (b := true) G G (Mv (.bool true) G (Gf true G (Gf true G (Gf true G (Gf true G (Pk (b := true) G G (Mv (.bool true) G (Gf true G (Gf true G ?_)))))))))
     refine Gf true G (Gf true G (Pk (b := true) G G (Ni ?_)))
     have hcut : true = headBad I := by simp only [headBad, *, Bool.true_or, Bool.or_true, Bool.false_or, Bool.or_false, Bool.true_and, Bool.and_true, Bool.false_and, Bool.and_false]
     exact ⟨G, G, G, G, congrArg Value.bool hcut, G⟩
    ·refine Gt (Yb G G hg20) (Fa G fo61_1 (Gt (Yb G G hg20) (Lo G ag59 (n1.blk.cell (j := 1) G) (Gt (Yb G G hg20) (WL.lenSl (sz := 2) (m := I.syms.length) (xs := symCells I.syms) el59 G (hR.s.ext' E1) G (Gt (Yb G G hg20) (Bn G G BinR.lss (Pk (b := false) (congrArg Value.bool hg20) G (Mv (.bool (decide (((I.syms.length : Nat) : Int) < (1 : Int)))) G ?_)))))))))
     rcases Bool.eq_false_or_eq_true (decide (((I.syms.length : Nat) : Int) < (1 : Int))) with hg26 | hg26
     ·refine Gf true (Yb G G hg26) (Gf true (Yb G G hg26) (Gf true (Yb G G hg26) (Gf true (Yb G G hg26) (Pk (b := true) (congrArg Value.bool hg26) G (Mv (.bool true) G (Gf true G (Gf true G (Gf true G (Gf true G ?_)))))))))
      refine Pk (b := true) G G (Mv (.bool true) G (Gf true G (Gf true G (Gf true G (Gf true G (Pk (b := true) G G (Ni ?_)))))))
      have hcut : true = headBad I := by simp only [headBad, *, Bool.true_or, Bool.or_true, Bool.false_or, Bool.or_false, Bool.true_and, Bool.and_true, Bool.false_and, Bool.and_false]
      exact ⟨G, G, G, G, congrArg Value.bool hcut, G⟩
     ·refine Gt (Yb G G hg26) (Fa G fo61_1 (Gt (Yb G G hg26) (Lo G ag59 (n1.blk.cell (j := 1) G) (Gt (Yb G G hg26) (WL.lenSl (sz := 2) (m := I.syms.length) (xs := symCells I.syms) el59 G (hR.s.ext' E1) G (Gt (Yb G G hg26) (Bn G G BinR.gtr (Pk (b := false) (congrArg Value.bool hg26) G (Mv (.bool (decide ((65 : Int) < ((I.syms.length : Nat) : Int)))) G ?_)))))))))
      rcases Bool.eq_false_or_eq_true (decide ((65 : Int) < ((I.syms.length : Nat) : Int))) with hg32 | hg32
      ·refine Gf true (Yb G G hg32) (Gf true (Yb G G hg32) (Gf true (Yb G G hg32) (Gf true (Yb G G hg32) (Pk (b := true) (congrArg Value.bool hg32) G (Mv (.bool true) G (Gf true G (Gf true G (Gf true G (Gf true G ?_)))))))))
       refine Pk (b := true) G G (Ni ?_)
       have hcut : true = headBad I := by simp only [headBad, *, Bool.true_or, Bool.or_true, Bool.false_or, Bool.or_false, Bool.true_and, Bool.and_true, Bool.false_and, Bool.and_false]
       exact ⟨G, G, G, G, congrArg Value.bool hcut, G⟩
      ·refine Gt (Yb G G hg32) (Fa G fo61_2 (Gt (Yb G G hg32) (Lo G ag23 (n1.blk.cell (j := 2) G) (Gt (Yb G G hg32) (WL.lenSl (sz := 1) (m := I.words.length) (xs := wordCells I.words) el23 G (hR.w.ext' E1) G (Gt (Yb G G hg32) (Bn G G BinR.lss (Pk (b := false) (congrArg Value.bool hg32) G (Mv (.bool (decide (((I.words.length : Nat) : Int) < (1 : Int)))) G ?_)))))))))
       rcases Bool.eq_false_or_eq_true (decide (((I.words.length : Nat) : Int) < (1 : Int))) with hg38 | hg38
       ·refine Gf true (Yb G G hg38) (Gf true (Yb G G hg38) (Gf true (Yb G G hg38) (Gf true (Yb G G hg38) (Pk (b := true) (congrArg Value.bool hg38) G (Ni ?_)))))
        have hcut : true = headBad I := by simp only [headBad, *, Bool.true_or, Bool.or_true, Bool.false_or, Bool.or_false, Bool.true_and, Bool.and_true, Bool.false_and, Bool.and_false]
        exact ⟨G, G, G, G, congrArg Value.bool hcut, G⟩
       ·refine Gt (Yb G G hg38) (Fa G fo61_2 (Gt (Yb G G hg38) (Lo G ag23 (n1.blk.cell (j := 2) G) (Gt (Yb G G hg38) (WL.lenSl (sz := 1) (m := I.words.length) (xs := wordCells I.words) el23 G (hR.w.ext' E1) G (Gt (Yb G G hg38) (Bn G G BinR.gtr (Pk (b := false) (congrArg Value.bool hg38) G (Ni ?_)))))))))
        have hcut : (decide ((262144 : Int) < ((I.words.length : Nat) : Int))) = headBad I := by simp only [headBad, *, Bool.true_or, Bool.or_true, Bool.false_or, Bool.or_false, Bool.true_and, Bool.and_true, Bool.false_and, Bool.and_false]
        exact ⟨G, G, G, G, congrArg Value.bool hcut, G⟩
 rintro fc1 _ ⟨hc1_0, hc1_1, hc1_2, hc1_43, rfl⟩
 refine WC.cond hc1_43 (fun hc43 => ?_) (fun hc43 => ?_)
 ·have hrf := headBad_no I hc43
  refine Sr (An (.bool false) G (Ni (WC.ret ?_)))
  have hfin : ((.bool false) : Value) = Value.bool (rightB I) := congrArg Value.bool (by first | exact hrf.symm | exact (ht.trans hbad).symm | exact (ht.trans hdup).symm | exact (ht.trans (todo_end I i (by omega) hi)).symm)
  exact ⟨_, Res.one (v := .bool false) G G, hfin, E1⟩
 ·have hrt := headBad_ok I hc43
  have hh := hc43
  simp only [headBad, Bool.or_eq_false_iff, decide_eq_false_iff_not] at hh
  refine WC.skip (Sq (Sr (An (IN 0) G (Ni (Bk ?_)))))
  refine WC.loop (fun k f w_ => ∃ i, (k + i = I.syms.length) ∧ (rightB I = todo I i) ∧ (0 < i → 0 ≤ lastAt I.syms i) ∧ f 0 = .agg #[.int .i64 I.entry, sv, wv] ∧ f 1 = ptr b1 0 ∧ f 3 = IN i ∧ f 43 = .bool (headBad I) ∧ (Ext w w_) ∧ (Blk w_ b1 #[.int .i64 I.entry, sv, wv] 61)) I.syms.length ?_ ?_
  ·exact ⟨0, by omega, by rw [hrt]; rfl, fun h => absurd h (by decide), hc1_0, hc1_1, rfl, hc1_43, E1, n1.blk⟩
  rintro ka f1 wr ⟨i, hk1, ht, hl, h0_1, h1_1, h3_1, h43_1, hE, hB⟩
  refine Sq (Sr (Mv (IN i) h3_1 (Fa h1_1 fo61_1 (Lo G ag59 (hB.cell (j := 1) G) (WL.lenSl (sz := 2) (m := I.syms.length) (xs := symCells I.syms) el59 G (hR.s.ext' hE) G (Bn G G BinR.lss (Ni ?_)))))))
  refine WC.cond G (fun hc48 => ?_) (fun hc48 => ?_)
  ·have hi : i < I.syms.length := by have := of_decide_eq_true hc48; omega
   obtain ⟨bs0, os0, cs0, es0, hcs0⟩ := hR.s.at (by omega)
   refine WC.skip (Sq (Bk (Sr (Fa h1_1 fo61_1 (Lo G ag59 (hB.cell (j := 1) G) (Mv (IN i) h3_1 (WL.indexAddr (i := i) (b := bs0) (o := os0) el59 sz101 (Eq.trans G es0) G (by omega) G (WL.loadS [St (I.syms[i]).1, .int .i64 ((I.syms[i]).2)] G ag101 sz101 G (cells2 (hcs0.ext hE) ((symCells_get I.syms i (by omega))).1 ((symCells_get I.syms i (by omega))).2) G ?_))))))))
   refine WL.allocStore (v := .agg #[St (I.syms[i]).1, .int .i64 ((I.syms[i]).2)]) zt101 G sz101 G G G G ?_
   intro b4 w4 n4
   have E3 := Mt hE n4.ext
   refine Ni (Sq (Sq ?_))
   refine WC.cut (fun f' w_ => f' 0 = .agg #[.int .i64 I.entry, sv, wv] ∧ f' 1 = ptr b1 0 ∧ f' 3 = IN i ∧ f' 4 = ptr b4 0 ∧ f' 43 = .bool (headBad I) ∧ f' 44 = IN i ∧ f' 45 = ptr b1 1 ∧ f' 46 = sv ∧ f' 47 = IN I.syms.length ∧ f' 48 = .bool (decide (((i : Nat) : Int) < ((I.syms.length : Nat) : Int))) ∧ f' 51 = ptr b1 1 ∧ f' 52 = sv ∧ f' 53 = IN i ∧ f' 54 = ptr bs0 (os0 + i * 2) ∧ f' 55 = .agg #[St (I.syms[i]).1, .int .i64 ((I.syms[i]).2)] ∧ f' 105 = .bool (symBad I.words.length i (lastAt I.syms i) (I.syms[i])) ∧ (Blk w_ b1 #[.int .i64 I.entry, sv, wv] 61) ∧ (Blk w_ b4 #[St (I.syms[i]).1, .int .i64 (I.syms[i]).2] 101) ∧ Ext w w_) ?_ ?_
   ·rcases Bool.eq_false_or_eq_true (decide ((((I.syms[i]).1.length : Nat) : Int) < (1 : Int))) with hd7_60 | hd7_60
    ·refine WC.draw (fun w_ => Ext w4 w_) 50 G mixed ?_
     intro wd_7 ed_7
     have R5 : Ext w4 wd_7 := ed_7
     have E6 := Mt E3 ed_7
     refine Tk 0 (ptr b4 0) G G (fun _ _ => Fa G fo101_0 Ok) R5 (Tk 1 (St (I.syms[i]).1) G G (fun _ hS => Lo G ag9 ((n4.blk.ext hS).cell (j := 0) G) Ok) R5 (Tk 2 (IN ((I.syms[i]).1.length)) G G (fun _ _ => WL.lenSt Tryz.underlying9 G G Ok) R5 (Tk 3 (.bool (decide ((((I.syms[i]).1.length : Nat) : Int) < (1 : Int)))) G G (fun _ _ => Bn G G BinR.lss Ok) R5 (Tk 4 (.bool (decide ((((I.syms[i]).1.length : Nat) : Int) < (1 : Int)))) G G (fun _ _ => Mv _ G Ok) R5 (To 5 (some true) G G G (Yb G G hd7_60) R5 (To 6 (some true) G G G (Yb G G hd7_60) R5 (To 7 (some true) G G G (Yb G G hd7_60) R5 (To 8 (some true) G G G (Yb G G hd7_60) R5 (Tk 9 (.bool true) G G (fun _ _ => Pk (b := true) (congrArg Value.bool hd7_60) G Ok) R5 ?_)))))))))
     refine Tk 10 (.bool true) G G (fun _ _ => Mv _ G Ok) R5 (To 11 (some true) G G G G R5 (To 12 (some true) G G G G R5 (To 13 (some true) G G G G R5 (To 14 (some true) G G G G R5 (Tk 15 (.bool true) G G (fun _ _ => Pk (b := true) G G Ok) R5 (Tk 16 (.bool true) G G (fun _ _ => Mv _ G Ok) R5 (To 17 (some true) G G G G R5 (To 18 (some true) G G G G R5 (To 19 (some true) G G G G R5 ?_)))))))))
     refine To 20 (some true) G G G G R5 (To 21 (some true) G G G G R5 (To 22 (some true) G G G G R5 (To 23 (some true) G G G G R5 (Tk 24 (.bool true) G G (fun _ _ => Pk (b := true) G G Ok) R5 (Tk 25 (.bool true) G G (fun _ _ => Mv _ G Ok) R5 (To 26 (some true) G G G G R5 (To 27 (some true) G G G G R5 (To 28 (some true) G G G G R5 (To 29 none G G G G R5 ?_)))))))))
     refine To 30 none G G G G R5 (To 31 none G G G G R5 (To 32 (some true) G G G G R5 (Tk 33 (.bool true) G G (fun _ _ => Pk (b := true) G G Ok) R5 (Tk 34 (.bool true) G G (fun _ _ => Mv _ G Ok) R5 (To 35 (some true) G G G G R5 (To 36 (some true) G G G G R5 (To 37 (some true) G G G G R5 (To 38 none G G G G R5 (To 39 none G G G G R5 ?_)))))))))
     refine To 40 none G G G G R5 (To 41 none G G G G R5 (To 42 none G G G G R5 (To 43 none G G G G R5 (To 44 none G G G G R5 (To 45 none G G G G R5 (To 46 none G G G G R5 (To 47 none G G G G R5 (To 48 (some true) G G G G R5 (Tk 49 (.bool true) G G (fun _ _ => Pk (b := true) G G Ok) R5 ?_)))))))))
     refine WA.done (by kernel_rfl) ?_
     have hcut : true = symBad I.words.length i (lastAt I.syms i) (I.syms[i]) := by simp only [symBad, *, Bool.true_or, Bool.or_true, Bool.false_or, Bool.or_false, Bool.true_and, Bool.and_true, Bool.false_and, Bool.and_false]
     have B22 := (hB.ext n4.ext).ext ed_7
     have B23 := n4.blk.ext ed_7
     exact ⟨G, h0_1, h1_1, h3_1, G, h43_1, G, G, G, G, G, G, G, G, G, G, congrArg Value.bool hcut, B22, B23, E6⟩
    ·rcases Bool.eq_false_or_eq_true (decide ((64 : Int) < (((I.syms[i]).1.length : Nat) : Int))) with hd7_66 | hd7_66
     ·refine WC.draw (fun w_ => Ext w4 w_) 50 G mixed ?_
      intro wd_7 ed_7
      have R25 : Ext w4 wd_7 := ed_7
      have E26 := Mt E3 ed_7
      refine Tk 0 (ptr b4 0) G G (fun _ _ => Fa G fo101_0 Ok) R25 (Tk 1 (St (I.syms[i]).1) G G (fun _ hS => Lo G ag9 ((n4.blk.ext hS).cell (j := 0) G) Ok) R25 (Tk 2 (IN ((I.syms[i]).1.length)) G G (fun _ _ => WL.lenSt Tryz.underlying9 G G Ok) R25 (Tk 3 (.bool (decide ((((I.syms[i]).1.length : Nat) : Int) < (1 : Int)))) G G (fun _ _ => Bn G G BinR.lss Ok) R25 (Tk 4 (.bool (decide ((((I.syms[i]).1.length : Nat) : Int) < (1 : Int)))) G G (fun _ _ => Mv _ G Ok) R25 (Tk 5 (ptr b4 0) G G (fun _ _ => Gt (Yb G G hd7_60) (Fa G fo101_0 Ok)) R25 (Tk 6 (St (I.syms[i]).1) G G (fun _ hS => Gt (Yb G G hd7_60) (Lo G ag9 ((n4.blk.ext hS).cell (j := 0) G) Ok)) R25 (Tk 7 (IN ((I.syms[i]).1.length)) G G (fun _ _ => Gt (Yb G G hd7_60) (WL.lenSt Tryz.underlying9 G G Ok)) R25 (Tk 8 (.bool (decide ((64 : Int) < (((I.syms[i]).1.length : Nat) : Int)))) G G (fun _ _ => Gt (Yb G G hd7_60) (Bn G G BinR.gtr Ok)) R25 (Tk 9 (.bool (decide ((64 : Int) < (((I.syms[i]).1.length : Nat) : Int)))) G G (fun _ _ => Pk (b := false) (congrArg Value.bool hd7_60) G Ok) R25 ?_)))))))))
      refine Tk 10 (.bool (decide ((64 : Int) < (((I.syms[i]).1.length : Nat) : Int)))) G G (fun _ _ => Mv _ G Ok) R25 (To 11 (some true) G G G (Yb G G hd7_66) R25 (To 12 (some true) G G G (Yb G G hd7_66) R25 (To 13 (some true) G G G (Yb G G hd7_66) R25 (To 14 (some true) G G G (Yb G G hd7_66) R25 (Tk 15 (.bool true) G G (fun _ _ => Pk (b := true) (congrArg Value.bool hd7_66) G Ok) R25 (Tk 16 (.bool true) G G (fun _ _ => Mv _ G Ok) R25 (To 17 (some true) G G G G R25 (To 18 (some true) G G G G R25 (To 19 (some true) G G G G R25 ?_)))))))))
      refine To 20 (some true) G G G G R25 (To 21 (some true) G G G G R25 (To 22 (some true) G G G G R25 (To 23 (some true) G G G G R25 (Tk 24 (.bool true) G G (fun _ _ => Pk (b := true) G G Ok) R25 (Tk 25 (.bool true) G G (fun _ _ => Mv _ G Ok) R25 (To 26 (some true) G G G G R25 (To 27 (some true) G G G G R25 (To 28 (some true) G G G G R25 (To 29 none G G G G R25 ?_)))))))))
      refine To 30 none G G G G R25 (To 31 none G G G G R25 (To 32 (some true) G G G G R25 (Tk 33 (.bool true) G G (fun _ _ => Pk (b := true) G G Ok) R25 (Tk 34 (.bool true) G G (fun _ _ => Mv _ G Ok) R25 (To 35 (some true) G G G G R25 (To 36 (some true) G G G G R25 (To 37 (some true) G G G G R25 (To 38 none G G G G R25 (To 39 none G G G G R25 ?_)))))))))
      refine To 40 none G G G G R25 (To 41 none G G G G R25 (To 42 none G G G G R25 (To 43 none G G G G R25 (To 44 none G G G G R25 (To 45 none G G G G R25 (To 46 none G G G G R25 (To 47 none G G G G R25 (To 48 (some true) G G G G R25 (Tk 49 (.bool true) G G (fun _ _ => Pk (b := true) G G Ok) R25 ?_)))))))))
      refine WA.done (by kernel_rfl) ?_
      have hcut : true = symBad I.words.length i (lastAt I.syms i) (I.syms[i]) := by simp only [symBad, *, Bool.true_or, Bool.or_true, Bool.false_or, Bool.or_false, Bool.true_and, Bool.and_true, Bool.false_and, Bool.and_false]
      have B47 := (hB.ext n4.ext).ext ed_7
      have B48 := n4.blk.ext ed_7
      exact ⟨G, h0_1, h1_1, h3_1, G, h43_1, G, G, G, G, G, G, G, G, G, G, congrArg Value.bool hcut, B47, B48, E26⟩
     ·rcases Bool.eq_false_or_eq_true ((((I.syms[i]).2.tmod 4 : Int) != (0 : Int))) with hd7_72 | hd7_72
      ·refine WC.draw (fun w_ => Ext w4 w_) 50 G mixed ?_
       intro wd_7 ed_7
       have R50 : Ext w4 wd_7 := ed_7
       have E51 := Mt E3 ed_7
       refine Tk 0 (ptr b4 0) G G (fun _ _ => Fa G fo101_0 Ok) R50 (Tk 1 (St (I.syms[i]).1) G G (fun _ hS => Lo G ag9 ((n4.blk.ext hS).cell (j := 0) G) Ok) R50 (Tk 2 (IN ((I.syms[i]).1.length)) G G (fun _ _ => WL.lenSt Tryz.underlying9 G G Ok) R50 (Tk 3 (.bool (decide ((((I.syms[i]).1.length : Nat) : Int) < (1 : Int)))) G G (fun _ _ => Bn G G BinR.lss Ok) R50 (Tk 4 (.bool (decide ((((I.syms[i]).1.length : Nat) : Int) < (1 : Int)))) G G (fun _ _ => Mv _ G Ok) R50 (Tk 5 (ptr b4 0) G G (fun _ _ => Gt (Yb G G hd7_60) (Fa G fo101_0 Ok)) R50 (Tk 6 (St (I.syms[i]).1) G G (fun _ hS => Gt (Yb G G hd7_60) (Lo G ag9 ((n4.blk.ext hS).cell (j := 0) G) Ok)) R50 (Tk 7 (IN ((I.syms[i]).1.length)) G G (fun _ _ => Gt (Yb G G hd7_60) (WL.lenSt Tryz.underlying9 G G Ok)) R50 (Tk 8 (.bool (decide ((64 : Int) < (((I.syms[i]).1.length : Nat) : Int)))) G G (fun _ _ => Gt (Yb G G hd7_60) (Bn G G BinR.gtr Ok)) R50 (Tk 9 (.bool (decide ((64 : Int) < (((I.syms[i]).1.length : Nat) : Int)))) G G (fun _ _ => Pk (b := false) (congrArg Value.bool hd7_60) G Ok) R50 ?_)))))))))
       refine Tk 10 (.bool (decide ((64 : Int) < (((I.syms[i]).1.length : Nat) : Int)))) G G (fun _ _ => Mv _ G Ok) R50 (Tk 11 (ptr b4 1) G G (fun _ _ => Gt (Yb G G hd7_66) (Fa G fo101_1 Ok)) R50 (Tk 12 (.int .i64 ((I.syms[i]).2)) G G (fun _ hS => Gt (Yb G G hd7_66) (Lo G ag3 ((n4.blk.ext hS).cell (j := 1) G) Ok)) R50 (Tk 13 (.int .i64 ((I.syms[i]).2.tmod 4)) G G (fun _ _ => Gt (Yb G G hd7_66) (Bn G G (BinR.remT (by decide)) Ok)) R50 (Tk 14 (.bool ((((I.syms[i]).2.tmod 4 : Int) != (0 : Int)))) G G (fun _ _ => Gt (Yb G G hd7_66) (Bn G G BinR.neq Ok)) R50 (Tk 15 (.bool ((((I.syms[i]).2.tmod 4 : Int) != (0 : Int)))) G G (fun _ _ => Pk (b := false) (congrArg Value.bool hd7_66) G Ok) R50 (Tk 16 (.bool ((((I.syms[i]).2.tmod 4 : Int) != (0 : Int)))) G G (fun _ _ => Mv _ G Ok) R50 (To 17 (some true) G G G (Yb G G hd7_72) R50 (To 18 (some true) G G G (Yb G G hd7_72) R50 (To 19 (some true) G G G (Yb G G hd7_72) R50 ?_)))))))))
       refine To 20 (some true) G G G (Yb G G hd7_72) R50 (To 21 (some true) G G G (Yb G G hd7_72) R50 (To 22 (some true) G G G (Yb G G hd7_72) R50 (To 23 (some true) G G G (Yb G G hd7_72) R50 (Tk 24 (.bool true) G G (fun _ _ => Pk (b := true) (congrArg Value.bool hd7_72) G Ok) R50 (Tk 25 (.bool true) G G (fun _ _ => Mv _ G Ok) R50 (To 26 (some true) G G G G R50 (To 27 (some true) G G G G R50 (To 28 (some true) G G G G R50 (To 29 none G G G G R50 ?_)))))))))
       refine To 30 none G G G G R50 (To 31 none G G G G R50 (To 32 (some true) G G G G R50 (Tk 33 (.bool true) G G (fun _ _ => Pk (b := true) G G Ok) R50 (Tk 34 (.bool true) G G (fun _ _ => Mv _ G Ok) R50 (To 35 (some true) G G G G R50 (To 36 (some true) G G G G R50 (To 37 (some true) G G G G R50 (To 38 none G G G G R50 (To 39 none G G G G R50 ?_)))))))))
       refine To 40 none G G G G R50 (To 41 none G G G G R50 (To 42 none G G G G R50 (To 43 none G G G G R50 (To 44 none G G G G R50 (To 45 none G G G G R50 (To 46 none G G G G R50 (To 47 none G G G G R50 (To 48 (some true) G G G G R50 (Tk 49 (.bool true) G G (fun _ _ => Pk (b := true) G G Ok) R50 ?_)))))))))
       refine WA.done (by kernel_rfl) ?_
       have hcut : true = symBad I.words.length i (lastAt I.syms i) (I.syms[i]) := by simp only [symBad, *, Bool.true_or, Bool.or_true, Bool.false_or, Bool.or_false, Bool.true_and, Bool.and_true, Bool.false_and, Bool.and_false]
       have B77 := (hB.ext n4.ext).ext ed_7
       have B78 := n4.blk.ext ed_7
       exact ⟨G, h0_1, h1_1, h3_1, G, h43_1, G, G, G, G, G, G, G, G, G, G, congrArg Value.bool hcut, B77, B78, E51⟩
      ·rcases Bool.eq_false_or_eq_true (decide ((((4 * I.words.length) : Nat) : Int) ≤ ((I.syms[i]).2 : Int))) with hd7_81 | hd7_81
       ·refine WC.draw (fun w_ => Ext w4 w_) 50 G mixed ?_
        intro wd_7 ed_7
        have R80 : Ext w4 wd_7 := ed_7
        have E81 := Mt E3 ed_7
        refine Tk 0 (ptr b4 0) G G (fun _ _ => Fa G fo101_0 Ok) R80 (Tk 1 (St (I.syms[i]).1) G G (fun _ hS => Lo G ag9 ((n4.blk.ext hS).cell (j := 0) G) Ok) R80 (Tk 2 (IN ((I.syms[i]).1.length)) G G (fun _ _ => WL.lenSt Tryz.underlying9 G G Ok) R80 (Tk 3 (.bool (decide ((((I.syms[i]).1.length : Nat) : Int) < (1 : Int)))) G G (fun _ _ => Bn G G BinR.lss Ok) R80 (Tk 4 (.bool (decide ((((I.syms[i]).1.length : Nat) : Int) < (1 : Int)))) G G (fun _ _ => Mv _ G Ok) R80 (Tk 5 (ptr b4 0) G G (fun _ _ => Gt (Yb G G hd7_60) (Fa G fo101_0 Ok)) R80 (Tk 6 (St (I.syms[i]).1) G G (fun _ hS => Gt (Yb G G hd7_60) (Lo G ag9 ((n4.blk.ext hS).cell (j := 0) G) Ok)) R80 (Tk 7 (IN ((I.syms[i]).1.length)) G G (fun _ _ => Gt (Yb G G hd7_60) (WL.lenSt Tryz.underlying9 G G Ok)) R80 (Tk 8 (.bool (decide ((64 : Int) < (((I.syms[i]).1.length : Nat) : Int)))) G G (fun _ _ => Gt (Yb G G hd7_60) (Bn G G BinR.gtr Ok)) R80 (Tk 9 (.bool (decide ((64 : Int) < (((I.syms[i]).1.length : Nat) : Int)))) G G (fun _ _ => Pk (b := false) (congrArg Value.bool hd7_60) G Ok) R80 ?_)))))))))
        refine Tk 10 (.bool (decide ((64 : Int) < (((I.syms[i]).1.length : Nat) : Int)))) G G (fun _ _ => Mv _ G Ok) R80 (Tk 11 (ptr b4 1) G G (fun _ _ => Gt (Yb G G hd7_66) (Fa G fo101_1 Ok)) R80 (Tk 12 (.int .i64 ((I.syms[i]).2)) G G (fun _ hS => Gt (Yb G G hd7_66) (Lo G ag3 ((n4.blk.ext hS).cell (j := 1) G) Ok)) R80 (Tk 13 (.int .i64 ((I.syms[i]).2.tmod 4)) G G (fun _ _ => Gt (Yb G G hd7_66) (Bn G G (BinR.remT (by decide)) Ok)) R80 (Tk 14 (.bool ((((I.syms[i]).2.tmod 4 : Int) != (0 : Int)))) G G (fun _ _ => Gt (Yb G G hd7_66) (Bn G G BinR.neq Ok)) R80 (Tk 15 (.bool ((((I.syms[i]).2.tmod 4 : Int) != (0 : Int)))) G G (fun _ _ => Pk (b := false) (congrArg Value.bool hd7_66) G Ok) R80 (Tk 16 (.bool ((((I.syms[i]).2.tmod 4 : Int) != (0 : Int)))) G G (fun _ _ => Mv _ G Ok) R80 (Tk 17 (ptr b4 1) G G (fun _ _ => Gt (Yb G G hd7_72) (Fa G fo101_1 Ok)) R80 (Tk 18 (.int .i64 ((I.syms[i]).2)) G G (fun _ hS => Gt (Yb G G hd7_72) (Lo G ag3 ((n4.blk.ext hS).cell (j := 1) G) Ok)) R80 (Tk 19 (ptr b1 2) G G (fun _ _ => Gt (Yb G G hd7_72) (Fa h1_1 fo61_2 Ok)) R80 ?_)))))))))
        refine Tk 20 wv G G (fun _ hS => Gt (Yb G G hd7_72) (Lo G ag23 (((hB.ext n4.ext).ext hS).cell (j := 2) G) Ok)) R80 (Tk 21 (IN I.words.length) G G (fun wx hS => have E108 : Ext w wx := Mt E3 hS; Gt (Yb G G hd7_72) (WL.lenSl (sz := 1) (m := I.words.length) (xs := wordCells I.words) el23 G (hR.w.ext' E108) G Ok)) R80 (Tk 22 (IN ((4 * I.words.length))) G G (fun _ _ => Gt (Yb G G hd7_72) (Bn G G (BinR.mulN (a := 4) (b := I.words.length) (by omega)) Ok)) R80 (Tk 23 (.bool (decide ((((4 * I.words.length) : Nat) : Int) ≤ ((I.syms[i]).2 : Int)))) G G (fun _ _ => Gt (Yb G G hd7_72) (Bn G G BinR.geq Ok)) R80 (Tk 24 (.bool (decide ((((4 * I.words.length) : Nat) : Int) ≤ ((I.syms[i]).2 : Int)))) G G (fun _ _ => Pk (b := false) (congrArg Value.bool hd7_72) G Ok) R80 (Tk 25 (.bool (decide ((((4 * I.words.length) : Nat) : Int) ≤ ((I.syms[i]).2 : Int)))) G G (fun _ _ => Mv _ G Ok) R80 (To 26 (some true) G G G (Yb G G hd7_81) R80 (To 27 (some true) G G G (Yb G G hd7_81) R80 (To 28 (some true) G G G (Yb G G hd7_81) R80 (To 29 none G G G G R80 ?_)))))))))
        refine To 30 none G G G G R80 (To 31 none G G G G R80 (To 32 (some true) G G G (Yb G G hd7_81) R80 (Tk 33 (.bool true) G G (fun _ _ => Pk (b := true) (congrArg Value.bool hd7_81) G Ok) R80 (Tk 34 (.bool true) G G (fun _ _ => Mv _ G Ok) R80 (To 35 (some true) G G G G R80 (To 36 (some true) G G G G R80 (To 37 (some true) G G G G R80 (To 38 none G G G G R80 (To 39 none G G G G R80 ?_)))))))))
        refine To 40 none G G G G R80 (To 41 none G G G G R80 (To 42 none G G G G R80 (To 43 none G G G G R80 (To 44 none G G G G R80 (To 45 none G G G G R80 (To 46 none G G G G R80 (To 47 none G G G G R80 (To 48 (some true) G G G G R80 (Tk 49 (.bool true) G G (fun _ _ => Pk (b := true) G G Ok) R80 ?_)))))))))
        refine WA.done (by kernel_rfl) ?_
        have hcut : true = symBad I.words.length i (lastAt I.syms i) (I.syms[i]) := by simp only [symBad, *, Bool.true_or, Bool.or_true, Bool.false_or, Bool.or_false, Bool.true_and, Bool.and_true, Bool.false_and, Bool.and_false]
        have B116 := (hB.ext n4.ext).ext ed_7
        have B117 := n4.blk.ext ed_7
        exact ⟨G, h0_1, h1_1, h3_1, G, h43_1, G, G, G, G, G, G, G, G, G, G, congrArg Value.bool hcut, B116, B117, E81⟩
       ·rcases Bool.eq_false_or_eq_true ((((i : Nat) : Int) == (0 : Int))) with hd7_84 | hd7_84
        ·rcases Bool.eq_false_or_eq_true ((((I.syms[i]).2 : Int) != (0 : Int))) with hd7_90 | hd7_90
         ·refine WC.draw (fun w_ => Ext w4 w_) 50 G mixed ?_
          intro wd_7 ed_7
          have R119 : Ext w4 wd_7 := ed_7
          have E120 := Mt E3 ed_7
          refine Tk 0 (ptr b4 0) G G (fun _ _ => Fa G fo101_0 Ok) R119 (Tk 1 (St (I.syms[i]).1) G G (fun _ hS => Lo G ag9 ((n4.blk.ext hS).cell (j := 0) G) Ok) R119 (Tk 2 (IN ((I.syms[i]).1.length)) G G (fun _ _ => WL.lenSt Tryz.underlying9 G G Ok) R119 (Tk 3 (.bool (decide ((((I.syms[i]).1.length : Nat) : Int) < (1 : Int)))) G G (fun _ _ => Bn G G BinR.lss Ok) R119 (Tk 4 (.bool (decide ((((I.syms[i]).1.length : Nat) : Int) < (1 : Int)))) G G (fun _ _ => Mv _ G Ok) R119 (Tk 5 (ptr b4 0) G G (fun _ _ => Gt (Yb G G hd7_60) (Fa G fo101_0 Ok)) R119 (Tk 6 (St (I.syms[i]).1) G G (fun _ hS => Gt (Yb G G hd7_60) (Lo G ag9 ((n4.blk.ext hS).cell (j := 0) G) Ok)) R119 (Tk 7 (IN ((I.syms[i]).1.length)) G G (fun _ _ => Gt (Yb G G hd7_60) (WL.lenSt Tryz.underlying9 G G Ok)) R119 (Tk 8 (.bool (decide ((64 : Int) < (((I.syms[i]).1.length : Nat) : Int)))) G G (fun _ _ => Gt (Yb G G hd7_60) (Bn G G BinR.gtr Ok)) R119 (Tk 9 (.bool (decide ((64 : Int) < (((I.syms[i]).1.length : Nat) : Int)))) G G (fun _ _ => Pk (b := false) (congrArg Value.bool hd7_60) G Ok) R119 ?_)))))))))
          refine Tk 10 (.bool (decide ((64 : Int) < (((I.syms[i]).1.length : Nat) : Int)))) G G (fun _ _ => Mv _ G Ok) R119 (Tk 11 (ptr b4 1) G G (fun _ _ => Gt (Yb G G hd7_66) (Fa G fo101_1 Ok)) R119 (Tk 12 (.int .i64 ((I.syms[i]).2)) G G (fun _ hS => Gt (Yb G G hd7_66) (Lo G ag3 ((n4.blk.ext hS).cell (j := 1) G) Ok)) R119 (Tk 13 (.int .i64 ((I.syms[i]).2.tmod 4)) G G (fun _ _ => Gt (Yb G G hd7_66) (Bn G G (BinR.remT (by decide)) Ok)) R119 (Tk 14 (.bool ((((I.syms[i]).2.tmod 4 : Int) != (0 : Int)))) G G (fun _ _ => Gt (Yb G G hd7_66) (Bn G G BinR.neq Ok)) R119 (Tk 15 (.bool ((((I.syms[i]).2.tmod 4 : Int) != (0 : Int)))) G G (fun _ _ => Pk (b := false) (congrArg Value.bool hd7_66) G Ok) R119 (Tk 16 (.bool ((((I.syms[i]).2.tmod 4 : Int) != (0 : Int)))) G G (fun _ _ => Mv _ G Ok) R119 (Tk 17 (ptr b4 1) G G (fun _ _ => Gt (Yb G G hd7_72) (Fa G fo101_1 Ok)) R119 (Tk 18 (.int .i64 ((I.syms[i]).2)) G G (fun _ hS => Gt (Yb G G hd7_72) (Lo G ag3 ((n4.blk.ext hS).cell (j := 1) G) Ok)) R119 (Tk 19 (ptr b1 2) G G (fun _ _ => Gt (Yb G G hd7_72) (Fa h1_1 fo61_2 Ok)) R119 ?_)))))))))
          refine Tk 20 wv G G (fun _ hS => Gt (Yb G G hd7_72) (Lo G ag23 (((hB.ext n4.ext).ext hS).cell (j := 2) G) Ok)) R119 (Tk 21 (IN I.words.length) G G (fun wx hS => have E147 : Ext w wx := Mt E3 hS; Gt (Yb G G hd7_72) (WL.lenSl (sz := 1) (m := I.words.length) (xs := wordCells I.words) el23 G (hR.w.ext' E147) G Ok)) R119 (Tk 22 (IN ((4 * I.words.length))) G G (fun _ _ => Gt (Yb G G hd7_72) (Bn G G (BinR.mulN (a := 4) (b := I.words.length) (by omega)) Ok)) R119 (Tk 23 (.bool (decide ((((4 * I.words.length) : Nat) : Int) ≤ ((I.syms[i]).2 : Int)))) G G (fun _ _ => Gt (Yb G G hd7_72) (Bn G G BinR.geq Ok)) R119 (Tk 24 (.bool (decide ((((4 * I.words.length) : Nat) : Int) ≤ ((I.syms[i]).2 : Int)))) G G (fun _ _ => Pk (b := false) (congrArg Value.bool hd7_72) G Ok) R119 (Tk 25 (.bool (decide ((((4 * I.words.length) : Nat) : Int) ≤ ((I.syms[i]).2 : Int)))) G G (fun _ _ => Mv _ G Ok) R119 (Tk 26 (IN i) G G (fun _ _ => Gt (Yb G G hd7_81) (Mv (IN i) h3_1 Ok)) R119 (Tk 27 (.bool ((((i : Nat) : Int) == (0 : Int)))) G G (fun _ _ => Gt (Yb G G hd7_81) (Bn G G BinR.eql Ok)) R119 (Tk 28 (.bool ((((i : Nat) : Int) == (0 : Int)))) G G (fun _ _ => Gt (Yb G G hd7_81) (Mv _ G Ok)) R119 (Tk 29 (ptr b4 1) G G (fun _ _ => Gt (Yb G G hd7_84) (Fa G fo101_1 Ok)) R119 ?_)))))))))
          refine Tk 30 (.int .i64 ((I.syms[i]).2)) G G (fun _ hS => Gt (Yb G G hd7_84) (Lo G ag3 ((n4.blk.ext hS).cell (j := 1) G) Ok)) R119 (Tk 31 (.bool ((((I.syms[i]).2 : Int) != (0 : Int)))) G G (fun _ _ => Gt (Yb G G hd7_84) (Bn G G BinR.neq Ok)) R119 (Tk 32 (.bool ((((I.syms[i]).2 : Int) != (0 : Int)))) G G (fun _ _ => Gt (Yb G G hd7_81) (Pk (b := true) (congrArg Value.bool hd7_84) G Ok)) R119 (Tk 33 (.bool ((((I.syms[i]).2 : Int) != (0 : Int)))) G G (fun _ _ => Pk (b := false) (congrArg Value.bool hd7_81) G Ok) R119 (Tk 34 (.bool ((((I.syms[i]).2 : Int) != (0 : Int)))) G G (fun _ _ => Mv _ G Ok) R119 (To 35 (some true) G G G (Yb G G hd7_90) R119 (To 36 (some true) G G G (Yb G G hd7_90) R119 (To 37 (some true) G G G (Yb G G hd7_90) R119 (To 38 none G G G G R119 (To 39 none G G G G R119 ?_)))))))))
          refine To 40 none G G G G R119 (To 41 none G G G G R119 (To 42 none G G G G R119 (To 43 none G G G G R119 (To 44 none G G G G R119 (To 45 none G G G G R119 (To 46 none G G G G R119 (To 47 none G G G G R119 (To 48 (some true) G G G (Yb G G hd7_90) R119 (Tk 49 (.bool true) G G (fun _ _ => Pk (b := true) (congrArg Value.bool hd7_90) G Ok) R119 ?_)))))))))
          refine WA.done (by kernel_rfl) ?_
          have hcut : true = symBad I.words.length i (lastAt I.syms i) (I.syms[i]) := by simp only [symBad, *, Bool.true_or, Bool.or_true, Bool.false_or, Bool.or_false, Bool.true_and, Bool.and_true, Bool.false_and, Bool.and_false]
          have B163 := (hB.ext n4.ext).ext ed_7
          have B164 := n4.blk.ext ed_7
          exact ⟨G, h0_1, h1_1, h3_1, G, h43_1, G, G, G, G, G, G, G, G, G, G, congrArg Value.bool hcut, B163, B164, E120⟩
         ·rcases Bool.eq_false_or_eq_true (decide ((0 : Int) < ((i : Nat) : Int))) with hd7_93 | hd7_93
          ·have hi0 : 0 < i := by have := of_decide_eq_true hd7_93; omega
           have hla := lastAt_pred I.syms i hi0 (by omega)
           refine WC.draw (fun w_ => Ext w4 w_) 50 G mixed ?_
           intro wd_7 ed_7
           have R166 : Ext w4 wd_7 := ed_7
           have E167 := Mt E3 ed_7
           refine Tk 0 (ptr b4 0) G G (fun _ _ => Fa G fo101_0 Ok) R166 (Tk 1 (St (I.syms[i]).1) G G (fun _ hS => Lo G ag9 ((n4.blk.ext hS).cell (j := 0) G) Ok) R166 (Tk 2 (IN ((I.syms[i]).1.length)) G G (fun _ _ => WL.lenSt Tryz.underlying9 G G Ok) R166 (Tk 3 (.bool (decide ((((I.syms[i]).1.length : Nat) : Int) < (1 : Int)))) G G (fun _ _ => Bn G G BinR.lss Ok) R166 (Tk 4 (.bool (decide ((((I.syms[i]).1.length : Nat) : Int) < (1 : Int)))) G G (fun _ _ => Mv _ G Ok) R166 (Tk 5 (ptr b4 0) G G (fun _ _ => Gt (Yb G G hd7_60) (Fa G fo101_0 Ok)) R166 (Tk 6 (St (I.syms[i]).1) G G (fun _ hS => Gt (Yb G G hd7_60) (Lo G ag9 ((n4.blk.ext hS).cell (j := 0) G) Ok)) R166 (Tk 7 (IN ((I.syms[i]).1.length)) G G (fun _ _ => Gt (Yb G G hd7_60) (WL.lenSt Tryz.underlying9 G G Ok)) R166 (Tk 8 (.bool (decide ((64 : Int) < (((I.syms[i]).1.length : Nat) : Int)))) G G (fun _ _ => Gt (Yb G G hd7_60) (Bn G G BinR.gtr Ok)) R166 (Tk 9 (.bool (decide ((64 : Int) < (((I.syms[i]).1.length : Nat) : Int)))) G G (fun _ _ => Pk (b := false) (congrArg Value.bool hd7_60) G Ok) R166 ?_)))))))))
           refine Tk 10 (.bool (decide ((64 : Int) < (((I.syms[i]).1.length : Nat) : Int)))) G G (fun _ _ => Mv _ G Ok) R166 (Tk 11 (ptr b4 1) G G (fun _ _ => Gt (Yb G G hd7_66) (Fa G fo101_1 Ok)) R166 (Tk 12 (.int .i64 ((I.syms[i]).2)) G G (fun _ hS => Gt (Yb G G hd7_66) (Lo G ag3 ((n4.blk.ext hS).cell (j := 1) G) Ok)) R166 (Tk 13 (.int .i64 ((I.syms[i]).2.tmod 4)) G G (fun _ _ => Gt (Yb G G hd7_66) (Bn G G (BinR.remT (by decide)) Ok)) R166 (Tk 14 (.bool ((((I.syms[i]).2.tmod 4 : Int) != (0 : Int)))) G G (fun _ _ => Gt (Yb G G hd7_66) (Bn G G BinR.neq Ok)) R166 (Tk 15 (.bool ((((I.syms[i]).2.tmod 4 : Int) != (0 : Int)))) G G (fun _ _ => Pk (b := false) (congrArg Value.bool hd7_66) G Ok) R166 (Tk 16 (.bool ((((I.syms[i]).2.tmod 4 : Int) != (0 : Int)))) G G (fun _ _ => Mv _ G Ok) R166 (Tk 17 (ptr b4 1) G G (fun _ _ => Gt (Yb G G hd7_72) (Fa G fo101_1 Ok)) R166 (Tk 18 (.int .i64 ((I.syms[i]).2)) G G (fun _ hS => Gt (Yb G G hd7_72) (Lo G ag3 ((n4.blk.ext hS).cell (j := 1) G) Ok)) R166 (Tk 19 (ptr b1 2) G G (fun _ _ => Gt (Yb G G hd7_72) (Fa h1_1 fo61_2 Ok)) R166 ?_)))))))))
           refine Tk 20 wv G G (fun _ hS => Gt (Yb G G hd7_72) (Lo G ag23 (((hB.ext n4.ext).ext hS).cell (j := 2) G) Ok)) R166 (Tk 21 (IN I.words.length) G G (fun wx hS => have E194 : Ext w wx := Mt E3 hS; Gt (Yb G G hd7_72) (WL.lenSl (sz := 1) (m := I.words.length) (xs := wordCells I.words) el23 G (hR.w.ext' E194) G Ok)) R166 (Tk 22 (IN ((4 * I.words.length))) G G (fun _ _ => Gt (Yb G G hd7_72) (Bn G G (BinR.mulN (a := 4) (b := I.words.length) (by omega)) Ok)) R166 (Tk 23 (.bool (decide ((((4 * I.words.length) : Nat) : Int) ≤ ((I.syms[i]).2 : Int)))) G G (fun _ _ => Gt (Yb G G hd7_72) (Bn G G BinR.geq Ok)) R166 (Tk 24 (.bool (decide ((((4 * I.words.length) : Nat) : Int) ≤ ((I.syms[i]).2 : Int)))) G G (fun _ _ => Pk (b := false) (congrArg Value.bool hd7_72) G Ok) R166 (Tk 25 (.bool (decide ((((4 * I.words.length) : Nat) : Int) ≤ ((I.syms[i]).2 : Int)))) G G (fun _ _ => Mv _ G Ok) R166 (Tk 26 (IN i) G G (fun _ _ => Gt (Yb G G hd7_81) (Mv (IN i) h3_1 Ok)) R166 (Tk 27 (.bool ((((i : Nat) : Int) == (0 : Int)))) G G (fun _ _ => Gt (Yb G G hd7_81) (Bn G G BinR.eql Ok)) R166 (Tk 28 (.bool ((((i : Nat) : Int) == (0 : Int)))) G G (fun _ _ => Gt (Yb G G hd7_81) (Mv _ G Ok)) R166 (Tk 29 (ptr b4 1) G G (fun _ _ => Gt (Yb G G hd7_84) (Fa G fo101_1 Ok)) R166 ?_)))))))))
           refine Tk 30 (.int .i64 ((I.syms[i]).2)) G G (fun _ hS => Gt (Yb G G hd7_84) (Lo G ag3 ((n4.blk.ext hS).cell (j := 1) G) Ok)) R166 (Tk 31 (.bool ((((I.syms[i]).2 : Int) != (0 : Int)))) G G (fun _ _ => Gt (Yb G G hd7_84) (Bn G G BinR.neq Ok)) R166 (Tk 32 (.bool ((((I.syms[i]).2 : Int) != (0 : Int)))) G G (fun _ _ => Gt (Yb G G hd7_81) (Pk (b := true) (congrArg Value.bool hd7_84) G Ok)) R166 (Tk 33 (.bool ((((I.syms[i]).2 : Int) != (0 : Int)))) G G (fun _ _ => Pk (b := false) (congrArg Value.bool hd7_81) G Ok) R166 (Tk 34 (.bool ((((I.syms[i]).2 : Int) != (0 : Int)))) G G (fun _ _ => Mv _ G Ok) R166 (Tk 35 (IN i) G G (fun _ _ => Gt (Yb G G hd7_90) (Mv (IN i) h3_1 Ok)) R166 (Tk 36 (.bool (decide ((0 : Int) < ((i : Nat) : Int)))) G G (fun _ _ => Gt (Yb G G hd7_90) (Bn G G BinR.gtr Ok)) R166 (Tk 37 (.bool (decide ((0 : Int) < ((i : Nat) : Int)))) G G (fun _ _ => Gt (Yb G G hd7_90) (Mv _ G Ok)) R166 (Tk 38 (ptr b4 1) G G (fun _ _ => Gt (Yb G G hd7_93) (Fa G fo101_1 Ok)) R166 (Tk 39 (.int .i64 ((I.syms[i]).2)) G G (fun _ hS => Gt (Yb G G hd7_93) (Lo G ag3 ((n4.blk.ext hS).cell (j := 1) G) Ok)) R166 ?_)))))))))
           refine Tk 40 (ptr b1 1) G G (fun _ _ => Gt (Yb G G hd7_93) (Fa h1_1 fo61_1 Ok)) R166 (Tk 41 sv G G (fun _ hS => Gt (Yb G G hd7_93) (Lo G ag59 (((hB.ext n4.ext).ext hS).cell (j := 1) G) Ok)) R166 (Tk 42 (IN i) G G (fun _ _ => Gt (Yb G G hd7_93) (Mv (IN i) h3_1 Ok)) R166 (Tk 43 (IN ((i - 1))) G G (fun _ _ => Gt (Yb G G hd7_93) (Bn G G (BinR.subN (a := i) (b := 1) (by omega) (by omega)) Ok)) R166 (Tk 44 (ptr bs0 (os0 + ((i - 1)) * 2)) G G (fun _ _ => Gt (Yb G G hd7_93) (WL.indexAddr (i := (i - 1)) (b := bs0) (o := os0) el59 sz101 (Eq.trans G es0) G (by omega) G Ok)) R166 (Tk 45 (ptr bs0 ((os0 + ((i - 1)) * 2) + 1)) G G (fun _ _ => Gt (Yb G G hd7_93) (Fa G fo101_1 Ok)) R166 (Tk 46 (.int .i64 ((I.syms[i - 1]).2)) G G (fun wx hS => have E222 : Ext w wx := Mt E3 hS; Gt (Yb G G hd7_93) (Lo G ag3 ((hcs0.ext E222) ((i - 1) * 2 + 1) _ (symCells_get I.syms (i - 1) (by omega)).2) Ok)) R166 (Tk 47 (.bool (decide (((I.syms[i]).2 : Int) ≤ ((I.syms[i - 1]).2 : Int)))) G G (fun _ _ => Gt (Yb G G hd7_93) (Bn G G BinR.leq Ok)) R166 (Tk 48 (.bool (decide (((I.syms[i]).2 : Int) ≤ ((I.syms[i - 1]).2 : Int)))) G G (fun _ _ => Gt (Yb G G hd7_90) (Pk (b := true) (congrArg Value.bool hd7_93) G Ok)) R166 (Tk 49 (.bool (decide (((I.syms[i]).2 : Int) ≤ ((I.syms[i - 1]).2 : Int)))) G G (fun _ _ => Pk (b := false) (congrArg Value.bool hd7_90) G Ok) R166 ?_)))))))))
           refine WA.done (by kernel_rfl) ?_
           have hcut : (decide (((I.syms[i]).2 : Int) ≤ ((I.syms[i - 1]).2 : Int))) = symBad I.words.length i (lastAt I.syms i) (I.syms[i]) := by simp only [symBad, *, Bool.true_or, Bool.or_true, Bool.false_or, Bool.or_false, Bool.true_and, Bool.and_true, Bool.false_and, Bool.and_false]
           have B226 := (hB.ext n4.ext).ext ed_7
           have B227 := n4.blk.ext ed_7
           exact ⟨G, h0_1, h1_1, h3_1, G, h43_1, G, G, G, G, G, G, G, G, G, G, congrArg Value.bool hcut, B226, B227, E167⟩
          ·refine WC.draw (fun w_ => Ext w4 w_) 50 G mixed ?_
           intro wd_7 ed_7
           have R229 : Ext w4 wd_7 := ed_7
           have E230 := Mt E3 ed_7
           refine Tk 0 (ptr b4 0) G G (fun _ _ => Fa G fo101_0 Ok) R229 (Tk 1 (St (I.syms[i]).1) G G (fun _ hS => Lo G ag9 ((n4.blk.ext hS).cell (j := 0) G) Ok) R229 (Tk 2 (IN ((I.syms[i]).1.length)) G G (fun _ _ => WL.lenSt Tryz.underlying9 G G Ok) R229 (Tk 3 (.bool (decide ((((I.syms[i]).1.length : Nat) : Int) < (1 : Int)))) G G (fun _ _ => Bn G G BinR.lss Ok) R229 (Tk 4 (.bool (decide ((((I.syms[i]).1.length : Nat) : Int) < (1 : Int)))) G G (fun _ _ => Mv _ G Ok) R229 (Tk 5 (ptr b4 0) G G (fun _ _ => Gt (Yb G G hd7_60) (Fa G fo101_0 Ok)) R229 (Tk 6 (St (I.syms[i]).1) G G (fun _ hS => Gt (Yb G G hd7_60) (Lo G ag9 ((n4.blk.ext hS).cell (j := 0) G) Ok)) R229 (Tk 7 (IN ((I.syms[i]).1.length)) G G (fun _ _ => Gt (Yb G G hd7_60) (WL.lenSt Tryz.underlying9 G G Ok)) R229 (Tk 8 (.bool (decide ((64 : Int) < (((I.syms[i]).1.length : Nat) : Int)))) G G (fun _ _ => Gt (Yb G G hd7_60) (Bn G G BinR.gtr Ok)) R229 (Tk 9 (.bool (decide ((64 : Int) < (((I.syms[i]).1.length : Nat) : Int)))) G G (fun _ _ => Pk (b := false) (congrArg Value.bool hd7_60) G Ok) R229 ?_)))))))))
           refine Tk 10 (.bool (decide ((64 : Int) < (((I.syms[i]).1.length : Nat) : Int)))) G G (fun _ _ => Mv _ G Ok) R229 (Tk 11 (ptr b4 1) G G (fun _ _ => Gt (Yb G G hd7_66) (Fa G fo101_1 Ok)) R229 (Tk 12 (.int .i64 ((I.syms[i]).2)) G G (fun _ hS => Gt (Yb G G hd7_66) (Lo G ag3 ((n4.blk.ext hS).cell (j := 1) G) Ok)) R229 (Tk 13 (.int .i64 ((I.syms[i]).2.tmod 4)) G G (fun _ _ => Gt (Yb G G hd7_66) (Bn G G (BinR.remT (by decide)) Ok)) R229 (Tk 14 (.bool ((((I.syms[i]).2.tmod 4 : Int) != (0 : Int)))) G G (fun _ _ => Gt (Yb G G hd7_66) (Bn G G BinR.neq Ok)) R229 (Tk 15 (.bool ((((I.syms[i]).2.tmod 4 : Int) != (0 : Int)))) G G (fun _ _ => Pk (b := false) (congrArg Value.bool hd7_66) G Ok) R229 (Tk 16 (.bool ((((I.syms[i]).2.tmod 4 : Int) != (0 : Int)))) G G (fun _ _ => Mv _ G Ok) R229 (Tk 17 (ptr b4 1) G G (fun _ _ => Gt (Yb G G hd7_72) (Fa G fo101_1 Ok)) R229 (Tk 18 (.int .i64 ((I.syms[i]).2)) G G (fun _ hS => Gt (Yb G G hd7_72) (Lo G ag3 ((n4.blk.ext hS).cell (j := 1) G) Ok)) R229 (Tk 19 (ptr b1 2) G G (fun _ _ => Gt (Yb G G hd7_72) (Fa h1_1 fo61_2 Ok)) R229 ?_)))))))))
           refine Tk 20 wv G G (fun _ hS => Gt (Yb G G hd7_72) (Lo G ag23 (((hB.ext n4.ext).ext hS).cell (j := 2) G) Ok)) R229 (Tk 21 (IN I.words.length) G G (fun wx hS => have E257 : Ext w wx := Mt E3 hS; Gt (Yb G G hd7_72) (WL.lenSl (sz := 1) (m := I.words.length) (xs := wordCells I.words) el23 G (hR.w.ext' E257) G Ok)) R229 (Tk 22 (IN ((4 * I.words.length))) G G (fun _ _ => Gt (Yb G G hd7_72) (Bn G G (BinR.mulN (a := 4) (b := I.words.length) (by omega)) Ok)) R229 (Tk 23 (.bool (decide ((((4 * I.words.length) : Nat) : Int) ≤ ((I.syms[i]).2 : Int)))) G G (fun _ _ => Gt (Yb G G hd7_72) (Bn G G BinR.geq Ok)) R229 (Tk 24 (.bool (decide ((((4 * I.words.length) : Nat) : Int) ≤ ((I.syms[i]).2 : Int)))) G G (fun _ _ => Pk (b := false) (congrArg Value.bool hd7_72) G Ok) R229 (Tk 25 (.bool (decide ((((4 * I.words.length) : Nat) : Int) ≤ ((I.syms[i]).2 : Int)))) G G (fun _ _ => Mv _ G Ok) R229 (Tk 26 (IN i) G G (fun _ _ => Gt (Yb G G hd7_81) (Mv (IN i) h3_1 Ok)) R229 (Tk 27 (.bool ((((i : Nat) : Int) == (0 : Int)))) G G (fun _ _ => Gt (Yb G G hd7_81) (Bn G G BinR.eql Ok)) R229 (Tk 28 (.bool ((((i : Nat) : Int) == (0 : Int)))) G G (fun _ _ => Gt (Yb G G hd7_81) (Mv _ G Ok)) R229 (Tk 29 (ptr b4 1) G G (fun _ _ => Gt (Yb G G hd7_84) (Fa G fo101_1 Ok)) R229 ?_)))))))))
           refine Tk 30 (.int .i64 ((I.syms[i]).2)) G G (fun _ hS => Gt (Yb G G hd7_84) (Lo G ag3 ((n4.blk.ext hS).cell (j := 1) G) Ok)) R229 (Tk 31 (.bool ((((I.syms[i]).2 : Int) != (0 : Int)))) G G (fun _ _ => Gt (Yb G G hd7_84) (Bn G G BinR.neq Ok)) R229 (Tk 32 (.bool ((((I.syms[i]).2 : Int) != (0 : Int)))) G G (fun _ _ => Gt (Yb G G hd7_81) (Pk (b := true) (congrArg Value.bool hd7_84) G Ok)) R229 (Tk 33 (.bool ((((I.syms[i]).2 : Int) != (0 : Int)))) G G (fun _ _ => Pk (b := false) (congrArg Value.bool hd7_81) G Ok) R229 (Tk 34 (.bool ((((I.syms[i]).2 : Int) != (0 : Int)))) G G (fun _ _ => Mv _ G Ok) R229 (Tk 35 (IN i) G G (fun _ _ => Gt (Yb G G hd7_90) (Mv (IN i) h3_1 Ok)) R229 (Tk 36 (.bool (decide ((0 : Int) < ((i : Nat) : Int)))) G G (fun _ _ => Gt (Yb G G hd7_90) (Bn G G BinR.gtr Ok)) R229 (Tk 37 (.bool (decide ((0 : Int) < ((i : Nat) : Int)))) G G (fun _ _ => Gt (Yb G G hd7_90) (Mv _ G Ok)) R229 (To 38 (some false) G G G (Yb G G hd7_93) R229 (To 39 (some false) G G G (Yb G G hd7_93) R229 ?_)))))))))
           refine To 40 (some false) G G G (Yb G G hd7_93) R229 (To 41 (some false) G G G (Yb G G hd7_93) R229 (To 42 (some false) G G G (Yb G G hd7_93) R229 (To 43 (some false) G G G (Yb G G hd7_93) R229 (To 44 (some false) G G G (Yb G G hd7_93) R229 (To 45 (some false) G G G (Yb G G hd7_93) R229 (To 46 (some false) G G G (Yb G G hd7_93) R229 (To 47 (some false) G G G (Yb G G hd7_93) R229 (Tk 48 (.bool false) G G (fun _ _ => Gt (Yb G G hd7_90) (Pk (b := false) (congrArg Value.bool hd7_93) G Ok)) R229 (Tk 49 (.bool false) G G (fun _ _ => Pk (b := false) (congrArg Value.bool hd7_90) G Ok) R229 ?_)))))))))
           refine WA.done (by kernel_rfl) ?_
           have hcut : false = symBad I.words.length i (lastAt I.syms i) (I.syms[i]) := by simp only [symBad, *, Bool.true_or, Bool.or_true, Bool.false_or, Bool.or_false, Bool.true_and, Bool.and_true, Bool.false_and, Bool.and_false]
           have B277 := (hB.ext n4.ext).ext ed_7
           have B278 := n4.blk.ext ed_7
           exact ⟨G, h0_1, h1_1, h3_1, G, h43_1, G, G, G, G, G, G, G, G, G, G, congrArg Value.bool hcut, B277, B278, E230⟩
        ·rcases Bool.eq_false_or_eq_true (decide ((0 : Int) < ((i : Nat) : Int))) with hd7_93 | hd7_93
         ·have hi0 : 0 < i := by have := of_decide_eq_true hd7_93; omega
          have hla := lastAt_pred I.syms i hi0 (by omega)
          refine WC.draw (fun w_ => Ext w4 w_) 50 G mixed ?_
          intro wd_7 ed_7
          have R280 : Ext w4 wd_7 := ed_7
          have E281 := Mt E3 ed_7
          refine Tk 0 (ptr b4 0) G G (fun _ _ => Fa G fo101_0 Ok) R280 (Tk 1 (St (I.syms[i]).1) G G (fun _ hS => Lo G ag9 ((n4.blk.ext hS).cell (j := 0) G) Ok) R280 (Tk 2 (IN ((I.syms[i]).1.length)) G G (fun _ _ => WL.lenSt Tryz.underlying9 G G Ok) R280 (Tk 3 (.bool (decide ((((I.syms[i]).1.length : Nat) : Int) < (1 : Int)))) G G (fun _ _ => Bn G G BinR.lss Ok) R280 (Tk 4 (.bool (decide ((((I.syms[i]).1.length : Nat) : Int) < (1 : Int)))) G G (fun _ _ => Mv _ G Ok) R280 (Tk 5 (ptr b4 0) G G (fun _ _ => Gt (Yb G G hd7_60) (Fa G fo101_0 Ok)) R280 (Tk 6 (St (I.syms[i]).1) G G (fun _ hS => Gt (Yb G G hd7_60) (Lo G ag9 ((n4.blk.ext hS).cell (j := 0) G) Ok)) R280 (Tk 7 (IN ((I.syms[i]).1.length)) G G (fun _ _ => Gt (Yb G G hd7_60) (WL.lenSt Tryz.underlying9 G G Ok)) R280 (Tk 8 (.bool (decide ((64 : Int) < (((I.syms[i]).1.length : Nat) : Int)))) G G (fun _ _ => Gt (Yb G G hd7_60) (Bn G G BinR.gtr Ok)) R280 (Tk 9 (.bool (decide ((64 : Int) < (((I.syms[i]).1.length : Nat) : Int)))) G G (fun _ _ => Pk (b := false) (congrArg Value.bool hd7_60) G Ok) R280 ?_)))))))))
          refine Tk 10 (.bool (decide ((64 : Int) < (((I.syms[i]).1.length : Nat) : Int)))) G G (fun _ _ => Mv _ G Ok) R280 (Tk 11 (ptr b4 1) G G (fun _ _ => Gt (Yb G G hd7_66) (Fa G fo101_1 Ok)) R280 (Tk 12 (.int .i64 ((I.syms[i]).2)) G G (fun _ hS => Gt (Yb G G hd7_66) (Lo G ag3 ((n4.blk.ext hS).cell (j := 1) G) Ok)) R280 (Tk 13 (.int .i64 ((I.syms[i]).2.tmod 4)) G G (fun _ _ => Gt (Yb G G hd7_66) (Bn G G (BinR.remT (by decide)) Ok)) R280 (Tk 14 (.bool ((((I.syms[i]).2.tmod 4 : Int) != (0 : Int)))) G G (fun _ _ => Gt (Yb G G hd7_66) (Bn G G BinR.neq Ok)) R280 (Tk 15 (.bool ((((I.syms[i]).2.tmod 4 : Int) != (0 : Int)))) G G (fun _ _ => Pk (b := false) (congrArg Value.bool hd7_66) G Ok) R280 (Tk 16 (.bool ((((I.syms[i]).2.tmod 4 : Int) != (0 : Int)))) G G (fun _ _ => Mv _ G Ok) R280 (Tk 17 (ptr b4 1) G G (fun _ _ => Gt (Yb G G hd7_72) (Fa G fo101_1 Ok)) R280 (Tk 18 (.int .i64 ((I.syms[i]).2)) G G (fun _ hS => Gt (Yb G G hd7_72) (Lo G ag3 ((n4.blk.ext hS).cell (j := 1) G) Ok)) R280 (Tk 19 (ptr b1 2) G G (fun _ _ => Gt (Yb G G hd7_72) (Fa h1_1 fo61_2 Ok)) R280 ?_)))))))))
          refine Tk 20 wv G G (fun _ hS => Gt (Yb G G hd7_72) (Lo G ag23 (((hB.ext n4.ext).ext hS).cell (j := 2) G) Ok)) R280 (Tk 21 (IN I.words.length) G G (fun wx hS => have E308 : Ext w wx := Mt E3 hS; Gt (Yb G G hd7_72) (WL.lenSl (sz := 1) (m := I.words.length) (xs := wordCells I.words) el23 G (hR.w.ext' E308) G Ok)) R280 (Tk 22 (IN ((4 * I.words.length))) G G (fun _ _ => Gt (Yb G G hd7_72) (Bn G G (BinR.mulN (a := 4) (b := I.words.length) (by omega)) Ok)) R280 (Tk 23 (.bool (decide ((((4 * I.words.length) : Nat) : Int) ≤ ((I.syms[i]).2 : Int)))) G G (fun _ _ => Gt (Yb G G hd7_72) (Bn G G BinR.geq Ok)) R280 (Tk 24 (.bool (decide ((((4 * I.words.length) : Nat) : Int) ≤ ((I.syms[i]).2 : Int)))) G G (fun _ _ => Pk (b := false) (congrArg Value.bool hd7_72) G Ok) R280 (Tk 25 (.bool (decide ((((4 * I.words.length) : Nat) : Int) ≤ ((I.syms[i]).2 : Int)))) G G (fun _ _ => Mv _ G Ok) R280 (Tk 26 (IN i) G G (fun _ _ => Gt (Yb G G hd7_81) (Mv (IN i) h3_1 Ok)) R280 (Tk 27 (.bool ((((i : Nat) : Int) == (0 : Int)))) G G (fun _ _ => Gt (Yb G G hd7_81) (Bn G G BinR.eql Ok)) R280 (Tk 28 (.bool ((((i : Nat) : Int) == (0 : Int)))) G G (fun _ _ => Gt (Yb G G hd7_81) (Mv _ G Ok)) R280 (To 29 (some false) G G G (Yb G G hd7_84) R280 ?_)))))))))
          refine To 30 (some false) G G G (Yb G G hd7_84) R280 (To 31 (some false) G G G (Yb G G hd7_84) R280 (Tk 32 (.bool false) G G (fun _ _ => Gt (Yb G G hd7_81) (Pk (b := false) (congrArg Value.bool hd7_84) G Ok)) R280 (Tk 33 (.bool false) G G (fun _ _ => Pk (b := false) (congrArg Value.bool hd7_81) G Ok) R280 (Tk 34 (.bool false) G G (fun _ _ => Mv _ G Ok) R280 (Tk 35 (IN i) G G (fun _ _ => Gt G (Mv (IN i) h3_1 Ok)) R280 (Tk 36 (.bool (decide ((0 : Int) < ((i : Nat) : Int)))) G G (fun _ _ => Gt G (Bn G G BinR.gtr Ok)) R280 (Tk 37 (.bool (decide ((0 : Int) < ((i : Nat) : Int)))) G G (fun _ _ => Gt G (Mv _ G Ok)) R280 (Tk 38 (ptr b4 1) G G (fun _ _ => Gt (Yb G G hd7_93) (Fa G fo101_1 Ok)) R280 (Tk 39 (.int .i64 ((I.syms[i]).2)) G G (fun _ hS => Gt (Yb G G hd7_93) (Lo G ag3 ((n4.blk.ext hS).cell (j := 1) G) Ok)) R280 ?_)))))))))
          refine Tk 40 (ptr b1 1) G G (fun _ _ => Gt (Yb G G hd7_93) (Fa h1_1 fo61_1 Ok)) R280 (Tk 41 sv G G (fun _ hS => Gt (Yb G G hd7_93) (Lo G ag59 (((hB.ext n4.ext).ext hS).cell (j := 1) G) Ok)) R280 (Tk 42 (IN i) G G (fun _ _ => Gt (Yb G G hd7_93) (Mv (IN i) h3_1 Ok)) R280 (Tk 43 (IN ((i - 1))) G G (fun _ _ => Gt (Yb G G hd7_93) (Bn G G (BinR.subN (a := i) (b := 1) (by omega) (by omega)) Ok)) R280 (Tk 44 (ptr bs0 (os0 + ((i - 1)) * 2)) G G (fun _ _ => Gt (Yb G G hd7_93) (WL.indexAddr (i := (i - 1)) (b := bs0) (o := os0) el59 sz101 (Eq.trans G es0) G (by omega) G Ok)) R280 (Tk 45 (ptr bs0 ((os0 + ((i - 1)) * 2) + 1)) G G (fun _ _ => Gt (Yb G G hd7_93) (Fa G fo101_1 Ok)) R280 (Tk 46 (.int .i64 ((I.syms[i - 1]).2)) G G (fun wx hS => have E332 : Ext w wx := Mt E3 hS; Gt (Yb G G hd7_93) (Lo G ag3 ((hcs0.ext E332) ((i - 1) * 2 + 1) _ (symCells_get I.syms (i - 1) (by omega)).2) Ok)) R280 (Tk 47 (.bool (decide (((I.syms[i]).2 : Int) ≤ ((I.syms[i - 1]).2 : Int)))) G G (fun _ _ => Gt (Yb G G hd7_93) (Bn G G BinR.leq Ok)) R280 (Tk 48 (.bool (decide (((I.syms[i]).2 : Int) ≤ ((I.syms[i - 1]).2 : Int)))) G G (fun _ _ => Gt G (Pk (b := true) (congrArg Value.bool hd7_93) G Ok)) R280 (Tk 49 (.bool (decide (((I.syms[i]).2 : Int) ≤ ((I.syms[i - 1]).2 : Int)))) G G (fun _ _ => Pk (b := false) G G Ok) R280 ?_)))))))))
          refine WA.done (by kernel_rfl) ?_
          have hcut : (decide (((I.syms[i]).2 : Int) ≤ ((I.syms[i - 1]).2 : Int))) = symBad I.words.length i (lastAt I.syms i) (I.syms[i]) := by simp only [symBad, *, Bool.true_or, Bool.or_true, Bool.false_or, Bool.or_false, Bool.true_and, Bool.and_true, Bool.false_and, Bool.and_false]
          have B336 := (hB.ext n4.ext).ext ed_7
          have B337 := n4.blk.ext ed_7
          exact ⟨G, h0_1, h1_1, h3_1, G, h43_1, G, G, G, G, G, G, G, G, G, G, congrArg Value.bool hcut, B336, B337, E281⟩
         ·refine WC.draw (fun w_ => Ext w4 w_) 50 G mixed ?_
          intro wd_7 ed_7
          have R339 : Ext w4 wd_7 := ed_7
          have E340 := Mt E3 ed_7
          refine Tk 0 (ptr b4 0) G G (fun _ _ => Fa G fo101_0 Ok) R339 (Tk 1 (St (I.syms[i]).1) G G (fun _ hS => Lo G ag9 ((n4.blk.ext hS).cell (j := 0) G) Ok) R339 (Tk 2 (IN ((I.syms[i]).1.length)) G G (fun _ _ => WL.lenSt Tryz.underlying9 G G Ok) R339 (Tk 3 (.bool (decide ((((I.syms[i]).1.length : Nat) : Int) < (1 : Int)))) G G (fun _ _ => Bn G G BinR.lss Ok) R339 (Tk 4 (.bool (decide ((((I.syms[i]).1.length : Nat) : Int) < (1 : Int)))) G G (fun _ _ => Mv _ G Ok) R339 (Tk 5 (ptr b4 0) G G (fun _ _ => Gt (Yb G G hd7_60) (Fa G fo101_0 Ok)) R339 (Tk 6 (St (I.syms[i]).1) G G (fun _ hS => Gt (Yb G G hd7_60) (Lo G ag9 ((n4.blk.ext hS).cell (j := 0) G) Ok)) R339 (Tk 7 (IN ((I.syms[i]).1.length)) G G (fun _ _ => Gt (Yb G G hd7_60) (WL.lenSt Tryz.underlying9 G G Ok)) R339 (Tk 8 (.bool (decide ((64 : Int) < (((I.syms[i]).1.length : Nat) : Int)))) G G (fun _ _ => Gt (Yb G G hd7_60) (Bn G G BinR.gtr Ok)) R339 (Tk 9 (.bool (decide ((64 : Int) < (((I.syms[i]).1.length : Nat) : Int)))) G G (fun _ _ => Pk (b := false) (congrArg Value.bool hd7_60) G Ok) R339 ?_)))))))))
          refine Tk 10 (.bool (decide ((64 : Int) < (((I.syms[i]).1.length : Nat) : Int)))) G G (fun _ _ => Mv _ G Ok) R339 (Tk 11 (ptr b4 1) G G (fun _ _ => Gt (Yb G G hd7_66) (Fa G fo101_1 Ok)) R339 (Tk 12 (.int .i64 ((I.syms[i]).2)) G G (fun _ hS => Gt (Yb G G hd7_66) (Lo G ag3 ((n4.blk.ext hS).cell (j := 1) G) Ok)) R339 (Tk 13 (.int .i64 ((I.syms[i]).2.tmod 4)) G G (fun _ _ => Gt (Yb G G hd7_66) (Bn G G (BinR.remT (by decide)) Ok)) R339 (Tk 14 (.bool ((((I.syms[i]).2.tmod 4 : Int) != (0 : Int)))) G G (fun _ _ => Gt (Yb G G hd7_66) (Bn G G BinR.neq Ok)) R339 (Tk 15 (.bool ((((I.syms[i]).2.tmod 4 : Int) != (0 : Int)))) G G (fun _ _ => Pk (b := false) (congrArg Value.bool hd7_66) G Ok) R339 (Tk 16 (.bool ((((I.syms[i]).2.tmod 4 : Int) != (0 : Int)))) G G (fun _ _ => Mv _ G Ok) R339 (Tk 17 (ptr b4 1) G G (fun _ _ => Gt (Yb G G hd7_72) (Fa G fo101_1 Ok)) R339 (Tk 18 (.int .i64 ((I.syms[i]).2)) G G (fun _ hS => Gt (Yb G G hd7_72) (Lo G ag3 ((n4.blk.ext hS).cell (j := 1) G) Ok)) R339 (Tk 19 (ptr b1 2) G G (fun _ _ => Gt (Yb G G hd7_72) (Fa h1_1 fo61_2 Ok)) R339 ?_)))))))))
          refine Tk 20 wv G G (fun _ hS => Gt (Yb G G hd7_72) (Lo G ag23 (((hB.ext n4.ext).ext hS).cell (j := 2) G) Ok)) R339 (Tk 21 (IN I.words.length) G G (fun wx hS => have E367 : Ext w wx := Mt E3 hS; Gt (Yb G G hd7_72) (WL.lenSl (sz := 1) (m := I.words.length) (xs := wordCells I.words) el23 G (hR.w.ext' E367) G Ok)) R339 (Tk 22 (IN ((4 * I.words.length))) G G (fun _ _ => Gt (Yb G G hd7_72) (Bn G G (BinR.mulN (a := 4) (b := I.words.length) (by omega)) Ok)) R339 (Tk 23 (.bool (decide ((((4 * I.words.length) : Nat) : Int) ≤ ((I.syms[i]).2 : Int)))) G G (fun _ _ => Gt (Yb G G hd7_72) (Bn G G BinR.geq Ok)) R339 (Tk 24 (.bool (decide ((((4 * I.words.length) : Nat) : Int) ≤ ((I.syms[i]).2 : Int)))) G G (fun _ _ => Pk (b := false) (congrArg Value.bool hd7_72) G Ok) R339 (Tk 25 (.bool (decide ((((4 * I.words.length) : Nat) : Int) ≤ ((I.syms[i]).2 : Int)))) G G (fun _ _ => Mv _ G Ok) R339 (Tk 26 (IN i) G G (fun _ _ => Gt (Yb G G hd7_81) (Mv (IN i) h3_1 Ok)) R339 (Tk 27 (.bool ((((i : Nat) : Int) == (0 : Int)))) G G (fun _ _ => Gt (Yb G G hd7_81) (Bn G G BinR.eql Ok)) R339 (Tk 28 (.bool ((((i : Nat) : Int) == (0 : Int)))) G G (fun _ _ => Gt (Yb G G hd7_81) (Mv _ G Ok)) R339 (To 29 (some false) G G G (Yb G G hd7_84) R339 ?_)))))))))
          refine To 30 (some false) G G G (Yb G G hd7_84) R339 (To 31 (some false) G G G (Yb G G hd7_84) R339 (Tk 32 (.bool false) G G (fun _ _ => Gt (Yb G G hd7_81) (Pk (b := false) (congrArg Value.bool hd7_84) G Ok)) R339 (Tk 33 (.bool false) G G (fun _ _ => Pk (b := false) (congrArg Value.bool hd7_81) G Ok) R339 (Tk 34 (.bool false) G G (fun _ _ => Mv _ G Ok) R339 (Tk 35 (IN i) G G (fun _ _ => Gt G (Mv (IN i) h3_1 Ok)) R339 (Tk 36 (.bool (decide ((0 : Int) < ((i : Nat) : Int)))) G G (fun _ _ => Gt G (Bn G G BinR.gtr Ok)) R339 (Tk 37 (.bool (decide ((0 : Int) < ((i : Nat) : Int)))) G G (fun _ _ => Gt G (Mv _ G Ok)) R339 (To 38 (some false) G G G (Yb G G hd7_93) R339 (To 39 (some false) G G G (Yb G G hd7_93) R339 ?_)))))))))
          refine To 40 (some false) G G G (Yb G G hd7_93) R339 (To 41 (some false) G G G (Yb G G hd7_93) R339 (To 42 (some false) G G G (Yb G G hd7_93) R339 (To 43 (some false) G G G (Yb G G hd7_93) R339 (To 44 (some false) G G G (Yb G G hd7_93) R339 (To 45 (some false) G G G (Yb G G hd7_93) R339 (To 46 (some false) G G G (Yb G G hd7_93) R339 (To 47 (some false) G G G (Yb G G hd7_93) R339 (Tk 48 (.bool false) G G (fun _ _ => Gt G (Pk (b := false) (congrArg Value.bool hd7_93) G Ok)) R339 (Tk 49 (.bool false) G G (fun _ _ => Pk (b := false) G G Ok) R339 ?_)))))))))
          refine WA.done (by kernel_rfl) ?_
          have hcut : false = symBad I.words.length i (lastAt I.syms i) (I.syms[i]) := by simp only [symBad, *, Bool.true_or, Bool.or_true, Bool.false_or, Bool.or_false, Bool.true_and, Bool.and_true, Bool.false_and, Bool.and_false]
          have B383 := (hB.ext n4.ext).ext ed_7
          have B384 := n4.blk.ext ed_7
          exact ⟨G, h0_1, h1_1, h3_1, G, h43_1, G, G, G, G, G, G, G, G, G, G, congrArg Value.bool hcut, B383, B384, E340⟩
   rintro fc7 wc7 ⟨hc7_0, hc7_1, hc7_3, hc7_4, hc7_43, hc7_44, hc7_45, hc7_46, hc7_47, hc7_48, hc7_51, hc7_52, hc7_53, hc7_54, hc7_55, hc7_105, hB7, hB47, hE7⟩
   refine WC.cond hc7_105 (fun hc105 => ?_) (fun hc105 => ?_)
   ·have hbad := todo_bad hi hc105
    refine Sr (An (.bool false) G (Ni (WC.ret ?_)))
    have hfin : ((.bool false) : Value) = Value.bool (rightB I) := congrArg Value.bool (by first | exact hrf.symm | exact (ht.trans hbad).symm | exact (ht.trans hdup).symm | exact (ht.trans (todo_end I i (by omega) hi)).symm)
    exact ⟨_, Res.one (v := .bool false) G G, hfin, hE7⟩
   ·refine WC.skip (Sr (An (IN 0) G (Ni (Bk ?_))))
    refine WC.loop (fun k f w_ => ∃ q, (k + q = i) ∧ (∀ m (hm : m < q) (hm2 : m < I.syms.length), (I.syms[m]).1 ≠ (I.syms[i]).1) ∧ f 0 = .agg #[.int .i64 I.entry, sv, wv] ∧ f 1 = ptr b1 0 ∧ f 3 = IN i ∧ f 4 = ptr b4 0 ∧ f 5 = IN q ∧ f 43 = .bool (headBad I) ∧ f 44 = IN i ∧ f 45 = ptr b1 1 ∧ f 46 = sv ∧ f 47 = IN I.syms.length ∧ f 48 = .bool (decide (((i : Nat) : Int) < ((I.syms.length : Nat) : Int))) ∧ f 51 = ptr b1 1 ∧ f 52 = sv ∧ f 53 = IN i ∧ f 54 = ptr bs0 (os0 + i * 2) ∧ f 55 = .agg #[St (I.syms[i]).1, .int .i64 ((I.syms[i]).2)] ∧ f 105 = .bool (symBad I.words.length i (lastAt I.syms i) (I.syms[i])) ∧ (Ext w w_) ∧ (Blk w_ b1 #[.int .i64 I.entry, sv, wv] 61) ∧ (Blk w_ b4 #[St (I.syms[i]).1, .int .i64 (I.syms[i]).2] 101)) i ?_ ?_
    ·exact ⟨0, by omega, fun m hm => absurd hm (by omega), hc7_0, hc7_1, hc7_3, hc7_4, G, hc7_43, hc7_44, hc7_45, hc7_46, hc7_47, hc7_48, hc7_51, hc7_52, hc7_53, hc7_54, hc7_55, hc7_105, hE7, hB7, hB47⟩
    rintro kb f2 wr2 ⟨q, hk2, hnd, h0_2, h1_2, h3_2, h4_2, h5_2, h43_2, h44_2, h45_2, h46_2, h47_2, h48_2, h51_2, h52_2, h53_2, h54_2, h55_2, h105_2, hE2, hB2, hB42⟩
    refine Sq (Sr (Mv (IN q) h5_2 (Mv (IN i) h3_2 (Bn G G BinR.lss (Ni ?_)))))
    refine WC.cond G (fun hc108 => ?_) (fun hc108 => ?_)
    ·have hq : q < i := by have := of_decide_eq_true hc108; omega
     refine WC.skip (Sq (Bk (Sq (WC.draw (fun w_ => Ext wr2 w_) 9 G mixed ?_))))
     intro wd_12 ed_12
     have R386 : Ext wr2 wd_12 := ed_12
     have E387 := Mt hE2 ed_12
     refine Tk 0 (ptr b1 1) G G (fun _ _ => Fa h1_2 fo61_1 Ok) R386 (Tk 1 sv G G (fun _ hS => Lo G ag59 ((hB2.ext hS).cell (j := 1) G) Ok) R386 (Tk 2 (IN q) G G (fun _ _ => Mv (IN q) h5_2 Ok) R386 (Tk 3 (ptr bs0 (os0 + q * 2)) G G (fun _ _ => WL.indexAddr (i := q) (b := bs0) (o := os0) el59 sz101 (Eq.trans G es0) G (by omega) G Ok) R386 (Tk 4 (ptr bs0 (os0 + q * 2)) G G (fun _ _ => Fa G fo101_0 Ok) R386 (Tk 5 (St (I.syms[q]).1) G G (fun wx hS => have E394 : Ext w wx := Mt hE2 hS; Lo G ag9 ((hcs0.ext E394) (q * 2) _ (symCells_get I.syms q (by omega)).1) Ok) R386 (Tk 6 (ptr b4 0) G G (fun _ _ => Fa h4_2 fo101_0 Ok) R386 (Tk 7 (St (I.syms[i]).1) G G (fun _ hS => Lo G ag9 ((hB42.ext hS).cell (j := 0) G) Ok) R386 (Tk 8 (.bool (((I.syms[q]).1 == (I.syms[i]).1))) G G (fun _ _ => Bn G G BinR.eqlS Ok) R386 (WA.done (by kernel_rfl) ?_)))))))))
     refine WC.cond G (fun hc119 => ?_) (fun hc119 => ?_)
     ·have hdup := todo_dup hi (dup_of hi hq (by simpa using hc119))
      refine Sr (An (.bool false) G (Ni (WC.ret ?_)))
      have hfin : ((.bool false) : Value) = Value.bool (rightB I) := congrArg Value.bool (by first | exact hrf.symm | exact (ht.trans hbad).symm | exact (ht.trans hdup).symm | exact (ht.trans (todo_end I i (by omega) hi)).symm)
      exact ⟨_, Res.one (v := .bool false) G G, hfin, E387⟩
     ·have hne : (I.syms[q]).1 ≠ (I.syms[i]).1 := by simpa using hc119
      refine WC.skip (Rg (Mv (IN q) h5_2 (Bn G G (BinR.succN (by omega)) (An (IN (q + 1)) G (Ni ?_)))))
      have B399 := hB2.ext ed_12
      have B400 := hB42.ext ed_12
      exact ⟨kb - 1, by omega, (q + 1), by omega, fun m hm hm2 => by by_cases e : m = q; (subst e; exact hne); exact hnd m (by omega) hm2, h0_2, h1_2, h3_2, h4_2, G, h43_2, h44_2, h45_2, h46_2, h47_2, h48_2, h51_2, h52_2, h53_2, h54_2, h55_2, h105_2, E387, B399, B400⟩
    ·have hq : i ≤ q := by have := of_decide_eq_false hc108; omega
     have hnx := todo_next hi hl hc105 (nodup_of hi (fun m hm => hnd m (by omega) (by omega)))
     refine WC.exit (Rg (Mv (IN i) h3_2 (Bn G G (BinR.succN (by omega)) (An (IN (i + 1)) G (Ni ?_)))))
     exact ⟨ka - 1, by omega, (i + 1), by omega, ht.trans hnx.1, fun _ => hnx.2, h0_2, h1_2, G, h43_2, hE2, hB2⟩
  ·have hi : I.syms.length ≤ i := by have := of_decide_eq_false hc48; omega
   refine WC.exit (Sr (An (.bool true) G (Ni (WC.ret ?_))))
   have hfin : ((.bool true) : Value) = Value.bool (rightB I) := congrArg Value.bool (by first | exact hrf.symm | exact (ht.trans hbad).symm | exact (ht.trans hdup).symm | exact (ht.trans (todo_end I i (by omega) hi)).symm)
   exact ⟨_, Res.one (v := .bool true) G G, hfin, hE⟩
end Go.Proofs.R
end
section
set_option linter.unusedSimpArgs false
set_option linter.unusedVariables false
namespace Go.Proofs.R
open Go Go.Ux Go.Ux.Image Go.Proofs
theorem zt61 : zeroT Tryz.prog 61 = some #[.int .i64 0, .slice none 0 0, .slice none 0 0] := by kernel_rfl
theorem bld23_9 (e : Int) (a : Option Addr) (l c : Nat) : ∀ w : World, (Instr.build 61 #[(0, .int .i64 e), (2, .slice a l c)]).run Tryz.prog w = .ok (.agg #[.int .i64 e, .slice none 0 0, .slice a l c]) w := fun _ => by kernel_rfl
theorem sz61 : sizeT Tryz.prog 61 = some 3 := by kernel_rfl
theorem bld23_31 (a : List UInt8) (b : Int) : ∀ w : World, (Instr.build 101 #[(0, St a), (1, .int .i64 b)]).run Tryz.prog w = .ok (.agg #[St a, .int .i64 b]) w := fun _ => by kernel_rfl
theorem bls23_32 (a : List UInt8) (b : Int) : ∀ w : World, (Instr.buildSlice 59 1 #[(0, .agg #[St a, .int .i64 b])]).run Tryz.prog w = .ok (.slice (some ⟨w.heap.size, 0, none⟩) 1 1) (w.alloc (.cells #[St a, .int .i64 b] 101)) := fun _ => by kernel_rfl
theorem ap59 : appT Tryz.prog 59 = some (101, 2, 24, #[.string ⟨#[]⟩, .int .i64 0]) := by kernel_rfl
theorem sz59 : sizeT Tryz.prog 59 = some 1 := by kernel_rfl
theorem ag61 : isAggT Tryz.prog 61 = some true := by kernel_rfl
theorem sym_one (a : List UInt8) (b : Int) : ∀ u ∈ [St a, Value.int .i64 b], u.oneCell' = true := by
 intro u hu; simp at hu; rcases hu with rfl | rfl <;> rfl
theorem symCells_take (l : List (List UInt8 × Int)) (i : Nat) (h : i < l.length) : symCells (l.take i) ++ [St (l[i]).1, .int .i64 (l[i]).2] = symCells (l.take (i + 1)) := by
 unfold symCells; rw [List.take_succ_eq_append_getElem h, List.flatMap_append]; rfl
theorem plain_spec (sv wv : Value) (I : Img) (w : World) (hR : Rep w sv wv I) : CallsR Tryz.prog 23 #[.agg #[.int .i64 I.entry, sv, wv]] w (fun v w' => ∃ u, v = .agg #[.int .i64 I.entry, u, wv] ∧ Ux.Own w' 2 u I.syms.length (symCells I.syms) ∧ From w.heap.size u ∧ Ext w w') := by
 have hI1 := hR.ls
 have hI2 := hR.lw
 refine callsR_of Tryz.func23 G G G ?_
 refine Sr (WL.box (v := .agg #[.int .i64 I.entry, sv, wv]) G G ?_)
 intro b1 w1 n1
 have E1 : Ext w w1 := n1.ext
 refine WL.alloc zt61 G ?_
 intro b2 w2 n2
 have E2 := Mt E1 n2.ext
 refine Ni (Sr (Fa G fo25_0 ?_))
 have B3 := n1.blk.ext n2.ext
 refine Lo G ag3 (B3.cell (j := 0) G) (Fa G fo25_2 (Lo G ag23 (B3.cell (j := 2) G) (WL.build (v := .agg #[.int .i64 I.entry, .slice none 0 0, wv]) (vs := [(0, .int .i64 I.entry), (2, wv)]) G (by obtain ⟨a, l, c, e⟩ := hR.w.slc; rw [e]; exact bld23_9 _ a l c) G (WL.allocStore (v := .agg #[.int .i64 I.entry, .slice none 0 0, wv]) zt61 G sz61 G G (ones3 G G (hR.w.ext' E2).one) G ?_))))
 intro b3 w3 n3
 have E4 := Mt E2 n3.ext
 refine Ni ?_
 have hb : w.heap.size ≤ b1 ∧ b1 < b2 ∧ b2 < b3 := by have := n1.num; have := n1.size; have := n2.num; have := n2.size; have := n3.num; omega
 refine Sq (Sr (An (IN 0) G (Ni (Bk ?_))))
 refine WC.loop (fun k f w_ => ∃ i v, (k + i = I.syms.length) ∧ f 0 = .agg #[.int .i64 I.entry, sv, wv] ∧ f 1 = ptr b1 0 ∧ f 2 = ptr b2 0 ∧ f 3 = ptr b3 0 ∧ f 4 = IN i ∧ f 5 = ptr b1 0 ∧ f 6 = .int .i64 I.entry ∧ f 7 = ptr b1 2 ∧ f 8 = wv ∧ f 9 = .agg #[.int .i64 I.entry, .slice none 0 0, wv] ∧ (Ext w w_) ∧ (Blk w_ b1 #[.int .i64 I.entry, sv, wv] 25) ∧ (Blk w_ b2 #[.int .i64 0, .slice none 0 0, .slice none 0 0] 61) ∧ (Blk w_ b3 #[.int .i64 I.entry, v, wv] 61) ∧ (Ux.Own w_ 2 v i (symCells (I.syms.take i))) ∧ (From w.heap.size v) ∧ (v.ownBlock ≠ some b1) ∧ (v.ownBlock ≠ some b2) ∧ (v.ownBlock ≠ some b3)) I.syms.length ?_ ?_
 have B5 := B3.ext n3.ext
 have B6 := n2.blk.ext n3.ext
 ·exact ⟨0, (.slice none 0 0), by omega, G, G, G, G, G, G, G, G, G, G, E4, B5, B6, n3.blk, Ux.Own.nil _ _, (fun g hg => by cases hg), (fun h => by cases h), (fun h => by cases h), (fun h => by cases h)⟩
 rintro ka f1 wr ⟨i, v, hk1, h0_1, h1_1, h2_1, h3_1, h4_1, h5_1, h6_1, h7_1, h8_1, h9_1, hE, hB1, hB2, hB3, hO, hF, hn1, hn2, hn3⟩
 refine Sq (Sr (Mv (IN i) h4_1 (Fa h1_1 fo25_1 (Lo G ag22 (hB1.cell (j := 1) G) (WL.lenSl (sz := 2) (m := I.syms.length) (xs := symCells I.syms) el22 G (hR.s.ext' hE) G (Bn G G BinR.lss (Ni ?_)))))))
 refine WC.cond G (fun hc14 => ?_) (fun hc14 => ?_)
 ·have hi : i < I.syms.length := by have := of_decide_eq_true hc14; omega
  obtain ⟨bs0, os0, cs0, es0, hcs0⟩ := hR.s.at (by omega)
  refine WC.skip (Sq (Bk (WC.draw (fun w_ => Ext w w_ ∧ Blk w_ b1 #[.int .i64 I.entry, sv, wv] 25) 19 G mixed ?_)))
  intro wd_5 ed_5
  have E8 := Mt hE ed_5
  have B9 := hB1.ext ed_5
  refine Tk 0 (ptr b3 1) G G (fun _ _ => Fa h3_1 fo61_1 Ok) (⟨E8, B9⟩) (Tk 2 (ptr b1 1) G G (fun _ _ => Fa h1_1 fo25_1 Ok) (⟨E8, B9⟩) (Tk 3 sv G G (fun _ hS => Lo G ag22 (hS.2.cell (j := 1) G) Ok) (⟨E8, B9⟩) (Tk 4 (IN i) G G (fun _ _ => Mv (IN i) h4_1 Ok) (⟨E8, B9⟩) (Tk 5 (ptr bs0 (os0 + i * 2)) G G (fun _ _ => WL.indexAddr (i := i) (b := bs0) (o := os0) el22 sz98 (Eq.trans G es0) G (by omega) G Ok) (⟨E8, B9⟩) (Tk 6 (ptr bs0 (os0 + i * 2)) G G (fun _ _ => Fa G fo98_0 Ok) (⟨E8, B9⟩) (Tk 7 (St (I.syms[i]).1) G G (fun _ hS => Lo G ag9 ((hcs0.ext hS.1) (i * 2) _ (symCells_get I.syms i (by omega)).1) Ok) (⟨E8, B9⟩) (Tk 8 (ptr b1 1) G G (fun _ _ => Fa h1_1 fo25_1 Ok) (⟨E8, B9⟩) (Tk 9 sv G G (fun _ hS => Lo G ag22 (hS.2.cell (j := 1) G) Ok) (⟨E8, B9⟩) (Tk 10 (IN i) G G (fun _ _ => Mv (IN i) h4_1 Ok) (⟨E8, B9⟩) ?_)))))))))
  refine Tk 11 (ptr bs0 (os0 + i * 2)) G G (fun _ _ => WL.indexAddr (i := i) (b := bs0) (o := os0) el22 sz98 (Eq.trans G es0) G (by omega) G Ok) (⟨E8, B9⟩) (Tk 12 (ptr bs0 ((os0 + i * 2) + 1)) G G (fun _ _ => Fa G fo98_1 Ok) (⟨E8, B9⟩) (Tk 13 (.int .i64 ((I.syms[i]).2)) G G (fun _ hS => Lo G ag3 ((hcs0.ext hS.1) (i * 2 + 1) _ (symCells_get I.syms i (by omega)).2) Ok) (⟨E8, B9⟩) (Tk 14 (.agg #[St (I.syms[i]).1, .int .i64 ((I.syms[i]).2)]) G G (fun _ _ => WL.build (v := .agg #[St (I.syms[i]).1, .int .i64 ((I.syms[i]).2)]) (vs := [(0, St (I.syms[i]).1), (1, .int .i64 ((I.syms[i]).2))]) G (bld23_31 (I.syms[i]).1 (I.syms[i]).2) G Ok) (⟨E8, B9⟩) ?_)))
  refine WA.two (i := 1) (j := 15) (mi := 32767) (mj := 65533) (by kernel_rfl) G G G G ?_ ?_
  ·have B10 := hB3.ext ed_5
   refine Lo G ag59 (B10.cell (j := 1) G) (WL.behind (⟨E8, B9⟩) (WA.one (i := 15) (m' := 65535) (by kernel_rfl) G G (WL.buildSlice (vs := [(0, .agg #[St (I.syms[i]).1, .int .i64 ((I.syms[i]).2)])]) G (bls23_32 (I.syms[i]).1 (I.syms[i]).2) G ?_)))
   intro b32 w32 n32
   have E12 := Mt E8 n32.ext
   have B13 := B9.ext n32.ext
   refine WL.behind (⟨E12, B13⟩) (WA.one (i := 16) (m' := 131071) (by kernel_rfl) G G ?_)
   have O14 := (hO.ext ed_5).ext n32.ext
   refine WL.append (k := i) (m := 1) (xs := symCells (I.syms.take i)) (news := [St (I.syms[i]).1, .int .i64 (I.syms[i]).2]) ap59 G G G O14 (Src.ofSlice _ Tryz.underlying59 ⟨b32, 0, none⟩ 1 1 _ G (fun j u hj => by rw [addr_add]; exact n32.blk.cells j u hj) (sym_one _ _)) (by omega) (by omega) rfl ?_
   intro v33 w33 o33 m33 l33
   have o33b : Ux.Own w33 2 v33 (i + 1) (symCells (I.syms.take (i + 1))) := by rw [symCells_take _ _ hi] at o33; exact o33
   have F15 : From w.heap.size v33 := LocV.from l33 (Mod.size E12) hF
   have N16 : v33.ownBlock ≠ some b1 := LocV.ne l33 B13.lt hn1
   have B18 := (hB2.ext ed_5).ext n32.ext
   have N17 : v33.ownBlock ≠ some b2 := LocV.ne l33 B18.lt hn2
   have B20 := B10.ext n32.ext
   have N19 : v33.ownBlock ≠ some b3 := LocV.ne l33 B20.lt hn3
   have E21 : Ext w w33 := Mod.from E12 m33 hF
   have B22 := B13.mod m33 hn1
   refine WL.behind (⟨E21, B22⟩) (Tk 17 (ptr b3 1) G G (fun _ _ => Fa h3_1 fo61_1 Ok) (⟨E21, B22⟩) (WA.one (i := 18) (m' := 524287) (by kernel_rfl) G G ?_))
   have B23 := B20.mod m33 hn3
   refine WL.storeB (v := v33) G G o33b.sl.one sz59 B23 (Nat.le_of_ble_eq_true G) ?_
   intro ws24 ms24 bs24 zs24
   have E24 : Ext w ws24 := Mod.then E21 ms24 (fun i hi (e : i = b3) => absurd hi (by omega))
   have B25 := B22.mod ms24 (by omega)
   refine WL.behind (⟨E24, B25⟩) (WA.done (by kernel_rfl) (Rg (Mv (IN i) h4_1 (Bn G G (BinR.succN (by omega)) (An (IN (i + 1)) G (Ni ?_))))))
   have B26 := (B18.mod m33 hn2).mod ms24 (by omega)
   have O27 := o33b.mod ms24 (fun g hg e => N19 (hg.trans (congrArg some e)))
   exact ⟨ka - 1, by omega, (i + 1), v33, by omega, h0_1, h1_1, h2_1, h3_1, G, h5_1, h6_1, h7_1, h8_1, h9_1, E24, B25, B26, bs24, O27, F15, N16, N17, N19⟩
  ·refine WL.buildSlice (vs := [(0, .agg #[St (I.syms[i]).1, .int .i64 ((I.syms[i]).2)])]) G (bls23_32 (I.syms[i]).1 (I.syms[i]).2) G ?_
   intro b32 w32 n32
   have E29 := Mt E8 n32.ext
   have B30 := B9.ext n32.ext
   refine WL.behind (⟨E29, B30⟩) (WA.one (i := 1) (m' := 65535) (by kernel_rfl) G G ?_)
   have B31 := (hB3.ext ed_5).ext n32.ext
   refine Lo G ag59 (B31.cell (j := 1) G) (WL.behind (⟨E29, B30⟩) (WA.one (i := 16) (m' := 131071) (by kernel_rfl) G G ?_))
   have O32 := (hO.ext ed_5).ext n32.ext
   refine WL.append (k := i) (m := 1) (xs := symCells (I.syms.take i)) (news := [St (I.syms[i]).1, .int .i64 (I.syms[i]).2]) ap59 G G G O32 (Src.ofSlice _ Tryz.underlying59 ⟨b32, 0, none⟩ 1 1 _ G (fun j u hj => by rw [addr_add]; exact n32.blk.cells j u hj) (sym_one _ _)) (by omega) (by omega) rfl ?_
   intro v33 w33 o33 m33 l33
   have o33b : Ux.Own w33 2 v33 (i + 1) (symCells (I.syms.take (i + 1))) := by rw [symCells_take _ _ hi] at o33; exact o33
   have F33 : From w.heap.size v33 := LocV.from l33 (Mod.size E29) hF
   have N34 : v33.ownBlock ≠ some b1 := LocV.ne l33 B30.lt hn1
   have B36 := (hB2.ext ed_5).ext n32.ext
   have N35 : v33.ownBlock ≠ some b2 := LocV.ne l33 B36.lt hn2
   have N37 : v33.ownBlock ≠ some b3 := LocV.ne l33 B31.lt hn3
   have E38 : Ext w w33 := Mod.from E29 m33 hF
   have B39 := B30.mod m33 hn1
   refine WL.behind (⟨E38, B39⟩) (Tk 17 (ptr b3 1) G G (fun _ _ => Fa h3_1 fo61_1 Ok) (⟨E38, B39⟩) (WA.one (i := 18) (m' := 524287) (by kernel_rfl) G G ?_))
   have B40 := B31.mod m33 hn3
   refine WL.storeB (v := v33) G G o33b.sl.one sz59 B40 (Nat.le_of_ble_eq_true G) ?_
   intro ws41 ms41 bs41 zs41
   have E41 : Ext w ws41 := Mod.then E38 ms41 (fun i hi (e : i = b3) => absurd hi (by omega))
   have B42 := B39.mod ms41 (by omega)
   refine WL.behind (⟨E41, B42⟩) (WA.done (by kernel_rfl) (Rg (Mv (IN i) h4_1 (Bn G G (BinR.succN (by omega)) (An (IN (i + 1)) G (Ni ?_))))))
   have B43 := (B36.mod m33 hn2).mod ms41 (by omega)
   have O44 := o33b.mod ms41 (fun g hg e => N37 (hg.trans (congrArg some e)))
   exact ⟨ka - 1, by omega, (i + 1), v33, by omega, h0_1, h1_1, h2_1, h3_1, G, h5_1, h6_1, h7_1, h8_1, h9_1, E41, B42, B43, bs41, O44, F33, N34, N35, N37⟩
 ·have hi : I.syms.length ≤ i := by have := of_decide_eq_false hc14; omega
  refine WC.exit (Sr (Ls [.int .i64 I.entry, v, wv] h3_1 ag61 sz61 hB3 (WL.storeS (v := .agg #[.int .i64 I.entry, v, wv]) h2_1 G hB2 G sz61 G (ones3 G hO.sl.one (hR.w.ext' hE).one) ?_)))
  intro ws45 ms45 bs45 zs45
  have E45 : Ext w ws45 := Mod.then hE ms45 (fun i hi (e : i = b2) => absurd hi (by omega))
  refine Ni (WC.ret ?_)
  have O46 := hO.mod ms45 (fun g hg e => hn2 (hg.trans (congrArg some e)))
  exact ⟨_, Res.cell G h2_1 (loadVar_agg [.int .i64 I.entry, v, wv] ag61 sz61 G (bs45.sub (o := 0) G)), v, G, (by have h := O46; rw [show i = I.syms.length by omega, List.take_length] at h; exact h), hF, E45⟩
end Go.Proofs.R
end
section
namespace Go.Proofs.S
open Go Go.Ux Go.Ux.Mach Go.Proofs Go.Proofs.M Go.Ux.Image
theorem whereR_none {n : Nat} {addr : BitVec 64} {size : Nat} (h : size = 1 ∨ size = 2 ∨ size = 4 ∨ size = 8) (hW : whereM n addr size = none) : whereR n addr size = (0, 0) := by rw [whereR_eq n addr size h, hW]
theorem whereR_some {n : Nat} {addr : BitVec 64} {size : Nat} {q : Bool} {o : Nat} (h : size = 1 ∨ size = 2 ∨ size = 4 ∨ size = 8) (hW : whereM n addr size = some (q, o)) : whereR n addr size = (bif q then 1 else 2, o) := by rw [whereR_eq n addr size h, hW]; cases q <;> rfl
theorem whereM_le {n : Nat} {addr : BitVec 64} {size : Nat} {q : Bool} {o : Nat} (hW : whereM n addr size = some (q, o)) : o + size ≤ bif q then n else 65536 := by
 unfold whereM at hW
 split at hW
 ·cases hW
 split at hW
 ·cases hW; show _ ≤ n; omega
 split at hW
 ·cases hW; show _ ≤ 65536; omega
 ·cases hW
end Go.Proofs.S
end
section
set_option linter.unusedSimpArgs false
set_option linter.unusedVariables false
namespace Go.Proofs.S
open Go Go.Ux Go.Ux.Mach Go.Proofs
theorem fo70_7 : fieldOff Tryz.prog 70 7 = some 38 := by kernel_rfl
theorem sz4 : sizeT Tryz.prog 4 = some 1 := by kernel_rfl
theorem fo70_8 : fieldOff Tryz.prog 70 8 = some 39 := by kernel_rfl
open Go.Ux.Image
theorem trap_q (T : Nat → Nat) (b : Nat) (M : MS) (ws : List (BitVec 32)) (w : World) (h : RR T w b M ws)  : CallsR Tryz.prog 39 #[ptr b 0] w (fun v w' => TurnR T w b { M with fin := some true } ws w') := by
 obtain ⟨cv, dv, sv, iv, ev, hb, ht⟩ := h
 refine callsR_of Tryz.func39 G G G ?_
 refine Sr (Mv (ptr b 0) G (WL.nilCheck G G (Fa G fo70_7 (WL.storeB (v := .bool true) G G G sz4 hb (Nat.le_of_ble_eq_true G) ?_))))
 intro ws1 ms1 bs1 zs1
 have E1 : Mod (fun k => T k = 1) w ws1 := (ms1.imp (fun i _ e => by subst e; exact ht.tb))
 refine Ni (Rg (Mv (ptr b 0) G (WL.nilCheck G G (Fa G fo70_8 (WL.storeB (v := .bool true) G G G sz4 bs1 (Nat.le_of_ble_eq_true G) ?_)))))
 intro ws2 ms2 bs2 zs2
 have E2 : Mod (fun k => T k = 1) w ws2 := Mod.trans E1 (ms2.imp (fun i _ e => by subst e; exact ht.tb))
 refine Ni ?_
 exact ⟨_, Res.zero G, TurnR.own ⟨cv, dv, sv, iv, ev, bs2, (ht.own E2).regs M.x M.pc M.steps (some true)⟩ (Mod.fp E2)⟩
def putR (M : MS) (rd : BitVec 8) (y : BitVec 64) : MS := { M with x := if BitVec.ult 0#8 rd = true then updR M.x rd.toNat y else M.x }
theorem put_q (T : Nat → Nat) (b : Nat) (M : MS) (ws : List (BitVec 32)) (w : World) (h : RR T w b M ws) (rd : BitVec 8) (y : BitVec 64) (hr : rd.toNat < 32) : CallsR Tryz.prog 47 #[ptr b 0, U8 rd, U64 y] w (fun v w' => TurnR T w b (putR M rd y) ws w') := by
 have hM0 := h
 obtain ⟨cv, dv, sv, iv, ev, hb, ht⟩ := h
 refine callsR_of Tryz.func47 G G G ?_
 refine Sr (Mv (U8 rd) G (Bn (vy := U8 (0#8)) G G BinR.gtrU8 (Ni ?_)))
 refine WC.cond G (fun hc7 => ?_) (fun hc7 => ?_)
 ·refine Rg (Mv (ptr b 0) G (Mv (U8 rd) G (Mv (U64 y) G (WL.nilCheck G G (Fa G fo70_4 (WL.indexArr1 (i := rd.toNat) ar68 sz39 G G hr G (WL.storeB (o := 4 + rd.toNat) (v := U64 y) G G G sz39 hb (show 4 + rd.toNat < 41 by omega) ?_)))))))
  intro wz mz bz zz
  have bz2 : Blk wz b (RCells cv dv sv iv ev { M with x := updR M.x rd.toNat y }) 70 := by have h := refCells_set cv dv sv iv M.x M.pc ev M.fin.isSome (M.fin == some true) (I64 M.steps) hr y; have bq := bz; rw [show (RCells cv dv sv iv ev M).setIfInBounds (4 + rd.toNat) (U64 y) = _ from h] at bq; exact bq
  have E1 : Mod (fun k => T k = 1) w wz := (mz.imp (fun i _ e => by subst e; exact ht.tb))
  refine Ni ?_
  have hfin : TurnR T w b (putR M rd y) ws wz := by
   unfold putR; rw [hc7]
   exact TurnR.own ⟨cv, dv, sv, iv, ev, bz2, (ht.own E1).regs (updR M.x rd.toNat y) M.pc M.steps M.fin⟩ (Mod.fp E1)
  exact ⟨_, Res.zero G, hfin⟩
 ·refine WC.skip ?_
  have hfin : TurnR T w b (putR M rd y) ws w := by
   unfold putR; rw [hc7]
   exact TurnR.refl hM0
  exact ⟨_, Res.zero G, hfin⟩
theorem storeR_no (T : Nat → Nat) (b : Nat) (M : MS) (ws : List (BitVec 32)) (w : World) (h : RR T w b M ws) (addr q : BitVec 64) (size : Nat) (hz : size = 1 ∨ size = 2 ∨ size = 4 ∨ size = 8) (hW : whereM M.n addr size = none) : CallsR Tryz.prog 45 #[ptr b 0, U64 addr, IN size, U64 q] w (fun v w' => v = .bool false ∧ Ext w w') := by
 obtain ⟨cv, dv, sv, iv, ev, hb, ht⟩ := h
 refine callsR_of Tryz.func45 G G G ?_
 refine Sr (An (.bool false) G (Ni (Sr (Mv (ptr b 0) G (Mv (U64 addr) G (Mv (IN size) G (WL.call ca38 G G (where_r addr size b cv dv sv iv M.x M.pc ev M.fin.isSome (M.fin == some true) (I64 M.steps) M.n M.d (fun _ => 0#8) _ hb ht.data.sl ht.n_le hz) ?_)))))))
 rintro _ ww ⟨rfl, eww⟩
 rw [whereR_none hz hW]
 have E1 : Ext w ww := eww
 refine Mv (.tuple #[IN 0, IN 0]) G (Et G G (Et G G (An (IN 0) G (An (IN 0) G (Ni (Sq (Sr (An (IN 0) G ?_))))))))
 refine Ni (Bk ?_)
 refine WC.loop (fun k f w_ => f 2 = IN size ∧ f 9 = IN 0 ∧ f 11 = IN 0 ∧ (Ext w w_)) 0 ?_ ?_
 ·exact ⟨G, G, G, E1⟩
 rintro k f1 wr ⟨h2_1, h9_1, h11_1, hE⟩
 refine Sq (Sr (Mv (IN 0) h11_1 (Mv (IN size) h2_1 (Bn (v := .bool true) G G (BinR.toB BinR.lss (decide_eq_true (by omega))) (Mv (.bool true) G (Gt G (Mv (IN 0) h9_1 (Gt G ?_))))))))
 refine Bn (v := .bool false) G G (BinR.toB BinR.gtr (by decide)) (Pk (b := true) G G (Ni (Cf G (WC.exit (Sr (Mv (IN 0) h9_1 (Bn (v := .bool false) G G (BinR.toB BinR.gtr (by decide)) (An (.bool false) G ?_))))))))
 refine Ni (WC.ret ?_)
 exact ⟨_, Res.one (v := .bool false) G G, G, hE⟩
theorem storeR_true (T : Nat → Nat) (b : Nat) (M : MS) (ws : List (BitVec 32)) (w : World) (h : RR T w b M ws) (addr q : BitVec 64) (size : Nat) (hz : size = 1 ∨ size = 2 ∨ size = 4 ∨ size = 8) (o : Nat) (hW : whereM M.n addr size = some (true, o)) : CallsR Tryz.prog 45 #[ptr b 0, U64 addr, IN size, U64 q] w (fun v w' => v = .bool true ∧ TurnR T w b (storeM M true o size q) ws w') := by
 obtain ⟨cv, dv, sv, iv, ev, hb, ht⟩ := h
 have hle : o + size ≤ M.n := whereM_le hW
 obtain ⟨g, cap, hsl, _, _⟩ := ht.data.at (by omega)
 have hav : ¬ At dv b := fun e => by have := ht.td b e; rw [ht.tb] at this; cases this
 have hn9 := ht.n_le
 refine callsR_of Tryz.func45 G G G ?_
 refine Sr (An (.bool false) G (Ni (Sr (Mv (ptr b 0) G (Mv (U64 addr) G (Mv (IN size) G (WL.call ca38 G G (where_r addr size b cv dv sv iv M.x M.pc ev M.fin.isSome (M.fin == some true) (I64 M.steps) M.n M.d (fun _ => 0#8) _ hb ht.data.sl ht.n_le hz) ?_)))))))
 rintro _ ww ⟨rfl, eww⟩
 rw [whereR_some hz hW]
 have E1 : Mod (At dv) w ww := (Mod.ext eww)
 refine Mv (.tuple #[IN 1, IN o]) G (Et G G (Et G G (An (IN 1) G (An (IN o) G (Ni (Sq (Sr (An (IN 0) G ?_))))))))
 refine Ni (Bk ?_)
 refine WC.loop (fun k f w_ => ∃ j, (k + j = size) ∧ f 0 = ptr b 0 ∧ f 2 = IN size ∧ f 3 = U64 q ∧ f 9 = IN 1 ∧ f 10 = IN o ∧ f 11 = IN j ∧ (Mod (At dv) w w_) ∧ (Ux.Own w_ 1 dv M.n (bsV (storeB M.d o q j) M.n)) ∧ (Blk w_ b (RCells cv dv sv iv ev M) 70)) size ?_ ?_
 have B2 := hb.ext eww
 ·exact ⟨0, by omega, G, G, G, G, G, G, E1, (ht.data.ext eww), B2⟩
 rintro ka f1 wr ⟨j, hk, h0_1, h2_1, h3_1, h9_1, h10_1, h11_1, hE, hO, hbx⟩
 refine Sq (Sr (Mv (IN j) h11_1 (Mv (IN size) h2_1 (Bn G G BinR.lss (Mv (.bool (decide (((j : Nat) : Int) < ((size : Nat) : Int)))) G ?_)))))
 rcases Bool.eq_false_or_eq_true (decide (((j : Nat) : Int) < ((size : Nat) : Int))) with hg22 | hg22
 ·have hj : j < size := of_decide_eq_true (by have := of_decide_eq_true hg22; exact decide_eq_true (by omega))
  refine Gt (Yb G G hg22) (Mv (IN 1) h9_1 (Gt (Yb G G hg22) (Bn (v := .bool true) G G (BinR.toB BinR.gtr (by decide)) (Pk (b := true) (congrArg Value.bool hg22) G (Ni (Ct G (WC.skip (Sq (Bk ?_)))))))))
  refine Sr (Mv (IN 1) h9_1 (Bn (v := .bool true) G G (BinR.toB BinR.eql (by decide)) (Ni (Ct G (WC.drawL (fun w_ => Ext wr w_) 13 14 G mixed ?_)))))
  intro wd_6 ed_6
  have R4 : Ext wr wd_6 := ed_6
  have E5 : Mod (At dv) w wd_6 := Mt hE (Mod.ext ed_6)
  refine Tl 0 (ptr b 0) G G (fun _ _ => Mv (ptr b 0) h0_1 Ok) R4 (Tl 1 (ptr b 0) G G (fun _ _ => WL.nilCheck G G Ok) R4 (Tl 2 (ptr b 1) G G (fun _ _ => Fa G fo70_1 Ok) R4 (Tl 3 dv G G (fun _ hS => Lo G ag45 ((hbx.ext hS).cell (j := 1) G) Ok) R4 (Tl 4 (IN o) G G (fun _ _ => Mv (IN o) h10_1 Ok) R4 (Tl 5 (IN j) G G (fun _ _ => Mv (IN j) h11_1 Ok) R4 (Tl 6 (IN ((o + j))) G G (fun _ _ => Bn G G (BinR.addN (by omega)) Ok) R4 (Tl 7 (U64 q) G G (fun _ _ => Mv (U64 q) h3_1 Ok) R4 (Tl 8 (IN j) G G (fun _ _ => Mv (IN j) h11_1 Ok) R4 (Tl 9 (IN ((8 * j))) G G (fun _ _ => Bn G G (BinR.mulN (a := 8) (b := j) (by omega)) Ok) R4 ?_)))))))))
  refine Tl 10 (U64 ((q >>> ((8 * j))))) G G (fun _ _ => Bn G G BinR.shrU64 Ok) R4 (Tl 11 (U8 (((q >>> ((8 * j)))).setWidth 8)) G G (fun _ _ => Cv G (ConvR.u64u8 Tryz.underlying39 Tryz.underlying5) Ok) R4 (Tl 12 (ptr g (0 + ((o + j)) * 1)) G G (fun _ _ => WL.indexAddr (i := (o + j)) (b := g) (o := 0) el45 sz5 (Eq.trans G hsl) G (by omega) G Ok) R4 (WAL.one (i := 13) (m' := 16383) (by kernel_rfl) G G (WL.storeOwn (i := 0 + (o + j) * 1) (u := U8 (((q >>> ((8 * j)))).setWidth 8)) G G G sz5 (hO.ext ed_6) hsl (by omega) ?_))))
  intro ws_ os ms
  have os2 : Ux.Own ws_ 1 dv M.n (bsV (storeB M.d o q (j + 1)) M.n) := by rw [bsV_set, Nat.mul_one, Nat.zero_add] at os; exact os
  have E20 : Mod (At dv) w ws_ := Mt E5 ms
  refine WL.behindL (by kernel_rfl) (WAL.done (by kernel_rfl) (Rg (Mv (IN j) h11_1 (Bn G G (BinR.succN (by omega)) (An (IN (j + 1)) G (Ni ?_))))))
  have B21 := (hbx.ext ed_6).mod ms hav
  exact ⟨ka - 1, by omega, (j + 1), by omega, h0_1, h2_1, h3_1, h9_1, h10_1, G, E20, os2, B21⟩
 ·have hj : j = size := by have := of_decide_eq_false hg22; omega
  refine Gf false (Yb G G hg22) (Gf false (Yb G G hg22) (Pk (b := false) (congrArg Value.bool hg22) G (Ni (Cf G (WC.exit (Sr (Mv (IN 1) h9_1 (Bn (v := .bool true) G G (BinR.toB BinR.gtr (by decide)) ?_))))))))
  refine An (.bool true) G (Ni (WC.ret ?_))
  have htn : TurnR T w b (storeM M true o size q) ws wr := turnR_area ht hb true hE (by rw [← hj]; exact hO)
  exact ⟨_, Res.one (v := .bool true) G G, G, htn⟩
theorem storeR_false (T : Nat → Nat) (b : Nat) (M : MS) (ws : List (BitVec 32)) (w : World) (h : RR T w b M ws) (addr q : BitVec 64) (size : Nat) (hz : size = 1 ∨ size = 2 ∨ size = 4 ∨ size = 8) (o : Nat) (hW : whereM M.n addr size = some (false, o)) : CallsR Tryz.prog 45 #[ptr b 0, U64 addr, IN size, U64 q] w (fun v w' => v = .bool true ∧ TurnR T w b (storeM M false o size q) ws w') := by
 obtain ⟨cv, dv, sv, iv, ev, hb, ht⟩ := h
 have hle : o + size ≤ 65536 := whereM_le hW
 obtain ⟨g, cap, hsl, _, _⟩ := ht.stk.at (by omega)
 have hav : ¬ At sv b := fun e => by have := ht.ts b e; rw [ht.tb] at this; cases this
 have hn9 := ht.n_le
 refine callsR_of Tryz.func45 G G G ?_
 refine Sr (An (.bool false) G (Ni (Sr (Mv (ptr b 0) G (Mv (U64 addr) G (Mv (IN size) G (WL.call ca38 G G (where_r addr size b cv dv sv iv M.x M.pc ev M.fin.isSome (M.fin == some true) (I64 M.steps) M.n M.d (fun _ => 0#8) _ hb ht.data.sl ht.n_le hz) ?_)))))))
 rintro _ ww ⟨rfl, eww⟩
 rw [whereR_some hz hW]
 have E1 : Mod (At sv) w ww := (Mod.ext eww)
 refine Mv (.tuple #[IN 2, IN o]) G (Et G G (Et G G (An (IN 2) G (An (IN o) G (Ni (Sq (Sr (An (IN 0) G ?_))))))))
 refine Ni (Bk ?_)
 refine WC.loop (fun k f w_ => ∃ j, (k + j = size) ∧ f 0 = ptr b 0 ∧ f 2 = IN size ∧ f 3 = U64 q ∧ f 9 = IN 2 ∧ f 10 = IN o ∧ f 11 = IN j ∧ (Mod (At sv) w w_) ∧ (Ux.Own w_ 1 sv 65536 (bsV (storeB M.s o q j) 65536)) ∧ (Blk w_ b (RCells cv dv sv iv ev M) 70)) size ?_ ?_
 have B2 := hb.ext eww
 ·exact ⟨0, by omega, G, G, G, G, G, G, E1, (ht.stk.ext eww), B2⟩
 rintro ka f1 wr ⟨j, hk, h0_1, h2_1, h3_1, h9_1, h10_1, h11_1, hE, hO, hbx⟩
 refine Sq (Sr (Mv (IN j) h11_1 (Mv (IN size) h2_1 (Bn G G BinR.lss (Mv (.bool (decide (((j : Nat) : Int) < ((size : Nat) : Int)))) G ?_)))))
 rcases Bool.eq_false_or_eq_true (decide (((j : Nat) : Int) < ((size : Nat) : Int))) with hg22 | hg22
 ·have hj : j < size := of_decide_eq_true (by have := of_decide_eq_true hg22; exact decide_eq_true (by omega))
  refine Gt (Yb G G hg22) (Mv (IN 2) h9_1 (Gt (Yb G G hg22) (Bn (v := .bool true) G G (BinR.toB BinR.gtr (by decide)) (Pk (b := true) (congrArg Value.bool hg22) G (Ni (Ct G (WC.skip (Sq (Bk ?_)))))))))
  refine Sr (Mv (IN 2) h9_1 (Bn (v := .bool false) G G (BinR.toB BinR.eql (by decide)) (Ni (Cf G (WC.drawL (fun w_ => Ext wr w_) 13 14 G mixed ?_)))))
  intro wd_7 ed_7
  have R4 : Ext wr wd_7 := ed_7
  have E5 : Mod (At sv) w wd_7 := Mt hE (Mod.ext ed_7)
  refine Tl 0 (ptr b 0) G G (fun _ _ => Mv (ptr b 0) h0_1 Ok) R4 (Tl 1 (ptr b 0) G G (fun _ _ => WL.nilCheck G G Ok) R4 (Tl 2 (ptr b 2) G G (fun _ _ => Fa G fo70_2 Ok) R4 (Tl 3 sv G G (fun _ hS => Lo G ag45 ((hbx.ext hS).cell (j := 2) G) Ok) R4 (Tl 4 (IN o) G G (fun _ _ => Mv (IN o) h10_1 Ok) R4 (Tl 5 (IN j) G G (fun _ _ => Mv (IN j) h11_1 Ok) R4 (Tl 6 (IN ((o + j))) G G (fun _ _ => Bn G G (BinR.addN (by omega)) Ok) R4 (Tl 7 (U64 q) G G (fun _ _ => Mv (U64 q) h3_1 Ok) R4 (Tl 8 (IN j) G G (fun _ _ => Mv (IN j) h11_1 Ok) R4 (Tl 9 (IN ((8 * j))) G G (fun _ _ => Bn G G (BinR.mulN (a := 8) (b := j) (by omega)) Ok) R4 ?_)))))))))
  refine Tl 10 (U64 ((q >>> ((8 * j))))) G G (fun _ _ => Bn G G BinR.shrU64 Ok) R4 (Tl 11 (U8 (((q >>> ((8 * j)))).setWidth 8)) G G (fun _ _ => Cv G (ConvR.u64u8 Tryz.underlying39 Tryz.underlying5) Ok) R4 (Tl 12 (ptr g (0 + ((o + j)) * 1)) G G (fun _ _ => WL.indexAddr (i := (o + j)) (b := g) (o := 0) el45 sz5 (Eq.trans G hsl) G (by omega) G Ok) R4 (WAL.one (i := 13) (m' := 16383) (by kernel_rfl) G G (WL.storeOwn (i := 0 + (o + j) * 1) (u := U8 (((q >>> ((8 * j)))).setWidth 8)) G G G sz5 (hO.ext ed_7) hsl (by omega) ?_))))
  intro ws_ os ms
  have os2 : Ux.Own ws_ 1 sv 65536 (bsV (storeB M.s o q (j + 1)) 65536) := by rw [bsV_set, Nat.mul_one, Nat.zero_add] at os; exact os
  have E20 : Mod (At sv) w ws_ := Mt E5 ms
  refine WL.behindL (by kernel_rfl) (WAL.done (by kernel_rfl) (Rg (Mv (IN j) h11_1 (Bn G G (BinR.succN (by omega)) (An (IN (j + 1)) G (Ni ?_))))))
  have B21 := (hbx.ext ed_7).mod ms hav
  exact ⟨ka - 1, by omega, (j + 1), by omega, h0_1, h2_1, h3_1, h9_1, h10_1, G, E20, os2, B21⟩
 ·have hj : j = size := by have := of_decide_eq_false hg22; omega
  refine Gf false (Yb G G hg22) (Gf false (Yb G G hg22) (Pk (b := false) (congrArg Value.bool hg22) G (Ni (Cf G (WC.exit (Sr (Mv (IN 2) h9_1 (Bn (v := .bool true) G G (BinR.toB BinR.gtr (by decide)) ?_))))))))
  refine An (.bool true) G (Ni (WC.ret ?_))
  have htn : TurnR T w b (storeM M false o size q) ws wr := turnR_area ht hb false hE (by rw [← hj]; exact hO)
  exact ⟨_, Res.one (v := .bool true) G G, G, htn⟩
end Go.Proofs.S
end
section
set_option linter.unusedSimpArgs false
set_option linter.unusedVariables false
namespace Go.Proofs.S
open Go Go.Ux Go.Ux.Mach Go.Proofs
theorem fo70_6 : fieldOff Tryz.prog 70 6 = some 37 := by kernel_rfl
theorem bld46_62 (n : BitVec 64) : ∀ w : World, (Instr.build 38 #[(0, .int .u8 2), (1, I64 n)]).run Tryz.prog w = .ok (.agg #[.int .u8 2, I64 n]) w := fun _ => by kernel_rfl
theorem bls46_63 (n : BitVec 64) : ∀ w : World, (Instr.buildSlice 34 1 #[(0, .agg #[U8 (2#8), I64 n])]).run Tryz.prog w = .ok (.slice (some ⟨w.heap.size, 0, none⟩) 1 1) (w.alloc (.cells #[U8 (2#8), I64 n] 38)) := fun _ => by kernel_rfl
theorem bld46_75 (n : BitVec 64) : ∀ w : World, (Instr.build 38 #[(0, .int .u8 3), (1, I64 n)]).run Tryz.prog w = .ok (.agg #[.int .u8 3, I64 n]) w := fun _ => by kernel_rfl
theorem bls46_76 (n : BitVec 64) : ∀ w : World, (Instr.buildSlice 34 1 #[(0, .agg #[U8 (3#8), I64 n])]).run Tryz.prog w = .ok (.slice (some ⟨w.heap.size, 0, none⟩) 1 1) (w.alloc (.cells #[U8 (3#8), I64 n] 38)) := fun _ => by kernel_rfl
theorem bld46_91 (n : BitVec 64) : ∀ w : World, (Instr.build 38 #[(0, .int .u8 4), (1, I64 n)]).run Tryz.prog w = .ok (.agg #[.int .u8 4, I64 n]) w := fun _ => by kernel_rfl
theorem bls46_92 (n : BitVec 64) : ∀ w : World, (Instr.buildSlice 34 1 #[(0, .agg #[U8 (4#8), I64 n])]).run Tryz.prog w = .ok (.slice (some ⟨w.heap.size, 0, none⟩) 1 1) (w.alloc (.cells #[U8 (4#8), I64 n] 38)) := fun _ => by kernel_rfl
theorem bld46_49 (n : BitVec 64) : ∀ w : World, (Instr.build 38 #[(0, .int .u8 1), (1, I64 n)]).run Tryz.prog w = .ok (.agg #[.int .u8 1, I64 n]) w := fun _ => by kernel_rfl
theorem bls46_50 (n : BitVec 64) : ∀ w : World, (Instr.buildSlice 34 1 #[(0, .agg #[U8 (1#8), I64 n])]).run Tryz.prog w = .ok (.slice (some ⟨w.heap.size, 0, none⟩) 1 1) (w.alloc (.cells #[U8 (1#8), I64 n] 38)) := fun _ => by kernel_rfl
def callsR (M : MS) : MS := { (callsM M).1 with fin := match (callsM M).2 with | some false => some false | _ => M.fin }
theorem callsR_2 (T : Nat → Nat) (b : Nat) (M : MS) (ws : List (BitVec 32)) (w : World) (h : RR T w b M ws) (he : M.events.length < 8796093022208) (hfin : M.fin = none) (h17_1 : (M.x 17 == 1#64) = false) (h17 : (M.x 17 == 2#64) = true) : CallsR Tryz.prog 46 #[ptr b 0] w (fun v w' => v = .bool true ∧ TurnR T w b (callsR M) ws w') := by
 obtain ⟨cv, dv, sv, iv, ev, hb, ht⟩ := h
 have hb0 : Blk w b (refCells cv dv sv iv M.x M.pc ev false false (I64 M.steps)) 70 := by have h0 := hb; unfold RCells at h0; rw [hfin] at h0; exact h0
 refine callsR_of Tryz.func46 G G G ?_
 refine Sr (An (.bool false) G (Ni (Sr (Mv (ptr b 0) G (WL.nilCheck G G (Fa G fo70_4 (WL.indexArr (i := 10) ar68 sz39 G G (by omega) G ?_)))))))
 refine Lo G ag39 (hb0.cell (j := 14) G) (Cv G (ConvR.u64i64 Tryz.underlying39 Tryz.underlying2) (An (I64 (M.x 10)) G (Ni (Sq (Sr (Mv (ptr b 0) G (WL.nilCheck G G (Fa G fo70_4 ?_))))))))
 refine WL.indexArr (i := 17) ar68 sz39 G G (by omega) G (Lo G ag39 (hb0.cell (j := 21) G) (Ni (Bk (Sr (Bn (v := .bool false) (vy := U64 (1#64)) G G (BinR.toB BinR.eqlU64 h17_1) (An (.bool false) G (Ni (Cf G ?_))))))))
 refine Sr (Bn (v := .bool true) (vy := U64 (2#64)) G G (BinR.toB BinR.eqlU64 h17) (An (.bool true) G (Ni (Ct G (Rg (Mv (ptr b 0) G (Mv (ptr b 0) G (WL.nilCheck G G ?_))))))))
 refine Fa G fo70_6 (Lo G ag34 (hb0.cell (j := 37) G) (Mv (I64 (M.x 10)) G (WL.build (v := .agg #[.int .u8 2, I64 (M.x 10)]) (vs := [(0, .int .u8 2), (1, I64 (M.x 10))]) G (bld46_62 (M.x 10)) G (WL.buildSlice (vs := [(0, .agg #[.int .u8 2, I64 (M.x 10)])]) G (bls46_63 (M.x 10)) G ?_))))
 intro b63 w63 n63
 have E1 : Mod (fun k => T k = 1 ∨ T k = 7) w w63 := (Mod.ext n63.ext)
 have O2 := ht.evs.ext n63.ext
 refine WL.append (k := M.events.length) (m := 1) (xs := evV M.events) (news := [U8 2#8, I64 (M.x 10)]) ap34 G G G O2 ((Sl.of1 n63.blk.cells G).src Tryz.underlying34 (List.all_eq_true.1 G)) (by omega) (by omega) G ?_
 intro v64 w64 o64 m64 l64
 have F3 : LocV w ev v64 := LocV.trans (LocV.refl _ _) l64 (Mod.size E1)
 have B5 := hb0.ext n63.ext
 have N4 : v64.ownBlock ≠ some b := LocV.ne l64 B5.lt (fun e => by have := ht.te b e; rw [ht.tb] at this; cases this)
 have E6 : Mod (fun k => T k = 1 ∨ T k = 7) w w64 := Mt E1 (m64.imp (fun i _ e => .inr (ht.te i e)))
 refine WL.nilCheck G G (Fa G fo70_6 ?_)
 have B7 := B5.mod m64 ((fun e => by have := ht.te b e; rw [ht.tb] at this; cases this))
 refine WL.storeB (v := v64) G G o64.sl.one sz34 B7 (Nat.le_of_ble_eq_true G) ?_
 intro ws8 ms8 bs8 zs8
 have E8 : Mod (fun k => T k = 1 ∨ T k = 7) w ws8 := Mod.trans E6 (ms8.imp (fun i _ e => by subst e; exact .inl ht.tb))
 refine Ni (Sr (An (.bool true) G (Ni (WC.ret ?_))))
 have e : callsR M = { M with events := M.events ++ [(2#8, M.x 10)] } := by unfold callsR callsM; simp only [h17_1, h17, Bool.false_eq_true, if_false, if_true]
 have O9 := o64.mod ms8 (fun g hg e => N4 (hg.trans (congrArg some e)))
 have htn : TurnR T w b (callsR M) ws ws8 := by rw [e]; exact turnR_ev (M := M) (l := M.events ++ [(2#8, M.x 10)]) ht E8 (by rw [evV_snoc]; simpa using O9) F3 (by simp) (by unfold RCells; rw [hfin]; exact bs8)
 exact ⟨_, Res.one (v := .bool true) G G, G, htn⟩
theorem callsR_3 (T : Nat → Nat) (b : Nat) (M : MS) (ws : List (BitVec 32)) (w : World) (h : RR T w b M ws) (he : M.events.length < 8796093022208) (hfin : M.fin = none) (h17_1 : (M.x 17 == 1#64) = false) (h17_2 : (M.x 17 == 2#64) = false) (h17 : (M.x 17 == 3#64) = true) : CallsR Tryz.prog 46 #[ptr b 0] w (fun v w' => v = .bool true ∧ TurnR T w b (callsR M) ws w') := by
 obtain ⟨cv, dv, sv, iv, ev, hb, ht⟩ := h
 have hb0 : Blk w b (refCells cv dv sv iv M.x M.pc ev false false (I64 M.steps)) 70 := by have h0 := hb; unfold RCells at h0; rw [hfin] at h0; exact h0
 refine callsR_of Tryz.func46 G G G ?_
 refine Sr (An (.bool false) G (Ni (Sr (Mv (ptr b 0) G (WL.nilCheck G G (Fa G fo70_4 (WL.indexArr (i := 10) ar68 sz39 G G (by omega) G ?_)))))))
 refine Lo G ag39 (hb0.cell (j := 14) G) (Cv G (ConvR.u64i64 Tryz.underlying39 Tryz.underlying2) (An (I64 (M.x 10)) G (Ni (Sq (Sr (Mv (ptr b 0) G (WL.nilCheck G G (Fa G fo70_4 ?_))))))))
 refine WL.indexArr (i := 17) ar68 sz39 G G (by omega) G (Lo G ag39 (hb0.cell (j := 21) G) (Ni (Bk (Sr (Bn (v := .bool false) (vy := U64 (1#64)) G G (BinR.toB BinR.eqlU64 h17_1) (An (.bool false) G (Ni (Cf G ?_))))))))
 refine Sr (Bn (v := .bool false) (vy := U64 (2#64)) G G (BinR.toB BinR.eqlU64 h17_2) (An (.bool false) G (Ni (Cf G (Sr (Bn (v := .bool true) (vy := U64 (3#64)) G G (BinR.toB BinR.eqlU64 h17) (An (.bool true) G ?_)))))))
 refine Ni (Ct G (Sr (Mv (ptr b 0) G (Mv (ptr b 0) G (WL.nilCheck G G (Fa G fo70_6 (Lo G ag34 (hb0.cell (j := 37) G) (Mv (I64 (M.x 10)) G ?_))))))))
 refine WL.build (v := .agg #[.int .u8 3, I64 (M.x 10)]) (vs := [(0, .int .u8 3), (1, I64 (M.x 10))]) G (bld46_75 (M.x 10)) G (WL.buildSlice (vs := [(0, .agg #[.int .u8 3, I64 (M.x 10)])]) G (bls46_76 (M.x 10)) G ?_)
 intro b76 w76 n76
 have E1 : Mod (fun k => T k = 1 ∨ T k = 7) w w76 := (Mod.ext n76.ext)
 have O2 := ht.evs.ext n76.ext
 refine WL.append (k := M.events.length) (m := 1) (xs := evV M.events) (news := [U8 3#8, I64 (M.x 10)]) ap34 G G G O2 ((Sl.of1 n76.blk.cells G).src Tryz.underlying34 (List.all_eq_true.1 G)) (by omega) (by omega) G ?_
 intro v77 w77 o77 m77 l77
 have F3 : LocV w ev v77 := LocV.trans (LocV.refl _ _) l77 (Mod.size E1)
 have B5 := hb0.ext n76.ext
 have N4 : v77.ownBlock ≠ some b := LocV.ne l77 B5.lt (fun e => by have := ht.te b e; rw [ht.tb] at this; cases this)
 have E6 : Mod (fun k => T k = 1 ∨ T k = 7) w w77 := Mt E1 (m77.imp (fun i _ e => .inr (ht.te i e)))
 refine WL.nilCheck G G (Fa G fo70_6 ?_)
 have B7 := B5.mod m77 ((fun e => by have := ht.te b e; rw [ht.tb] at this; cases this))
 refine WL.storeB (v := v77) G G o77.sl.one sz34 B7 (Nat.le_of_ble_eq_true G) ?_
 intro ws8 ms8 bs8 zs8
 have E8 : Mod (fun k => T k = 1 ∨ T k = 7) w ws8 := Mod.trans E6 (ms8.imp (fun i _ e => by subst e; exact .inl ht.tb))
 refine Ni (Rg (Mv (ptr b 0) G (WL.nilCheck G G (Fa G fo70_7 (WL.storeB (v := .bool true) G G G sz4 bs8 (Nat.le_of_ble_eq_true G) ?_)))))
 intro ws9 ms9 bs9 zs9
 have E9 : Mod (fun k => T k = 1 ∨ T k = 7) w ws9 := Mod.trans E8 (ms9.imp (fun i _ e => by subst e; exact .inl ht.tb))
 refine Ni (Sr (An (.bool true) G (Ni (WC.ret ?_))))
 have e : callsR M = { { M with fin := some false } with events := M.events ++ [(3#8, M.x 10)] } := by unfold callsR callsM; simp only [h17_1, h17_2, h17, Bool.false_eq_true, if_false, if_true]
 have O10 := (o77.mod ms8 (fun g hg e => N4 (hg.trans (congrArg some e)))).mod ms9 (fun g hg e => N4 (hg.trans (congrArg some e)))
 have htn : TurnR T w b (callsR M) ws ws9 := by rw [e]; exact turnR_ev (M := { M with fin := some false }) (l := M.events ++ [(3#8, M.x 10)]) (ht.regs M.x M.pc M.steps (some false)) E9 (by rw [evV_snoc]; simpa using O10) F3 (by simp) bs9
 exact ⟨_, Res.one (v := .bool true) G G, G, htn⟩
theorem callsR_4 (T : Nat → Nat) (b : Nat) (M : MS) (ws : List (BitVec 32)) (w : World) (h : RR T w b M ws) (he : M.events.length < 8796093022208) (hfin : M.fin = none) (h17_1 : (M.x 17 == 1#64) = false) (h17_2 : (M.x 17 == 2#64) = false) (h17_3 : (M.x 17 == 3#64) = false) (h17 : (M.x 17 == 4#64) = true) : CallsR Tryz.prog 46 #[ptr b 0] w (fun v w' => v = .bool true ∧ TurnR T w b (callsR M) ws w') := by
 obtain ⟨cv, dv, sv, iv, ev, hb, ht⟩ := h
 have hb0 : Blk w b (refCells cv dv sv iv M.x M.pc ev false false (I64 M.steps)) 70 := by have h0 := hb; unfold RCells at h0; rw [hfin] at h0; exact h0
 refine callsR_of Tryz.func46 G G G ?_
 refine Sr (An (.bool false) G (Ni (Sr (Mv (ptr b 0) G (WL.nilCheck G G (Fa G fo70_4 (WL.indexArr (i := 10) ar68 sz39 G G (by omega) G ?_)))))))
 refine Lo G ag39 (hb0.cell (j := 14) G) (Cv G (ConvR.u64i64 Tryz.underlying39 Tryz.underlying2) (An (I64 (M.x 10)) G (Ni (Sq (Sr (Mv (ptr b 0) G (WL.nilCheck G G (Fa G fo70_4 ?_))))))))
 refine WL.indexArr (i := 17) ar68 sz39 G G (by omega) G (Lo G ag39 (hb0.cell (j := 21) G) (Ni (Bk (Sr (Bn (v := .bool false) (vy := U64 (1#64)) G G (BinR.toB BinR.eqlU64 h17_1) (An (.bool false) G (Ni (Cf G ?_))))))))
 refine Sr (Bn (v := .bool false) (vy := U64 (2#64)) G G (BinR.toB BinR.eqlU64 h17_2) (An (.bool false) G (Ni (Cf G (Sr (Bn (v := .bool false) (vy := U64 (3#64)) G G (BinR.toB BinR.eqlU64 h17_3) (An (.bool false) G ?_)))))))
 refine Ni (Cf G (Sr (Bn (v := .bool true) (vy := U64 (4#64)) G G (BinR.toB BinR.eqlU64 h17) (An (.bool true) G (Ni (Ct G (Sr ?_)))))))
 refine Mv (ptr b 0) G (Mv (ptr b 0) G (WL.nilCheck G G (Fa G fo70_6 (Lo G ag34 (hb0.cell (j := 37) G) (Mv (I64 (M.x 10)) G (WL.build (v := .agg #[.int .u8 4, I64 (M.x 10)]) (vs := [(0, .int .u8 4), (1, I64 (M.x 10))]) G (bld46_91 (M.x 10)) G (WL.buildSlice (vs := [(0, .agg #[.int .u8 4, I64 (M.x 10)])]) G (bls46_92 (M.x 10)) G ?_)))))))
 intro b92 w92 n92
 have E1 : Mod (fun k => T k = 1 ∨ T k = 7) w w92 := (Mod.ext n92.ext)
 have O2 := ht.evs.ext n92.ext
 refine WL.append (k := M.events.length) (m := 1) (xs := evV M.events) (news := [U8 4#8, I64 (M.x 10)]) ap34 G G G O2 ((Sl.of1 n92.blk.cells G).src Tryz.underlying34 (List.all_eq_true.1 G)) (by omega) (by omega) G ?_
 intro v93 w93 o93 m93 l93
 have F3 : LocV w ev v93 := LocV.trans (LocV.refl _ _) l93 (Mod.size E1)
 have B5 := hb0.ext n92.ext
 have N4 : v93.ownBlock ≠ some b := LocV.ne l93 B5.lt (fun e => by have := ht.te b e; rw [ht.tb] at this; cases this)
 have E6 : Mod (fun k => T k = 1 ∨ T k = 7) w w93 := Mt E1 (m93.imp (fun i _ e => .inr (ht.te i e)))
 refine WL.nilCheck G G (Fa G fo70_6 ?_)
 have B7 := B5.mod m93 ((fun e => by have := ht.te b e; rw [ht.tb] at this; cases this))
 refine WL.storeB (v := v93) G G o93.sl.one sz34 B7 (Nat.le_of_ble_eq_true G) ?_
 intro ws8 ms8 bs8 zs8
 have E8 : Mod (fun k => T k = 1 ∨ T k = 7) w ws8 := Mod.trans E6 (ms8.imp (fun i _ e => by subst e; exact .inl ht.tb))
 refine Ni (Rg (Mv (ptr b 0) G (WL.nilCheck G G (Fa G fo70_7 (WL.storeB (v := .bool true) G G G sz4 bs8 (Nat.le_of_ble_eq_true G) ?_)))))
 intro ws9 ms9 bs9 zs9
 have E9 : Mod (fun k => T k = 1 ∨ T k = 7) w ws9 := Mod.trans E8 (ms9.imp (fun i _ e => by subst e; exact .inl ht.tb))
 refine Ni (Sr (An (.bool true) G (Ni (WC.ret ?_))))
 have e : callsR M = { { M with fin := some false } with events := M.events ++ [(4#8, M.x 10)] } := by unfold callsR callsM; simp only [h17_1, h17_2, h17_3, h17, Bool.false_eq_true, if_false, if_true]
 have O10 := (o93.mod ms8 (fun g hg e => N4 (hg.trans (congrArg some e)))).mod ms9 (fun g hg e => N4 (hg.trans (congrArg some e)))
 have htn : TurnR T w b (callsR M) ws ws9 := by rw [e]; exact turnR_ev (M := { M with fin := some false }) (l := M.events ++ [(4#8, M.x 10)]) (ht.regs M.x M.pc M.steps (some false)) E9 (by rw [evV_snoc]; simpa using O10) F3 (by simp) bs9
 exact ⟨_, Res.one (v := .bool true) G G, G, htn⟩
theorem callsR_5 (T : Nat → Nat) (b : Nat) (M : MS) (ws : List (BitVec 32)) (w : World) (h : RR T w b M ws) (he : M.events.length < 8796093022208) (hfin : M.fin = none) (h17_1 : (M.x 17 == 1#64) = false) (h17_2 : (M.x 17 == 2#64) = false) (h17_3 : (M.x 17 == 3#64) = false) (h17_4 : (M.x 17 == 4#64) = false) : CallsR Tryz.prog 46 #[ptr b 0] w (fun v w' => v = .bool false ∧ TurnR T w b (callsR M) ws w') := by
 have hM0 := h
 obtain ⟨cv, dv, sv, iv, ev, hb, ht⟩ := h
 have hb0 : Blk w b (refCells cv dv sv iv M.x M.pc ev false false (I64 M.steps)) 70 := by have h0 := hb; unfold RCells at h0; rw [hfin] at h0; exact h0
 refine callsR_of Tryz.func46 G G G ?_
 refine Sr (An (.bool false) G (Ni (Sr (Mv (ptr b 0) G (WL.nilCheck G G (Fa G fo70_4 (WL.indexArr (i := 10) ar68 sz39 G G (by omega) G ?_)))))))
 refine Lo G ag39 (hb0.cell (j := 14) G) (Cv G (ConvR.u64i64 Tryz.underlying39 Tryz.underlying2) (An (I64 (M.x 10)) G (Ni (Sq (Sr (Mv (ptr b 0) G (WL.nilCheck G G (Fa G fo70_4 ?_))))))))
 refine WL.indexArr (i := 17) ar68 sz39 G G (by omega) G (Lo G ag39 (hb0.cell (j := 21) G) (Ni (Bk (Sr (Bn (v := .bool false) (vy := U64 (1#64)) G G (BinR.toB BinR.eqlU64 h17_1) (An (.bool false) G (Ni (Cf G ?_))))))))
 refine Sr (Bn (v := .bool false) (vy := U64 (2#64)) G G (BinR.toB BinR.eqlU64 h17_2) (An (.bool false) G (Ni (Cf G (Sr (Bn (v := .bool false) (vy := U64 (3#64)) G G (BinR.toB BinR.eqlU64 h17_3) (An (.bool false) G ?_)))))))
 refine Ni (Cf G (Sr (Bn (v := .bool false) (vy := U64 (4#64)) G G (BinR.toB BinR.eqlU64 h17_4) (An (.bool false) G (Ni (Cf G (Sr ?_)))))))
 refine An (.bool false) G (Ni (WC.ret ?_))
 have e : callsR M = M := by unfold callsR callsM; simp only [h17_1, h17_2, h17_3, h17_4, Bool.false_eq_true, if_false, if_true]
 have htn : TurnR T w b (callsR M) ws w := by rw [e]; exact TurnR.ext (TurnR.refl hM0) (Mod.refl _ _)
 exact ⟨_, Res.one (v := .bool false) G G, G, htn⟩
theorem callsR_1a (T : Nat → Nat) (b : Nat) (M : MS) (ws : List (BitVec 32)) (w : World) (h : RR T w b M ws) (he : M.events.length < 8796093022208) (hfin : M.fin = none)  (h17 : (M.x 17 == 1#64) = true) (hin : M.input = []) : CallsR Tryz.prog 46 #[ptr b 0] w (fun v w' => v = .bool true ∧ TurnR T w b (callsR M) ws w') := by
 obtain ⟨cv, dv, sv, iv, ev, hb, ht⟩ := h
 have hb0 : Blk w b (refCells cv dv sv iv M.x M.pc ev false false (I64 M.steps)) 70 := by have h0 := hb; unfold RCells at h0; rw [hfin] at h0; exact h0
 refine callsR_of Tryz.func46 G G G ?_
 refine Sr (An (.bool false) G (Ni (Sr (Mv (ptr b 0) G (WL.nilCheck G G (Fa G fo70_4 (WL.indexArr (i := 10) ar68 sz39 G G (by omega) G ?_)))))))
 refine Lo G ag39 (hb0.cell (j := 14) G) (Cv G (ConvR.u64i64 Tryz.underlying39 Tryz.underlying2) (An (I64 (M.x 10)) G (Ni (Sq (Sr (Mv (ptr b 0) G (WL.nilCheck G G (Fa G fo70_4 ?_))))))))
 refine WL.indexArr (i := 17) ar68 sz39 G G (by omega) G (Lo G ag39 (hb0.cell (j := 21) G) (Ni (Bk (Sr (Bn (v := .bool true) (vy := U64 (1#64)) G G (BinR.toB BinR.eqlU64 h17) (An (.bool true) G (Ni (Ct G ?_))))))))
 refine Sr (An (I64 (0#64)) G (Ni (Sq (Sr (Mv (ptr b 0) G (WL.nilCheck G G (Fa G fo70_3 ?_)))))))
 refine Lo G ag26 (hb0.cell (j := 3) G) (WL.lenSl (sz := 1) (m := M.input.length) (xs := M.input.map I64) el26 G ht.input G (Bn G G BinR.gtr (Ni (Cf (congrArg Value.bool (by rw [hin]; rfl)) (WC.skip (Sr (Mv (ptr b 0) G (Mv (I64 (0#64)) G ?_))))))))
 refine Cv G (ConvR.i64u64 Tryz.underlying2 Tryz.underlying39) (WL.nilCheck G G (Fa G fo70_4 (WL.indexArr (i := 10) ar68 sz39 G G (by omega) G (WL.storeB (v := U64 (0#64)) G G G sz39 hb0 (Nat.le_of_ble_eq_true G) ?_))))
 intro ws1 ms1 bs1 zs1
 have E1 : Mod (fun k => T k = 1 ∨ T k = 7) w ws1 := (ms1.imp (fun i _ e => by subst e; exact .inl ht.tb))
 refine Ni (Rg (Mv (ptr b 0) G (Mv (ptr b 0) G (WL.nilCheck G G (Fa G fo70_6 (Lo G ag34 (bs1.cell (j := 37) G) (Mv (I64 (0#64)) G (WL.build (v := .agg #[.int .u8 1, I64 (0#64)]) (vs := [(0, .int .u8 1), (1, I64 (0#64))]) G (bld46_49 (0#64)) G (WL.buildSlice (vs := [(0, .agg #[.int .u8 1, I64 (0#64)])]) G (bls46_50 (0#64)) G ?_)))))))))
 intro b50 w50 n50
 have E2 : Mod (fun k => T k = 1 ∨ T k = 7) w w50 := Mt E1 (Mod.ext n50.ext)
 have O3 := (ht.evs.mod ms1 (fun g hg e => (fun e => by have := ht.te b e; rw [ht.tb] at this; cases this) (hg.trans (congrArg some e)))).ext n50.ext
 refine WL.append (k := M.events.length) (m := 1) (xs := evV M.events) (news := [U8 1#8, I64 (0#64)]) ap34 G G G O3 ((Sl.of1 n50.blk.cells G).src Tryz.underlying34 (List.all_eq_true.1 G)) (by omega) (by omega) G ?_
 intro v51 w51 o51 m51 l51
 have F4 : LocV w ev v51 := LocV.trans (LocV.refl _ _) l51 (Mod.size E2)
 have B6 := bs1.ext n50.ext
 have N5 : v51.ownBlock ≠ some b := LocV.ne l51 B6.lt (fun e => by have := ht.te b e; rw [ht.tb] at this; cases this)
 have E7 : Mod (fun k => T k = 1 ∨ T k = 7) w w51 := Mt E2 (m51.imp (fun i _ e => .inr (ht.te i e)))
 refine WL.nilCheck G G (Fa G fo70_6 ?_)
 have B8 := B6.mod m51 ((fun e => by have := ht.te b e; rw [ht.tb] at this; cases this))
 refine WL.storeB (v := v51) G G o51.sl.one sz34 B8 (Nat.le_of_ble_eq_true G) ?_
 intro ws9 ms9 bs9 zs9
 have E9 : Mod (fun k => T k = 1 ∨ T k = 7) w ws9 := Mod.trans E7 (ms9.imp (fun i _ e => by subst e; exact .inl ht.tb))
 refine Ni (Sr (An (.bool true) G (Ni (WC.ret ?_))))
 have e : callsR M = { { M with input := [], x := updR M.x 10 (0#64) } with events := M.events ++ [(1#8, 0#64)] } := by unfold callsR callsM; simp only [h17, if_true, hin, List.headD_cons, List.headD_nil, List.tail_cons, List.tail_nil]
 have O10 := o51.mod ms9 (fun g hg e => N5 (hg.trans (congrArg some e)))
 have htn : TurnR T w b (callsR M) ws ws9 := by rw [e]; exact turnR_ev (M := { M with input := [], x := updR M.x 10 (0#64) }) (l := M.events ++ [(1#8, 0#64)]) ((ht.regs (updR M.x 10 (0#64)) M.pc M.steps M.fin).inp (by have hi := ht.input; rw [hin] at hi; exact hi) rfl (fun h => absurd h (by decide))) E9 (by rw [evV_snoc]; simpa using O10) F4 (by simp) (by unfold RCells; dsimp only; rw [hfin]; exact bs9)
 exact ⟨_, Res.one (v := .bool true) G G, G, htn⟩
theorem callsR_1b (T : Nat → Nat) (b : Nat) (M : MS) (ws : List (BitVec 32)) (w : World) (h : RR T w b M ws) (he : M.events.length < 8796093022208) (hfin : M.fin = none)  (h17 : (M.x 17 == 1#64) = true) (n : BitVec 64) (r : List (BitVec 64)) (hin : M.input = n :: r) : CallsR Tryz.prog 46 #[ptr b 0] w (fun v w' => v = .bool true ∧ TurnR T w b (callsR M) ws w') := by
 obtain ⟨cv, dv, sv, iv, ev, hb, ht⟩ := h
 have hb0 : Blk w b (refCells cv dv sv iv M.x M.pc ev false false (I64 M.steps)) 70 := by have h0 := hb; unfold RCells at h0; rw [hfin] at h0; exact h0
 obtain ⟨gi, oi, ci, hiv, hic⟩ := ht.input.at (by rw [hin]; exact Nat.succ_pos _)
 have hcin : w.cell? ⟨gi, oi, none⟩ = some (I64 n) := hic 0 (I64 n) (by rw [hin]; rfl)
 have hgi : ¬ (T gi = 1 ∨ T gi = 7) := by have := ht.ti (by rw [hin]; exact Nat.succ_pos _) gi (by rw [hiv]; rfl); omega
 refine callsR_of Tryz.func46 G G G ?_
 refine Sr (An (.bool false) G (Ni (Sr (Mv (ptr b 0) G (WL.nilCheck G G (Fa G fo70_4 (WL.indexArr (i := 10) ar68 sz39 G G (by omega) G ?_)))))))
 refine Lo G ag39 (hb0.cell (j := 14) G) (Cv G (ConvR.u64i64 Tryz.underlying39 Tryz.underlying2) (An (I64 (M.x 10)) G (Ni (Sq (Sr (Mv (ptr b 0) G (WL.nilCheck G G (Fa G fo70_4 ?_))))))))
 refine WL.indexArr (i := 17) ar68 sz39 G G (by omega) G (Lo G ag39 (hb0.cell (j := 21) G) (Ni (Bk (Sr (Bn (v := .bool true) (vy := U64 (1#64)) G G (BinR.toB BinR.eqlU64 h17) (An (.bool true) G (Ni (Ct G ?_))))))))
 refine Sr (An (I64 (0#64)) G (Ni (Sq (Sr (Mv (ptr b 0) G (WL.nilCheck G G (Fa G fo70_3 ?_)))))))
 refine Lo G ag26 (hb0.cell (j := 3) G) (WL.lenSl (sz := 1) (m := M.input.length) (xs := M.input.map I64) el26 G ht.input G (Bn G G BinR.gtr (Ni (Ct (congrArg Value.bool (by rw [hin]; exact decide_eq_true (by simp only [List.length_cons]; omega))) (Sr (Mv (ptr b 0) G (WL.nilCheck G G (Fa G fo70_3 ?_))))))))
 refine Lo G ag26 (hb0.cell (j := 3) G) (WL.indexAddr (i := 0) (b := gi) (o := oi) el26 sz2 (Eq.trans G hiv) G (by rw [hin]; exact Nat.succ_pos _) G (Lo G ag2 hcin (An (I64 n) G (Ni (Rg (Mv (ptr b 0) G (Mv (ptr b 0) G (WL.nilCheck G G (Fa G fo70_3 ?_)))))))))
 refine Lo G ag26 (hb0.cell (j := 3) G) (WL.sliceFromV (sz := 1) (m := M.input.length) (xs := M.input.map I64) (j := 1) el26 sz2 G G (by rw [hin]; exact Nat.succ_pos _) ht.input G (WL.nilCheck G G (Fa G fo70_3 (WL.storeB (v := (sliceV iv 1 1)) G G ((ht.input.from (j := 1) (by rw [hin]; exact Nat.succ_pos _)).1).one sz26 hb0 (Nat.le_of_ble_eq_true G) ?_))))
 intro ws1 ms1 bs1 zs1
 have E1 : Mod (fun k => T k = 1 ∨ T k = 7) w ws1 := (ms1.imp (fun i _ e => by subst e; exact .inl ht.tb))
 refine Ni (Sr (Mv (ptr b 0) G (Mv (I64 n) G (Cv G (ConvR.i64u64 Tryz.underlying2 Tryz.underlying39) (WL.nilCheck G G (Fa G fo70_4 (WL.indexArr (i := 10) ar68 sz39 G G (by omega) G (WL.storeB (v := U64 n) G G G sz39 bs1 (Nat.le_of_ble_eq_true G) ?_))))))))
 intro ws2 ms2 bs2 zs2
 have E2 : Mod (fun k => T k = 1 ∨ T k = 7) w ws2 := Mod.trans E1 (ms2.imp (fun i _ e => by subst e; exact .inl ht.tb))
 refine Ni (Rg (Mv (ptr b 0) G (Mv (ptr b 0) G (WL.nilCheck G G (Fa G fo70_6 (Lo G ag34 (bs2.cell (j := 37) G) (Mv (I64 n) G (WL.build (v := .agg #[.int .u8 1, I64 n]) (vs := [(0, .int .u8 1), (1, I64 n)]) G (bld46_49 n) G (WL.buildSlice (vs := [(0, .agg #[.int .u8 1, I64 n])]) G (bls46_50 n) G ?_)))))))))
 intro b50 w50 n50
 have E3 : Mod (fun k => T k = 1 ∨ T k = 7) w w50 := Mt E2 (Mod.ext n50.ext)
 have O4 := ((ht.evs.mod ms1 (fun g hg e => (fun e => by have := ht.te b e; rw [ht.tb] at this; cases this) (hg.trans (congrArg some e)))).mod ms2 (fun g hg e => (fun e => by have := ht.te b e; rw [ht.tb] at this; cases this) (hg.trans (congrArg some e)))).ext n50.ext
 refine WL.append (k := M.events.length) (m := 1) (xs := evV M.events) (news := [U8 1#8, I64 n]) ap34 G G G O4 ((Sl.of1 n50.blk.cells G).src Tryz.underlying34 (List.all_eq_true.1 G)) (by omega) (by omega) G ?_
 intro v51 w51 o51 m51 l51
 have F5 : LocV w ev v51 := LocV.trans (LocV.refl _ _) l51 (Mod.size E3)
 have B7 := bs2.ext n50.ext
 have N6 : v51.ownBlock ≠ some b := LocV.ne l51 B7.lt (fun e => by have := ht.te b e; rw [ht.tb] at this; cases this)
 have E8 : Mod (fun k => T k = 1 ∨ T k = 7) w w51 := Mt E3 (m51.imp (fun i _ e => .inr (ht.te i e)))
 refine WL.nilCheck G G (Fa G fo70_6 ?_)
 have B9 := B7.mod m51 ((fun e => by have := ht.te b e; rw [ht.tb] at this; cases this))
 refine WL.storeB (v := v51) G G o51.sl.one sz34 B9 (Nat.le_of_ble_eq_true G) ?_
 intro ws10 ms10 bs10 zs10
 have E10 : Mod (fun k => T k = 1 ∨ T k = 7) w ws10 := Mod.trans E8 (ms10.imp (fun i _ e => by subst e; exact .inl ht.tb))
 refine Ni (Sr (An (.bool true) G (Ni (WC.ret ?_))))
 have e : callsR M = { { M with input := r, x := updR M.x 10 n } with events := M.events ++ [(1#8, n)] } := by unfold callsR callsM; simp only [h17, if_true, hin, List.headD_cons, List.headD_nil, List.tail_cons, List.tail_nil]
 have O11 := o51.mod ms10 (fun g hg e => N6 (hg.trans (congrArg some e)))
 have htn : TurnR T w b (callsR M) ws ws10 := by rw [e]; exact turnR_ev (M := { M with input := r, x := updR M.x 10 n }) (l := M.events ++ [(1#8, n)]) ((ht.regs (updR M.x 10 n) M.pc M.steps M.fin).inp (by have hi := ht.input.from (j := 1) (by rw [hin]; exact Nat.succ_pos _); rw [hin] at hi; simpa using hi.1) ((ht.input.from (j := 1) (by rw [hin]; exact Nat.succ_pos _)).2) (fun _ => by rw [hin]; exact Nat.succ_pos _)) E10 (by rw [evV_snoc]; simpa using O11) F5 (by simp) (by unfold RCells; dsimp only; rw [hfin]; exact bs10)
 exact ⟨_, Res.one (v := .bool true) G G, G, htn⟩
theorem callsR_spec (T : Nat → Nat) (b : Nat) (M : MS) (ws : List (BitVec 32)) (w : World) (h : RR T w b M ws) (he : M.events.length < 8796093022208) (hfin : M.fin = none) : CallsR Tryz.prog 46 #[ptr b 0] w (fun v w' => v = .bool (!((callsM M).2 == some true)) ∧ TurnR T w b (callsR M) ws w') := by
 rcases Bool.eq_false_or_eq_true (M.x 17 == 1#64) with h1 | h1
 ·have e : (callsM M).2 = none := by unfold callsM; simp only [h1, if_true]
  rw [e]
  rcases hin : M.input with _ | ⟨n, r⟩
  ·exact callsR_1a T b M ws w h he hfin h1 hin
  ·exact callsR_1b T b M ws w h he hfin h1 n r hin
 rcases Bool.eq_false_or_eq_true (M.x 17 == 2#64) with h2 | h2
 ·have e : (callsM M).2 = none := by unfold callsM; simp only [h1, h2, Bool.false_eq_true, if_false, if_true]
  rw [e]; exact callsR_2 T b M ws w h he hfin h1 h2
 rcases Bool.eq_false_or_eq_true (M.x 17 == 3#64) with h3 | h3
 ·have e : (callsM M).2 = some false := by unfold callsM; simp only [h1, h2, h3, Bool.false_eq_true, if_false, if_true]
  rw [e]; exact callsR_3 T b M ws w h he hfin h1 h2 h3
 rcases Bool.eq_false_or_eq_true (M.x 17 == 4#64) with h4 | h4
 ·have e : (callsM M).2 = some false := by unfold callsM; simp only [h1, h2, h3, h4, Bool.false_eq_true, if_false, if_true]
  rw [e]; exact callsR_4 T b M ws w h he hfin h1 h2 h3 h4
 ·have e : (callsM M).2 = some true := by unfold callsM; simp only [h1, h2, h3, h4, Bool.false_eq_true, if_false]
  rw [e]; exact callsR_5 T b M ws w h he hfin h1 h2 h3 h4
end Go.Proofs.S
end
