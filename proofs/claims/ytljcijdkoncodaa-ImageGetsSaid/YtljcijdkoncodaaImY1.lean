import Derived.Test.YtljcijdkoncodaaImgBig
import Derived.Test.YtljcijdkoncodaaRows
import Derived.Test.YtljcijdkoncodaaImX8
set_option linter.unusedSimpArgs false
set_option linter.unusedVariables false
namespace Go.Proofs.I
open Go Go.Ux Go.Ux.Image Go.Proofs
theorem zt54 : zeroT Try.prog 54 = some #[.string ⟨#[]⟩, .int .i64 0] := by kernel_rfl
theorem fo54_0 : fieldOff Try.prog 54 0 = some 0 := by kernel_rfl
theorem fo54_1 : fieldOff Try.prog 54 1 = some 1 := by kernel_rfl

theorem BinR.remT {P : Program} {t : TypeId} {a b : Int} (hb : b ≠ 0) : BinR P .rem t (.int .i64 a) (.int .i64 b) (.int .i64 (a.tmod b)) := .of_int fun w => by
  simp [binOp, Op.intDiv, hb]

theorem rright_spec (sv wv : Value) (I : Img) (w : World) (hR : Rep w sv wv I) : CallsR Try.prog 18 #[.agg #[.int .i64 (I.entry), sv, wv]] w (fun v w' => v = .bool (rightB I) ∧ Ext w w') := by
  have hI1 := hR.ls
  have hI2 := hR.lw
  refine callsR_of Try.func18 rfl rfl rfl ?_
  refine WC.seq ?_
  refine WC.region ?_
  refine WL.box (v := .agg #[.int .i64 (I.entry), sv, wv]) rfl rfl ?_
  intro b1 w1 n1
  have E1 : Ext w w1 := Mod.trans (Mod.refl _ _) (n1.ext)
  refine WL.assign (v := .bool (false)) rfl rfl ?_
  refine WL.nil ?_
  refine WC.seq ?_
  refine WC.seq ?_
  refine WC.cut (fun f' w_ => f' 0 = .agg #[.int .i64 (I.entry), sv, wv] ∧ f' 1 = ptr b1 0 ∧ f' 2 = .bool (false) ∧ f' 43 = .bool (headBad I) ∧ w1 = w_) ?_ ?_
  · refine WC.region ?_
    refine WL.fieldAddr rfl fo33_0 rfl ?_
    refine WL.load1 rfl ag3 (n1.blk.cell (j := 0) rfl) rfl ?_
    refine WL.bin rfl rfl rfl (BinR.lss) ?_
    refine WL.move (v := .bool (decide ((I.entry : Int) < (0 : Int)))) rfl rfl ?_
    rcases Bool.eq_false_or_eq_true (decide ((I.entry : Int) < (0 : Int))) with hg9 | hg9
    · refine WL.guardF (b' := true) (yf_bool rfl rfl hg9) rfl rfl ?_
      refine WL.guardF (b' := true) (yf_bool rfl rfl hg9) rfl rfl ?_
      refine WL.guardF (b' := true) (yf_bool rfl rfl hg9) rfl rfl ?_
      refine WL.pick (b := true) (congrArg Value.bool hg9) rfl rfl ?_
      refine WL.move (v := .bool (true)) rfl rfl ?_
      refine WL.guardF (b' := true) (rfl) rfl rfl ?_
      refine WL.guardF (b' := true) (rfl) rfl rfl ?_
      refine WL.guardF (b' := true) (rfl) rfl rfl ?_
      refine WL.guardF (b' := true) (rfl) rfl rfl ?_
      refine WL.pick (b := true) rfl rfl rfl ?_
      refine WL.move (v := .bool (true)) rfl rfl ?_
      refine WL.guardF (b' := true) (rfl) rfl rfl ?_
      refine WL.guardF (b' := true) (rfl) rfl rfl ?_
      refine WL.guardF (b' := true) (rfl) rfl rfl ?_
      refine WL.guardF (b' := true) (rfl) rfl rfl ?_
      refine WL.pick (b := true) rfl rfl rfl ?_
      refine WL.move (v := .bool (true)) rfl rfl ?_
      refine WL.guardF (b' := true) (rfl) rfl rfl ?_
      refine WL.guardF (b' := true) (rfl) rfl rfl ?_
      refine WL.guardF (b' := true) (rfl) rfl rfl ?_
      refine WL.guardF (b' := true) (rfl) rfl rfl ?_
      refine WL.pick (b := true) rfl rfl rfl ?_
      refine WL.move (v := .bool (true)) rfl rfl ?_
      refine WL.guardF (b' := true) (rfl) rfl rfl ?_
      refine WL.guardF (b' := true) (rfl) rfl rfl ?_
      refine WL.guardF (b' := true) (rfl) rfl rfl ?_
      refine WL.guardF (b' := true) (rfl) rfl rfl ?_
      refine WL.pick (b := true) rfl rfl rfl ?_
      refine WL.move (v := .bool (true)) rfl rfl ?_
      refine WL.guardF (b' := true) (rfl) rfl rfl ?_
      refine WL.guardF (b' := true) (rfl) rfl rfl ?_
      refine WL.guardF (b' := true) (rfl) rfl rfl ?_
      refine WL.guardF (b' := true) (rfl) rfl rfl ?_
      refine WL.pick (b := true) rfl rfl rfl ?_
      refine WL.nil ?_
      have hcut : (true) = headBad I := by simp only [headBad, *, Bool.true_or, Bool.or_true, Bool.false_or, Bool.or_false, Bool.true_and, Bool.and_true, Bool.false_and, Bool.and_false]
      exact ⟨rfl, rfl, rfl, rfl, congrArg Value.bool hcut, rfl⟩
    · refine WL.guardT (yf_bool rfl rfl hg9) ?_
      refine WL.fieldAddr rfl fo33_0 rfl ?_
      refine WL.guardT (yf_bool rfl rfl hg9) ?_
      refine WL.load1 rfl ag3 (n1.blk.cell (j := 0) rfl) rfl ?_
      refine WL.guardT (yf_bool rfl rfl hg9) ?_
      refine WL.bin rfl rfl rfl (BinR.gtr) ?_
      refine WL.pick (b := false) (congrArg Value.bool hg9) rfl rfl ?_
      refine WL.move (v := .bool (decide ((524288 : Int) < (I.entry : Int)))) rfl rfl ?_
      rcases Bool.eq_false_or_eq_true (decide ((524288 : Int) < (I.entry : Int))) with hg14 | hg14
      · refine WL.guardF (b' := true) (yf_bool rfl rfl hg14) rfl rfl ?_
        refine WL.guardF (b' := true) (yf_bool rfl rfl hg14) rfl rfl ?_
        refine WL.guardF (b' := true) (yf_bool rfl rfl hg14) rfl rfl ?_
        refine WL.guardF (b' := true) (yf_bool rfl rfl hg14) rfl rfl ?_
        refine WL.pick (b := true) (congrArg Value.bool hg14) rfl rfl ?_
        refine WL.move (v := .bool (true)) rfl rfl ?_
        refine WL.guardF (b' := true) (rfl) rfl rfl ?_
        refine WL.guardF (b' := true) (rfl) rfl rfl ?_
        refine WL.guardF (b' := true) (rfl) rfl rfl ?_
        refine WL.guardF (b' := true) (rfl) rfl rfl ?_
        refine WL.pick (b := true) rfl rfl rfl ?_
        refine WL.move (v := .bool (true)) rfl rfl ?_
        refine WL.guardF (b' := true) (rfl) rfl rfl ?_
        refine WL.guardF (b' := true) (rfl) rfl rfl ?_
        refine WL.guardF (b' := true) (rfl) rfl rfl ?_
        refine WL.guardF (b' := true) (rfl) rfl rfl ?_
        refine WL.pick (b := true) rfl rfl rfl ?_
        refine WL.move (v := .bool (true)) rfl rfl ?_
        refine WL.guardF (b' := true) (rfl) rfl rfl ?_
        refine WL.guardF (b' := true) (rfl) rfl rfl ?_
        refine WL.guardF (b' := true) (rfl) rfl rfl ?_
        refine WL.guardF (b' := true) (rfl) rfl rfl ?_
        refine WL.pick (b := true) rfl rfl rfl ?_
        refine WL.move (v := .bool (true)) rfl rfl ?_
        refine WL.guardF (b' := true) (rfl) rfl rfl ?_
        refine WL.guardF (b' := true) (rfl) rfl rfl ?_
        refine WL.guardF (b' := true) (rfl) rfl rfl ?_
        refine WL.guardF (b' := true) (rfl) rfl rfl ?_
        refine WL.pick (b := true) rfl rfl rfl ?_
        refine WL.nil ?_
        have hcut : (true) = headBad I := by simp only [headBad, *, Bool.true_or, Bool.or_true, Bool.false_or, Bool.or_false, Bool.true_and, Bool.and_true, Bool.false_and, Bool.and_false]
        exact ⟨rfl, rfl, rfl, rfl, congrArg Value.bool hcut, rfl⟩
      · refine WL.guardT (yf_bool rfl rfl hg14) ?_
        refine WL.fieldAddr rfl fo33_0 rfl ?_
        refine WL.guardT (yf_bool rfl rfl hg14) ?_
        refine WL.load1 rfl ag3 (n1.blk.cell (j := 0) rfl) rfl ?_
        refine WL.guardT (yf_bool rfl rfl hg14) ?_
        refine WL.bin rfl rfl rfl (BinR.remT (by decide)) ?_
        refine WL.guardT (yf_bool rfl rfl hg14) ?_
        refine WL.bin rfl rfl rfl (BinR.neq) ?_
        refine WL.pick (b := false) (congrArg Value.bool hg14) rfl rfl ?_
        refine WL.move (v := .bool (((I.entry.tmod 8 : Int) != (0 : Int)))) rfl rfl ?_
        rcases Bool.eq_false_or_eq_true (((I.entry.tmod 8 : Int) != (0 : Int))) with hg20 | hg20
        · refine WL.guardF (b' := true) (yf_bool rfl rfl hg20) rfl rfl ?_
          refine WL.guardF (b' := true) (yf_bool rfl rfl hg20) rfl rfl ?_
          refine WL.guardF (b' := true) (yf_bool rfl rfl hg20) rfl rfl ?_
          refine WL.guardF (b' := true) (yf_bool rfl rfl hg20) rfl rfl ?_
          refine WL.pick (b := true) (congrArg Value.bool hg20) rfl rfl ?_
          refine WL.move (v := .bool (true)) rfl rfl ?_
          refine WL.guardF (b' := true) (rfl) rfl rfl ?_
          refine WL.guardF (b' := true) (rfl) rfl rfl ?_
          refine WL.guardF (b' := true) (rfl) rfl rfl ?_
          refine WL.guardF (b' := true) (rfl) rfl rfl ?_
          refine WL.pick (b := true) rfl rfl rfl ?_
          refine WL.move (v := .bool (true)) rfl rfl ?_
          refine WL.guardF (b' := true) (rfl) rfl rfl ?_
          refine WL.guardF (b' := true) (rfl) rfl rfl ?_
          refine WL.guardF (b' := true) (rfl) rfl rfl ?_
          refine WL.guardF (b' := true) (rfl) rfl rfl ?_
          refine WL.pick (b := true) rfl rfl rfl ?_
          refine WL.move (v := .bool (true)) rfl rfl ?_
          refine WL.guardF (b' := true) (rfl) rfl rfl ?_
          refine WL.guardF (b' := true) (rfl) rfl rfl ?_
          refine WL.guardF (b' := true) (rfl) rfl rfl ?_
          refine WL.guardF (b' := true) (rfl) rfl rfl ?_
          refine WL.pick (b := true) rfl rfl rfl ?_
          refine WL.nil ?_
          have hcut : (true) = headBad I := by simp only [headBad, *, Bool.true_or, Bool.or_true, Bool.false_or, Bool.or_false, Bool.true_and, Bool.and_true, Bool.false_and, Bool.and_false]
          exact ⟨rfl, rfl, rfl, rfl, congrArg Value.bool hcut, rfl⟩
        · refine WL.guardT (yf_bool rfl rfl hg20) ?_
          refine WL.fieldAddr rfl fo33_1 rfl ?_
          refine WL.guardT (yf_bool rfl rfl hg20) ?_
          refine WL.load1 rfl ag31 (n1.blk.cell (j := 1) rfl) rfl ?_
          refine WL.guardT (yf_bool rfl rfl hg20) ?_
          refine WL.lenSl (sz := 2) (m := I.syms.length) (xs := symCells I.syms) el31 rfl ((hR.s).ext' (E1)) rfl ?_
          refine WL.guardT (yf_bool rfl rfl hg20) ?_
          refine WL.bin rfl rfl rfl (BinR.lss) ?_
          refine WL.pick (b := false) (congrArg Value.bool hg20) rfl rfl ?_
          refine WL.move (v := .bool (decide (((I.syms.length : Nat) : Int) < (1 : Int)))) rfl rfl ?_
          rcases Bool.eq_false_or_eq_true (decide (((I.syms.length : Nat) : Int) < (1 : Int))) with hg26 | hg26
          · refine WL.guardF (b' := true) (yf_bool rfl rfl hg26) rfl rfl ?_
            refine WL.guardF (b' := true) (yf_bool rfl rfl hg26) rfl rfl ?_
            refine WL.guardF (b' := true) (yf_bool rfl rfl hg26) rfl rfl ?_
            refine WL.guardF (b' := true) (yf_bool rfl rfl hg26) rfl rfl ?_
            refine WL.pick (b := true) (congrArg Value.bool hg26) rfl rfl ?_
            refine WL.move (v := .bool (true)) rfl rfl ?_
            refine WL.guardF (b' := true) (rfl) rfl rfl ?_
            refine WL.guardF (b' := true) (rfl) rfl rfl ?_
            refine WL.guardF (b' := true) (rfl) rfl rfl ?_
            refine WL.guardF (b' := true) (rfl) rfl rfl ?_
            refine WL.pick (b := true) rfl rfl rfl ?_
            refine WL.move (v := .bool (true)) rfl rfl ?_
            refine WL.guardF (b' := true) (rfl) rfl rfl ?_
            refine WL.guardF (b' := true) (rfl) rfl rfl ?_
            refine WL.guardF (b' := true) (rfl) rfl rfl ?_
            refine WL.guardF (b' := true) (rfl) rfl rfl ?_
            refine WL.pick (b := true) rfl rfl rfl ?_
            refine WL.nil ?_
            have hcut : (true) = headBad I := by simp only [headBad, *, Bool.true_or, Bool.or_true, Bool.false_or, Bool.or_false, Bool.true_and, Bool.and_true, Bool.false_and, Bool.and_false]
            exact ⟨rfl, rfl, rfl, rfl, congrArg Value.bool hcut, rfl⟩
          · refine WL.guardT (yf_bool rfl rfl hg26) ?_
            refine WL.fieldAddr rfl fo33_1 rfl ?_
            refine WL.guardT (yf_bool rfl rfl hg26) ?_
            refine WL.load1 rfl ag31 (n1.blk.cell (j := 1) rfl) rfl ?_
            refine WL.guardT (yf_bool rfl rfl hg26) ?_
            refine WL.lenSl (sz := 2) (m := I.syms.length) (xs := symCells I.syms) el31 rfl ((hR.s).ext' (E1)) rfl ?_
            refine WL.guardT (yf_bool rfl rfl hg26) ?_
            refine WL.bin rfl rfl rfl (BinR.gtr) ?_
            refine WL.pick (b := false) (congrArg Value.bool hg26) rfl rfl ?_
            refine WL.move (v := .bool (decide ((65 : Int) < ((I.syms.length : Nat) : Int)))) rfl rfl ?_
            rcases Bool.eq_false_or_eq_true (decide ((65 : Int) < ((I.syms.length : Nat) : Int))) with hg32 | hg32
            · refine WL.guardF (b' := true) (yf_bool rfl rfl hg32) rfl rfl ?_
              refine WL.guardF (b' := true) (yf_bool rfl rfl hg32) rfl rfl ?_
              refine WL.guardF (b' := true) (yf_bool rfl rfl hg32) rfl rfl ?_
              refine WL.guardF (b' := true) (yf_bool rfl rfl hg32) rfl rfl ?_
              refine WL.pick (b := true) (congrArg Value.bool hg32) rfl rfl ?_
              refine WL.move (v := .bool (true)) rfl rfl ?_
              refine WL.guardF (b' := true) (rfl) rfl rfl ?_
              refine WL.guardF (b' := true) (rfl) rfl rfl ?_
              refine WL.guardF (b' := true) (rfl) rfl rfl ?_
              refine WL.guardF (b' := true) (rfl) rfl rfl ?_
              refine WL.pick (b := true) rfl rfl rfl ?_
              refine WL.nil ?_
              have hcut : (true) = headBad I := by simp only [headBad, *, Bool.true_or, Bool.or_true, Bool.false_or, Bool.or_false, Bool.true_and, Bool.and_true, Bool.false_and, Bool.and_false]
              exact ⟨rfl, rfl, rfl, rfl, congrArg Value.bool hcut, rfl⟩
            · refine WL.guardT (yf_bool rfl rfl hg32) ?_
              refine WL.fieldAddr rfl fo33_2 rfl ?_
              refine WL.guardT (yf_bool rfl rfl hg32) ?_
              refine WL.load1 rfl ag23 (n1.blk.cell (j := 2) rfl) rfl ?_
              refine WL.guardT (yf_bool rfl rfl hg32) ?_
              refine WL.lenSl (sz := 1) (m := I.words.length) (xs := wordCells I.words) el23 rfl ((hR.w).ext' (E1)) rfl ?_
              refine WL.guardT (yf_bool rfl rfl hg32) ?_
              refine WL.bin rfl rfl rfl (BinR.lss) ?_
              refine WL.pick (b := false) (congrArg Value.bool hg32) rfl rfl ?_
              refine WL.move (v := .bool (decide (((I.words.length : Nat) : Int) < (1 : Int)))) rfl rfl ?_
              rcases Bool.eq_false_or_eq_true (decide (((I.words.length : Nat) : Int) < (1 : Int))) with hg38 | hg38
              · refine WL.guardF (b' := true) (yf_bool rfl rfl hg38) rfl rfl ?_
                refine WL.guardF (b' := true) (yf_bool rfl rfl hg38) rfl rfl ?_
                refine WL.guardF (b' := true) (yf_bool rfl rfl hg38) rfl rfl ?_
                refine WL.guardF (b' := true) (yf_bool rfl rfl hg38) rfl rfl ?_
                refine WL.pick (b := true) (congrArg Value.bool hg38) rfl rfl ?_
                refine WL.nil ?_
                have hcut : (true) = headBad I := by simp only [headBad, *, Bool.true_or, Bool.or_true, Bool.false_or, Bool.or_false, Bool.true_and, Bool.and_true, Bool.false_and, Bool.and_false]
                exact ⟨rfl, rfl, rfl, rfl, congrArg Value.bool hcut, rfl⟩
              · refine WL.guardT (yf_bool rfl rfl hg38) ?_
                refine WL.fieldAddr rfl fo33_2 rfl ?_
                refine WL.guardT (yf_bool rfl rfl hg38) ?_
                refine WL.load1 rfl ag23 (n1.blk.cell (j := 2) rfl) rfl ?_
                refine WL.guardT (yf_bool rfl rfl hg38) ?_
                refine WL.lenSl (sz := 1) (m := I.words.length) (xs := wordCells I.words) el23 rfl ((hR.w).ext' (E1)) rfl ?_
                refine WL.guardT (yf_bool rfl rfl hg38) ?_
                refine WL.bin rfl rfl rfl (BinR.gtr) ?_
                refine WL.pick (b := false) (congrArg Value.bool hg38) rfl rfl ?_
                refine WL.nil ?_
                have hcut : (decide ((262144 : Int) < ((I.words.length : Nat) : Int))) = headBad I := by simp only [headBad, *, Bool.true_or, Bool.or_true, Bool.false_or, Bool.or_false, Bool.true_and, Bool.and_true, Bool.false_and, Bool.and_false]
                exact ⟨rfl, rfl, rfl, rfl, congrArg Value.bool hcut, rfl⟩
  rintro fc1 _ ⟨hc1_0, hc1_1, hc1_2, hc1_43, rfl⟩
  refine WC.cond hc1_43 (fun hc43 => ?_) (fun hc43 => ?_)
  · have hrf := headBad_no I hc43
    refine WC.seq ?_
    refine WC.region ?_
    refine WL.assign (v := .bool (false)) rfl rfl ?_
    refine WL.nil ?_
    refine WC.ret ?_
    have hfin : ((.bool (false)) : Value) = Value.bool (rightB I) := congrArg Value.bool (by first | exact hrf.symm | exact (ht.trans hbad).symm | exact (ht.trans hdup).symm | exact (ht.trans (todo_end I i (by omega) hi)).symm)
    exact ⟨_, Res.one (v := .bool (false)) rfl rfl, hfin, E1⟩
  · have hrt := headBad_ok I hc43
    have hh := hc43
    simp only [headBad, Bool.or_eq_false_iff, decide_eq_false_iff_not] at hh
    refine WC.skip ?_
    refine WC.seq ?_
    refine WC.seq ?_
    refine WC.region ?_
    refine WL.assign (v := IN (0)) rfl rfl ?_
    refine WL.nil ?_
    refine WC.block ?_
    refine WC.loop (fun k f w_ => ∃ i, (k + i = I.syms.length) ∧ (rightB I = todo I i) ∧ (0 < i → 0 ≤ lastAt I.syms i) ∧ f 0 = .agg #[.int .i64 (I.entry), sv, wv] ∧ f 1 = ptr b1 0 ∧ f 3 = IN (i) ∧ f 43 = .bool (headBad I) ∧ (Ext w w_) ∧ (Blk w_ b1 #[.int .i64 I.entry, sv, wv] 33)) (I.syms.length) ?_ ?_
    · exact ⟨(0), by omega, by rw [hrt]; rfl, fun h => absurd h (by decide), hc1_0, hc1_1, rfl, hc1_43, E1, n1.blk⟩
    rintro ka f1 wr ⟨i, hk1, ht, hl, h0_1, h1_1, h3_1, h43_1, hE, hB⟩
    refine WC.seq ?_
    refine WC.seq ?_
    refine WC.region ?_
    refine WL.move (v := IN (i)) h3_1 rfl ?_
    refine WL.fieldAddr h1_1 fo33_1 rfl ?_
    refine WL.load1 rfl ag31 (hB.cell (j := 1) rfl) rfl ?_
    refine WL.lenSl (sz := 2) (m := I.syms.length) (xs := symCells I.syms) el31 rfl ((hR.s).ext' (hE)) rfl ?_
    refine WL.bin rfl rfl rfl (BinR.lss) ?_
    refine WL.nil ?_
    refine WC.cond rfl (fun hc48 => ?_) (fun hc48 => ?_)
    · have hi : i < I.syms.length := by have := of_decide_eq_true hc48; omega
      obtain ⟨bs0, os0, cs0, es0, hcs0⟩ := hR.s.at (by omega)
      refine WC.skip ?_
      refine WC.seq ?_
      refine WC.block ?_
      refine WC.seq ?_
      refine WC.region ?_
      refine WL.fieldAddr h1_1 fo33_1 rfl ?_
      refine WL.load1 rfl ag31 (hB.cell (j := 1) rfl) rfl ?_
      refine WL.move (v := IN (i)) h3_1 rfl ?_
      refine WL.indexAddr (i := i) (b := bs0) (o := os0) el31 sz54 (Eq.trans (rfl) es0) rfl (by omega) rfl ?_
      refine WL.loadS [St (I.syms[i]).1, .int .i64 ((I.syms[i]).2)] rfl ag54 sz54 rfl (cells2 (hcs0.ext (hE)) ((symCells_get I.syms i (by omega))).1 ((symCells_get I.syms i (by omega))).2) rfl ?_
      refine WL.allocStore (v := .agg #[St (I.syms[i]).1, .int .i64 ((I.syms[i]).2)]) zt54 rfl sz54 rfl rfl rfl rfl ?_
      intro b4 w4 n4
      have R2 : Ext wr w4 := Mod.trans (Mod.refl _ _) (n4.ext)
      have E3 : Ext w w4 := Mod.trans (hE) (n4.ext)
      refine WL.nil ?_
      refine WC.seq ?_
      refine WC.seq ?_
      refine WC.cut (fun f' w_ => f' 0 = .agg #[.int .i64 (I.entry), sv, wv] ∧ f' 1 = ptr b1 0 ∧ f' 3 = IN (i) ∧ f' 4 = ptr b4 0 ∧ f' 43 = .bool (headBad I) ∧ f' 44 = IN (i) ∧ f' 45 = ptr b1 1 ∧ f' 46 = sv ∧ f' 47 = IN (I.syms.length) ∧ f' 48 = .bool (decide (((i : Nat) : Int) < ((I.syms.length : Nat) : Int))) ∧ f' 51 = ptr b1 1 ∧ f' 52 = sv ∧ f' 53 = IN (i) ∧ f' 54 = ptr bs0 (os0 + (i) * 2) ∧ f' 55 = .agg #[St (I.syms[i]).1, .int .i64 ((I.syms[i]).2)] ∧ f' 105 = .bool (symBad I.words.length i (lastAt I.syms i) (I.syms[i])) ∧ (Blk w_ b1 #[.int .i64 I.entry, sv, wv] 33) ∧ (Blk w_ b4 #[St (I.syms[i]).1, .int .i64 (I.syms[i]).2] 54) ∧ Ext w w_) ?_ ?_
      · rcases Bool.eq_false_or_eq_true (decide ((((I.syms[i]).1.length : Nat) : Int) < (1 : Int))) with hd7_60 | hd7_60
        · refine WC.draw (fun w_ => Ext w4 w_) 50 rfl mixed ?_
          intro wd_7 ed_7
          have R4 : Ext wr wd_7 := Mod.trans (R2) (ed_7)
          have R5 : Ext w4 wd_7 := Mod.trans (Mod.refl _ _) (ed_7)
          have E6 : Ext w wd_7 := Mod.trans (E3) (ed_7)
          refine WA.take (i := 0) (m' := 1) (v := ptr b4 0) rfl rfl rfl rfl (by kernel_rfl) rfl (fun _ _ _ h => nomatch h.1) (fun wx hS => ?_) (R5) ?_
          · have E7 : Ext w wx := Mod.trans (E3) (hS)
            refine WL.fieldAddr rfl fo54_0 rfl ?_
            exact WL.nil ⟨rfl, rfl, rfl⟩
          refine WA.take (i := 1) (m' := 3) (v := St (I.syms[i]).1) rfl rfl rfl rfl (by kernel_rfl) rfl (fun _ _ _ h => nomatch h.1) (fun wx hS => ?_) (R5) ?_
          · have E8 : Ext w wx := Mod.trans (E3) (hS)
            have B9 := (n4.blk).ext (hS)
            refine WL.load1 rfl ag9 (B9.cell (j := 0) rfl) rfl ?_
            exact WL.nil ⟨rfl, rfl, rfl⟩
          refine WA.take (i := 2) (m' := 7) (v := IN ((I.syms[i]).1.length)) rfl rfl rfl rfl (by kernel_rfl) rfl (fun _ _ _ h => nomatch h.1) (fun wx hS => ?_) (R5) ?_
          · have E10 : Ext w wx := Mod.trans (E3) (hS)
            refine WL.lenSt Try.underlying9 rfl rfl ?_
            exact WL.nil ⟨rfl, rfl, rfl⟩
          refine WA.take (i := 3) (m' := 15) (v := .bool (decide ((((I.syms[i]).1.length : Nat) : Int) < (1 : Int)))) rfl rfl rfl rfl (by kernel_rfl) rfl (fun _ _ _ h => nomatch h.1) (fun wx hS => ?_) (R5) ?_
          · have E11 : Ext w wx := Mod.trans (E3) (hS)
            refine WL.bin rfl rfl rfl (BinR.lss) ?_
            exact WL.nil ⟨rfl, rfl, rfl⟩
          refine WA.take (i := 4) (m' := 31) (v := .bool (decide ((((I.syms[i]).1.length : Nat) : Int) < (1 : Int)))) rfl rfl rfl rfl (by kernel_rfl) rfl (fun _ _ _ h => nomatch h.1) (fun wx hS => ?_) (R5) ?_
          · have E12 : Ext w wx := Mod.trans (E3) (hS)
            refine WL.move (v := .bool (decide ((((I.syms[i]).1.length : Nat) : Int) < (1 : Int)))) rfl rfl ?_
            exact WL.nil ⟨rfl, rfl, rfl⟩
          refine WA.off (i := 5) (m' := 63) (y := some true) rfl rfl rfl rfl (by kernel_rfl) rfl (fun _ _ _ h => nomatch h.1) (yf_bool rfl rfl hd7_60) rfl (R5) ?_
          refine WA.off (i := 6) (m' := 127) (y := some true) rfl rfl rfl rfl (by kernel_rfl) rfl (fun _ _ _ h => nomatch h.1) (yf_bool rfl rfl hd7_60) rfl (R5) ?_
          refine WA.off (i := 7) (m' := 255) (y := some true) rfl rfl rfl rfl (by kernel_rfl) rfl (fun _ _ _ h => nomatch h.1) (yf_bool rfl rfl hd7_60) rfl (R5) ?_
          refine WA.off (i := 8) (m' := 511) (y := some true) rfl rfl rfl rfl (by kernel_rfl) rfl (fun _ _ _ h => nomatch h.1) (yf_bool rfl rfl hd7_60) rfl (R5) ?_
          refine WA.take (i := 9) (m' := 1023) (v := .bool (true)) rfl rfl rfl rfl (by kernel_rfl) rfl (fun _ _ _ h => nomatch h.1) (fun wx hS => ?_) (R5) ?_
          · have E13 : Ext w wx := Mod.trans (E3) (hS)
            refine WL.pick (b := true) (congrArg Value.bool hd7_60) rfl rfl ?_
            exact WL.nil ⟨rfl, rfl, rfl⟩
          refine WA.take (i := 10) (m' := 2047) (v := .bool (true)) rfl rfl rfl rfl (by kernel_rfl) rfl (fun _ _ _ h => nomatch h.1) (fun wx hS => ?_) (R5) ?_
          · have E14 : Ext w wx := Mod.trans (E3) (hS)
            refine WL.move (v := .bool (true)) rfl rfl ?_
            exact WL.nil ⟨rfl, rfl, rfl⟩
          refine WA.off (i := 11) (m' := 4095) (y := some true) rfl rfl rfl rfl (by kernel_rfl) rfl (fun _ _ _ h => nomatch h.1) (rfl) rfl (R5) ?_
          refine WA.off (i := 12) (m' := 8191) (y := some true) rfl rfl rfl rfl (by kernel_rfl) rfl (fun _ _ _ h => nomatch h.1) (rfl) rfl (R5) ?_
          refine WA.off (i := 13) (m' := 16383) (y := some true) rfl rfl rfl rfl (by kernel_rfl) rfl (fun _ _ _ h => nomatch h.1) (rfl) rfl (R5) ?_
          refine WA.off (i := 14) (m' := 32767) (y := some true) rfl rfl rfl rfl (by kernel_rfl) rfl (fun _ _ _ h => nomatch h.1) (rfl) rfl (R5) ?_
          refine WA.take (i := 15) (m' := 65535) (v := .bool (true)) rfl rfl rfl rfl (by kernel_rfl) rfl (fun _ _ _ h => nomatch h.1) (fun wx hS => ?_) (R5) ?_
          · have E15 : Ext w wx := Mod.trans (E3) (hS)
            refine WL.pick (b := true) rfl rfl rfl ?_
            exact WL.nil ⟨rfl, rfl, rfl⟩
          refine WA.take (i := 16) (m' := 131071) (v := .bool (true)) rfl rfl rfl rfl (by kernel_rfl) rfl (fun _ _ _ h => nomatch h.1) (fun wx hS => ?_) (R5) ?_
          · have E16 : Ext w wx := Mod.trans (E3) (hS)
            refine WL.move (v := .bool (true)) rfl rfl ?_
            exact WL.nil ⟨rfl, rfl, rfl⟩
          refine WA.off (i := 17) (m' := 262143) (y := some true) rfl rfl rfl rfl (by kernel_rfl) rfl (fun _ _ _ h => nomatch h.1) (rfl) rfl (R5) ?_
          refine WA.off (i := 18) (m' := 524287) (y := some true) rfl rfl rfl rfl (by kernel_rfl) rfl (fun _ _ _ h => nomatch h.1) (rfl) rfl (R5) ?_
          refine WA.off (i := 19) (m' := 1048575) (y := some true) rfl rfl rfl rfl (by kernel_rfl) rfl (fun _ _ _ h => nomatch h.1) (rfl) rfl (R5) ?_
          refine WA.off (i := 20) (m' := 2097151) (y := some true) rfl rfl rfl rfl (by kernel_rfl) rfl (fun _ _ _ h => nomatch h.1) (rfl) rfl (R5) ?_
          refine WA.off (i := 21) (m' := 4194303) (y := some true) rfl rfl rfl rfl (by kernel_rfl) rfl (fun _ _ _ h => nomatch h.1) (rfl) rfl (R5) ?_
          refine WA.off (i := 22) (m' := 8388607) (y := some true) rfl rfl rfl rfl (by kernel_rfl) rfl (fun _ _ _ h => nomatch h.1) (rfl) rfl (R5) ?_
          refine WA.off (i := 23) (m' := 16777215) (y := some true) rfl rfl rfl rfl (by kernel_rfl) rfl (fun _ _ _ h => nomatch h.1) (rfl) rfl (R5) ?_
          refine WA.take (i := 24) (m' := 33554431) (v := .bool (true)) rfl rfl rfl rfl (by kernel_rfl) rfl (fun _ _ _ h => nomatch h.1) (fun wx hS => ?_) (R5) ?_
          · have E17 : Ext w wx := Mod.trans (E3) (hS)
            refine WL.pick (b := true) rfl rfl rfl ?_
            exact WL.nil ⟨rfl, rfl, rfl⟩
          refine WA.take (i := 25) (m' := 67108863) (v := .bool (true)) rfl rfl rfl rfl (by kernel_rfl) rfl (fun _ _ _ h => nomatch h.1) (fun wx hS => ?_) (R5) ?_
          · have E18 : Ext w wx := Mod.trans (E3) (hS)
            refine WL.move (v := .bool (true)) rfl rfl ?_
            exact WL.nil ⟨rfl, rfl, rfl⟩
          refine WA.off (i := 26) (m' := 134217727) (y := some true) rfl rfl rfl rfl (by kernel_rfl) rfl (fun _ _ _ h => nomatch h.1) (rfl) rfl (R5) ?_
          refine WA.off (i := 27) (m' := 268435455) (y := some true) rfl rfl rfl rfl (by kernel_rfl) rfl (fun _ _ _ h => nomatch h.1) (rfl) rfl (R5) ?_
          refine WA.off (i := 28) (m' := 536870911) (y := some true) rfl rfl rfl rfl (by kernel_rfl) rfl (fun _ _ _ h => nomatch h.1) (rfl) rfl (R5) ?_
          refine WA.off (i := 29) (m' := 1073741823) (y := none) rfl rfl rfl rfl (by kernel_rfl) rfl (fun _ _ _ h => nomatch h.1) (rfl) rfl (R5) ?_
          refine WA.off (i := 30) (m' := 2147483647) (y := none) rfl rfl rfl rfl (by kernel_rfl) rfl (fun _ _ _ h => nomatch h.1) (rfl) rfl (R5) ?_
          refine WA.off (i := 31) (m' := 4294967295) (y := none) rfl rfl rfl rfl (by kernel_rfl) rfl (fun _ _ _ h => nomatch h.1) (rfl) rfl (R5) ?_
          refine WA.off (i := 32) (m' := 8589934591) (y := some true) rfl rfl rfl rfl (by kernel_rfl) rfl (fun _ _ _ h => nomatch h.1) (rfl) rfl (R5) ?_
          refine WA.take (i := 33) (m' := 17179869183) (v := .bool (true)) rfl rfl rfl rfl (by kernel_rfl) rfl (fun _ _ _ h => nomatch h.1) (fun wx hS => ?_) (R5) ?_
          · have E19 : Ext w wx := Mod.trans (E3) (hS)
            refine WL.pick (b := true) rfl rfl rfl ?_
            exact WL.nil ⟨rfl, rfl, rfl⟩
          refine WA.take (i := 34) (m' := 34359738367) (v := .bool (true)) rfl rfl rfl rfl (by kernel_rfl) rfl (fun _ _ _ h => nomatch h.1) (fun wx hS => ?_) (R5) ?_
          · have E20 : Ext w wx := Mod.trans (E3) (hS)
            refine WL.move (v := .bool (true)) rfl rfl ?_
            exact WL.nil ⟨rfl, rfl, rfl⟩
          refine WA.off (i := 35) (m' := 68719476735) (y := some true) rfl rfl rfl rfl (by kernel_rfl) rfl (fun _ _ _ h => nomatch h.1) (rfl) rfl (R5) ?_
          refine WA.off (i := 36) (m' := 137438953471) (y := some true) rfl rfl rfl rfl (by kernel_rfl) rfl (fun _ _ _ h => nomatch h.1) (rfl) rfl (R5) ?_
          refine WA.off (i := 37) (m' := 274877906943) (y := some true) rfl rfl rfl rfl (by kernel_rfl) rfl (fun _ _ _ h => nomatch h.1) (rfl) rfl (R5) ?_
          refine WA.off (i := 38) (m' := 549755813887) (y := none) rfl rfl rfl rfl (by kernel_rfl) rfl (fun _ _ _ h => nomatch h.1) (rfl) rfl (R5) ?_
          refine WA.off (i := 39) (m' := 1099511627775) (y := none) rfl rfl rfl rfl (by kernel_rfl) rfl (fun _ _ _ h => nomatch h.1) (rfl) rfl (R5) ?_
          refine WA.off (i := 40) (m' := 2199023255551) (y := none) rfl rfl rfl rfl (by kernel_rfl) rfl (fun _ _ _ h => nomatch h.1) (rfl) rfl (R5) ?_
          refine WA.off (i := 41) (m' := 4398046511103) (y := none) rfl rfl rfl rfl (by kernel_rfl) rfl (fun _ _ _ h => nomatch h.1) (rfl) rfl (R5) ?_
          refine WA.off (i := 42) (m' := 8796093022207) (y := none) rfl rfl rfl rfl (by kernel_rfl) rfl (fun _ _ _ h => nomatch h.1) (rfl) rfl (R5) ?_
          refine WA.off (i := 43) (m' := 17592186044415) (y := none) rfl rfl rfl rfl (by kernel_rfl) rfl (fun _ _ _ h => nomatch h.1) (rfl) rfl (R5) ?_
          refine WA.off (i := 44) (m' := 35184372088831) (y := none) rfl rfl rfl rfl (by kernel_rfl) rfl (fun _ _ _ h => nomatch h.1) (rfl) rfl (R5) ?_
          refine WA.off (i := 45) (m' := 70368744177663) (y := none) rfl rfl rfl rfl (by kernel_rfl) rfl (fun _ _ _ h => nomatch h.1) (rfl) rfl (R5) ?_
          refine WA.off (i := 46) (m' := 140737488355327) (y := none) rfl rfl rfl rfl (by kernel_rfl) rfl (fun _ _ _ h => nomatch h.1) (rfl) rfl (R5) ?_
          refine WA.off (i := 47) (m' := 281474976710655) (y := none) rfl rfl rfl rfl (by kernel_rfl) rfl (fun _ _ _ h => nomatch h.1) (rfl) rfl (R5) ?_
          refine WA.off (i := 48) (m' := 562949953421311) (y := some true) rfl rfl rfl rfl (by kernel_rfl) rfl (fun _ _ _ h => nomatch h.1) (rfl) rfl (R5) ?_
          refine WA.take (i := 49) (m' := 1125899906842623) (v := .bool (true)) rfl rfl rfl rfl (by kernel_rfl) rfl (fun _ _ _ h => nomatch h.1) (fun wx hS => ?_) (R5) ?_
          · have E21 : Ext w wx := Mod.trans (E3) (hS)
            refine WL.pick (b := true) rfl rfl rfl ?_
            exact WL.nil ⟨rfl, rfl, rfl⟩
          refine WA.done (by kernel_rfl) ?_
          have hcut : (true) = symBad I.words.length i (lastAt I.syms i) (I.syms[i]) := by simp only [symBad, *, Bool.true_or, Bool.or_true, Bool.false_or, Bool.or_false, Bool.true_and, Bool.and_true, Bool.false_and, Bool.and_false]
          have B22 := ((hB).ext (n4.ext)).ext (ed_7)
          have B23 := (n4.blk).ext (ed_7)
          exact ⟨rfl, h0_1, h1_1, h3_1, rfl, h43_1, rfl, rfl, rfl, rfl, rfl, rfl, rfl, rfl, rfl, rfl, congrArg Value.bool hcut, B22, B23, E6⟩
        · rcases Bool.eq_false_or_eq_true (decide ((64 : Int) < (((I.syms[i]).1.length : Nat) : Int))) with hd7_66 | hd7_66
          · refine WC.draw (fun w_ => Ext w4 w_) 50 rfl mixed ?_
            intro wd_7 ed_7
            have R24 : Ext wr wd_7 := Mod.trans (R2) (ed_7)
            have R25 : Ext w4 wd_7 := Mod.trans (Mod.refl _ _) (ed_7)
            have E26 : Ext w wd_7 := Mod.trans (E3) (ed_7)
            refine WA.take (i := 0) (m' := 1) (v := ptr b4 0) rfl rfl rfl rfl (by kernel_rfl) rfl (fun _ _ _ h => nomatch h.1) (fun wx hS => ?_) (R25) ?_
            · have E27 : Ext w wx := Mod.trans (E3) (hS)
              refine WL.fieldAddr rfl fo54_0 rfl ?_
              exact WL.nil ⟨rfl, rfl, rfl⟩
            refine WA.take (i := 1) (m' := 3) (v := St (I.syms[i]).1) rfl rfl rfl rfl (by kernel_rfl) rfl (fun _ _ _ h => nomatch h.1) (fun wx hS => ?_) (R25) ?_
            · have E28 : Ext w wx := Mod.trans (E3) (hS)
              have B29 := (n4.blk).ext (hS)
              refine WL.load1 rfl ag9 (B29.cell (j := 0) rfl) rfl ?_
              exact WL.nil ⟨rfl, rfl, rfl⟩
            refine WA.take (i := 2) (m' := 7) (v := IN ((I.syms[i]).1.length)) rfl rfl rfl rfl (by kernel_rfl) rfl (fun _ _ _ h => nomatch h.1) (fun wx hS => ?_) (R25) ?_
            · have E30 : Ext w wx := Mod.trans (E3) (hS)
              refine WL.lenSt Try.underlying9 rfl rfl ?_
              exact WL.nil ⟨rfl, rfl, rfl⟩
            refine WA.take (i := 3) (m' := 15) (v := .bool (decide ((((I.syms[i]).1.length : Nat) : Int) < (1 : Int)))) rfl rfl rfl rfl (by kernel_rfl) rfl (fun _ _ _ h => nomatch h.1) (fun wx hS => ?_) (R25) ?_
            · have E31 : Ext w wx := Mod.trans (E3) (hS)
              refine WL.bin rfl rfl rfl (BinR.lss) ?_
              exact WL.nil ⟨rfl, rfl, rfl⟩
            refine WA.take (i := 4) (m' := 31) (v := .bool (decide ((((I.syms[i]).1.length : Nat) : Int) < (1 : Int)))) rfl rfl rfl rfl (by kernel_rfl) rfl (fun _ _ _ h => nomatch h.1) (fun wx hS => ?_) (R25) ?_
            · have E32 : Ext w wx := Mod.trans (E3) (hS)
              refine WL.move (v := .bool (decide ((((I.syms[i]).1.length : Nat) : Int) < (1 : Int)))) rfl rfl ?_
              exact WL.nil ⟨rfl, rfl, rfl⟩
            refine WA.take (i := 5) (m' := 63) (v := ptr b4 0) rfl rfl rfl rfl (by kernel_rfl) rfl (fun _ _ _ h => nomatch h.1) (fun wx hS => ?_) (R25) ?_
            · have E33 : Ext w wx := Mod.trans (E3) (hS)
              refine WL.guardT (yf_bool rfl rfl hd7_60) ?_
              refine WL.fieldAddr rfl fo54_0 rfl ?_
              exact WL.nil ⟨rfl, rfl, rfl⟩
            refine WA.take (i := 6) (m' := 127) (v := St (I.syms[i]).1) rfl rfl rfl rfl (by kernel_rfl) rfl (fun _ _ _ h => nomatch h.1) (fun wx hS => ?_) (R25) ?_
            · have E34 : Ext w wx := Mod.trans (E3) (hS)
              refine WL.guardT (yf_bool rfl rfl hd7_60) ?_
              have B35 := (n4.blk).ext (hS)
              refine WL.load1 rfl ag9 (B35.cell (j := 0) rfl) rfl ?_
              exact WL.nil ⟨rfl, rfl, rfl⟩
            refine WA.take (i := 7) (m' := 255) (v := IN ((I.syms[i]).1.length)) rfl rfl rfl rfl (by kernel_rfl) rfl (fun _ _ _ h => nomatch h.1) (fun wx hS => ?_) (R25) ?_
            · have E36 : Ext w wx := Mod.trans (E3) (hS)
              refine WL.guardT (yf_bool rfl rfl hd7_60) ?_
              refine WL.lenSt Try.underlying9 rfl rfl ?_
              exact WL.nil ⟨rfl, rfl, rfl⟩
            refine WA.take (i := 8) (m' := 511) (v := .bool (decide ((64 : Int) < (((I.syms[i]).1.length : Nat) : Int)))) rfl rfl rfl rfl (by kernel_rfl) rfl (fun _ _ _ h => nomatch h.1) (fun wx hS => ?_) (R25) ?_
            · have E37 : Ext w wx := Mod.trans (E3) (hS)
              refine WL.guardT (yf_bool rfl rfl hd7_60) ?_
              refine WL.bin rfl rfl rfl (BinR.gtr) ?_
              exact WL.nil ⟨rfl, rfl, rfl⟩
            refine WA.take (i := 9) (m' := 1023) (v := .bool (decide ((64 : Int) < (((I.syms[i]).1.length : Nat) : Int)))) rfl rfl rfl rfl (by kernel_rfl) rfl (fun _ _ _ h => nomatch h.1) (fun wx hS => ?_) (R25) ?_
            · have E38 : Ext w wx := Mod.trans (E3) (hS)
              refine WL.pick (b := false) (congrArg Value.bool hd7_60) rfl rfl ?_
              exact WL.nil ⟨rfl, rfl, rfl⟩
            refine WA.take (i := 10) (m' := 2047) (v := .bool (decide ((64 : Int) < (((I.syms[i]).1.length : Nat) : Int)))) rfl rfl rfl rfl (by kernel_rfl) rfl (fun _ _ _ h => nomatch h.1) (fun wx hS => ?_) (R25) ?_
            · have E39 : Ext w wx := Mod.trans (E3) (hS)
              refine WL.move (v := .bool (decide ((64 : Int) < (((I.syms[i]).1.length : Nat) : Int)))) rfl rfl ?_
              exact WL.nil ⟨rfl, rfl, rfl⟩
            refine WA.off (i := 11) (m' := 4095) (y := some true) rfl rfl rfl rfl (by kernel_rfl) rfl (fun _ _ _ h => nomatch h.1) (yf_bool rfl rfl hd7_66) rfl (R25) ?_
            refine WA.off (i := 12) (m' := 8191) (y := some true) rfl rfl rfl rfl (by kernel_rfl) rfl (fun _ _ _ h => nomatch h.1) (yf_bool rfl rfl hd7_66) rfl (R25) ?_
            refine WA.off (i := 13) (m' := 16383) (y := some true) rfl rfl rfl rfl (by kernel_rfl) rfl (fun _ _ _ h => nomatch h.1) (yf_bool rfl rfl hd7_66) rfl (R25) ?_
            refine WA.off (i := 14) (m' := 32767) (y := some true) rfl rfl rfl rfl (by kernel_rfl) rfl (fun _ _ _ h => nomatch h.1) (yf_bool rfl rfl hd7_66) rfl (R25) ?_
            refine WA.take (i := 15) (m' := 65535) (v := .bool (true)) rfl rfl rfl rfl (by kernel_rfl) rfl (fun _ _ _ h => nomatch h.1) (fun wx hS => ?_) (R25) ?_
            · have E40 : Ext w wx := Mod.trans (E3) (hS)
              refine WL.pick (b := true) (congrArg Value.bool hd7_66) rfl rfl ?_
              exact WL.nil ⟨rfl, rfl, rfl⟩
            refine WA.take (i := 16) (m' := 131071) (v := .bool (true)) rfl rfl rfl rfl (by kernel_rfl) rfl (fun _ _ _ h => nomatch h.1) (fun wx hS => ?_) (R25) ?_
            · have E41 : Ext w wx := Mod.trans (E3) (hS)
              refine WL.move (v := .bool (true)) rfl rfl ?_
              exact WL.nil ⟨rfl, rfl, rfl⟩
            refine WA.off (i := 17) (m' := 262143) (y := some true) rfl rfl rfl rfl (by kernel_rfl) rfl (fun _ _ _ h => nomatch h.1) (rfl) rfl (R25) ?_
            refine WA.off (i := 18) (m' := 524287) (y := some true) rfl rfl rfl rfl (by kernel_rfl) rfl (fun _ _ _ h => nomatch h.1) (rfl) rfl (R25) ?_
            refine WA.off (i := 19) (m' := 1048575) (y := some true) rfl rfl rfl rfl (by kernel_rfl) rfl (fun _ _ _ h => nomatch h.1) (rfl) rfl (R25) ?_
            refine WA.off (i := 20) (m' := 2097151) (y := some true) rfl rfl rfl rfl (by kernel_rfl) rfl (fun _ _ _ h => nomatch h.1) (rfl) rfl (R25) ?_
            refine WA.off (i := 21) (m' := 4194303) (y := some true) rfl rfl rfl rfl (by kernel_rfl) rfl (fun _ _ _ h => nomatch h.1) (rfl) rfl (R25) ?_
            refine WA.off (i := 22) (m' := 8388607) (y := some true) rfl rfl rfl rfl (by kernel_rfl) rfl (fun _ _ _ h => nomatch h.1) (rfl) rfl (R25) ?_
            refine WA.off (i := 23) (m' := 16777215) (y := some true) rfl rfl rfl rfl (by kernel_rfl) rfl (fun _ _ _ h => nomatch h.1) (rfl) rfl (R25) ?_
            refine WA.take (i := 24) (m' := 33554431) (v := .bool (true)) rfl rfl rfl rfl (by kernel_rfl) rfl (fun _ _ _ h => nomatch h.1) (fun wx hS => ?_) (R25) ?_
            · have E42 : Ext w wx := Mod.trans (E3) (hS)
              refine WL.pick (b := true) rfl rfl rfl ?_
              exact WL.nil ⟨rfl, rfl, rfl⟩
            refine WA.take (i := 25) (m' := 67108863) (v := .bool (true)) rfl rfl rfl rfl (by kernel_rfl) rfl (fun _ _ _ h => nomatch h.1) (fun wx hS => ?_) (R25) ?_
            · have E43 : Ext w wx := Mod.trans (E3) (hS)
              refine WL.move (v := .bool (true)) rfl rfl ?_
              exact WL.nil ⟨rfl, rfl, rfl⟩
            refine WA.off (i := 26) (m' := 134217727) (y := some true) rfl rfl rfl rfl (by kernel_rfl) rfl (fun _ _ _ h => nomatch h.1) (rfl) rfl (R25) ?_
            refine WA.off (i := 27) (m' := 268435455) (y := some true) rfl rfl rfl rfl (by kernel_rfl) rfl (fun _ _ _ h => nomatch h.1) (rfl) rfl (R25) ?_
            refine WA.off (i := 28) (m' := 536870911) (y := some true) rfl rfl rfl rfl (by kernel_rfl) rfl (fun _ _ _ h => nomatch h.1) (rfl) rfl (R25) ?_
            refine WA.off (i := 29) (m' := 1073741823) (y := none) rfl rfl rfl rfl (by kernel_rfl) rfl (fun _ _ _ h => nomatch h.1) (rfl) rfl (R25) ?_
            refine WA.off (i := 30) (m' := 2147483647) (y := none) rfl rfl rfl rfl (by kernel_rfl) rfl (fun _ _ _ h => nomatch h.1) (rfl) rfl (R25) ?_
            refine WA.off (i := 31) (m' := 4294967295) (y := none) rfl rfl rfl rfl (by kernel_rfl) rfl (fun _ _ _ h => nomatch h.1) (rfl) rfl (R25) ?_
            refine WA.off (i := 32) (m' := 8589934591) (y := some true) rfl rfl rfl rfl (by kernel_rfl) rfl (fun _ _ _ h => nomatch h.1) (rfl) rfl (R25) ?_
            refine WA.take (i := 33) (m' := 17179869183) (v := .bool (true)) rfl rfl rfl rfl (by kernel_rfl) rfl (fun _ _ _ h => nomatch h.1) (fun wx hS => ?_) (R25) ?_
            · have E44 : Ext w wx := Mod.trans (E3) (hS)
              refine WL.pick (b := true) rfl rfl rfl ?_
              exact WL.nil ⟨rfl, rfl, rfl⟩
            refine WA.take (i := 34) (m' := 34359738367) (v := .bool (true)) rfl rfl rfl rfl (by kernel_rfl) rfl (fun _ _ _ h => nomatch h.1) (fun wx hS => ?_) (R25) ?_
            · have E45 : Ext w wx := Mod.trans (E3) (hS)
              refine WL.move (v := .bool (true)) rfl rfl ?_
              exact WL.nil ⟨rfl, rfl, rfl⟩
            refine WA.off (i := 35) (m' := 68719476735) (y := some true) rfl rfl rfl rfl (by kernel_rfl) rfl (fun _ _ _ h => nomatch h.1) (rfl) rfl (R25) ?_
            refine WA.off (i := 36) (m' := 137438953471) (y := some true) rfl rfl rfl rfl (by kernel_rfl) rfl (fun _ _ _ h => nomatch h.1) (rfl) rfl (R25) ?_
            refine WA.off (i := 37) (m' := 274877906943) (y := some true) rfl rfl rfl rfl (by kernel_rfl) rfl (fun _ _ _ h => nomatch h.1) (rfl) rfl (R25) ?_
            refine WA.off (i := 38) (m' := 549755813887) (y := none) rfl rfl rfl rfl (by kernel_rfl) rfl (fun _ _ _ h => nomatch h.1) (rfl) rfl (R25) ?_
            refine WA.off (i := 39) (m' := 1099511627775) (y := none) rfl rfl rfl rfl (by kernel_rfl) rfl (fun _ _ _ h => nomatch h.1) (rfl) rfl (R25) ?_
            refine WA.off (i := 40) (m' := 2199023255551) (y := none) rfl rfl rfl rfl (by kernel_rfl) rfl (fun _ _ _ h => nomatch h.1) (rfl) rfl (R25) ?_
            refine WA.off (i := 41) (m' := 4398046511103) (y := none) rfl rfl rfl rfl (by kernel_rfl) rfl (fun _ _ _ h => nomatch h.1) (rfl) rfl (R25) ?_
            refine WA.off (i := 42) (m' := 8796093022207) (y := none) rfl rfl rfl rfl (by kernel_rfl) rfl (fun _ _ _ h => nomatch h.1) (rfl) rfl (R25) ?_
            refine WA.off (i := 43) (m' := 17592186044415) (y := none) rfl rfl rfl rfl (by kernel_rfl) rfl (fun _ _ _ h => nomatch h.1) (rfl) rfl (R25) ?_
            refine WA.off (i := 44) (m' := 35184372088831) (y := none) rfl rfl rfl rfl (by kernel_rfl) rfl (fun _ _ _ h => nomatch h.1) (rfl) rfl (R25) ?_
            refine WA.off (i := 45) (m' := 70368744177663) (y := none) rfl rfl rfl rfl (by kernel_rfl) rfl (fun _ _ _ h => nomatch h.1) (rfl) rfl (R25) ?_
            refine WA.off (i := 46) (m' := 140737488355327) (y := none) rfl rfl rfl rfl (by kernel_rfl) rfl (fun _ _ _ h => nomatch h.1) (rfl) rfl (R25) ?_
            refine WA.off (i := 47) (m' := 281474976710655) (y := none) rfl rfl rfl rfl (by kernel_rfl) rfl (fun _ _ _ h => nomatch h.1) (rfl) rfl (R25) ?_
            refine WA.off (i := 48) (m' := 562949953421311) (y := some true) rfl rfl rfl rfl (by kernel_rfl) rfl (fun _ _ _ h => nomatch h.1) (rfl) rfl (R25) ?_
            refine WA.take (i := 49) (m' := 1125899906842623) (v := .bool (true)) rfl rfl rfl rfl (by kernel_rfl) rfl (fun _ _ _ h => nomatch h.1) (fun wx hS => ?_) (R25) ?_
            · have E46 : Ext w wx := Mod.trans (E3) (hS)
              refine WL.pick (b := true) rfl rfl rfl ?_
              exact WL.nil ⟨rfl, rfl, rfl⟩
            refine WA.done (by kernel_rfl) ?_
            have hcut : (true) = symBad I.words.length i (lastAt I.syms i) (I.syms[i]) := by simp only [symBad, *, Bool.true_or, Bool.or_true, Bool.false_or, Bool.or_false, Bool.true_and, Bool.and_true, Bool.false_and, Bool.and_false]
            have B47 := ((hB).ext (n4.ext)).ext (ed_7)
            have B48 := (n4.blk).ext (ed_7)
            exact ⟨rfl, h0_1, h1_1, h3_1, rfl, h43_1, rfl, rfl, rfl, rfl, rfl, rfl, rfl, rfl, rfl, rfl, congrArg Value.bool hcut, B47, B48, E26⟩
          · rcases Bool.eq_false_or_eq_true ((((I.syms[i]).2.tmod 4 : Int) != (0 : Int))) with hd7_72 | hd7_72
            · refine WC.draw (fun w_ => Ext w4 w_) 50 rfl mixed ?_
              intro wd_7 ed_7
              have R49 : Ext wr wd_7 := Mod.trans (R2) (ed_7)
              have R50 : Ext w4 wd_7 := Mod.trans (Mod.refl _ _) (ed_7)
              have E51 : Ext w wd_7 := Mod.trans (E3) (ed_7)
              refine WA.take (i := 0) (m' := 1) (v := ptr b4 0) rfl rfl rfl rfl (by kernel_rfl) rfl (fun _ _ _ h => nomatch h.1) (fun wx hS => ?_) (R50) ?_
              · have E52 : Ext w wx := Mod.trans (E3) (hS)
                refine WL.fieldAddr rfl fo54_0 rfl ?_
                exact WL.nil ⟨rfl, rfl, rfl⟩
              refine WA.take (i := 1) (m' := 3) (v := St (I.syms[i]).1) rfl rfl rfl rfl (by kernel_rfl) rfl (fun _ _ _ h => nomatch h.1) (fun wx hS => ?_) (R50) ?_
              · have E53 : Ext w wx := Mod.trans (E3) (hS)
                have B54 := (n4.blk).ext (hS)
                refine WL.load1 rfl ag9 (B54.cell (j := 0) rfl) rfl ?_
                exact WL.nil ⟨rfl, rfl, rfl⟩
              refine WA.take (i := 2) (m' := 7) (v := IN ((I.syms[i]).1.length)) rfl rfl rfl rfl (by kernel_rfl) rfl (fun _ _ _ h => nomatch h.1) (fun wx hS => ?_) (R50) ?_
              · have E55 : Ext w wx := Mod.trans (E3) (hS)
                refine WL.lenSt Try.underlying9 rfl rfl ?_
                exact WL.nil ⟨rfl, rfl, rfl⟩
              refine WA.take (i := 3) (m' := 15) (v := .bool (decide ((((I.syms[i]).1.length : Nat) : Int) < (1 : Int)))) rfl rfl rfl rfl (by kernel_rfl) rfl (fun _ _ _ h => nomatch h.1) (fun wx hS => ?_) (R50) ?_
              · have E56 : Ext w wx := Mod.trans (E3) (hS)
                refine WL.bin rfl rfl rfl (BinR.lss) ?_
                exact WL.nil ⟨rfl, rfl, rfl⟩
              refine WA.take (i := 4) (m' := 31) (v := .bool (decide ((((I.syms[i]).1.length : Nat) : Int) < (1 : Int)))) rfl rfl rfl rfl (by kernel_rfl) rfl (fun _ _ _ h => nomatch h.1) (fun wx hS => ?_) (R50) ?_
              · have E57 : Ext w wx := Mod.trans (E3) (hS)
                refine WL.move (v := .bool (decide ((((I.syms[i]).1.length : Nat) : Int) < (1 : Int)))) rfl rfl ?_
                exact WL.nil ⟨rfl, rfl, rfl⟩
              refine WA.take (i := 5) (m' := 63) (v := ptr b4 0) rfl rfl rfl rfl (by kernel_rfl) rfl (fun _ _ _ h => nomatch h.1) (fun wx hS => ?_) (R50) ?_
              · have E58 : Ext w wx := Mod.trans (E3) (hS)
                refine WL.guardT (yf_bool rfl rfl hd7_60) ?_
                refine WL.fieldAddr rfl fo54_0 rfl ?_
                exact WL.nil ⟨rfl, rfl, rfl⟩
              refine WA.take (i := 6) (m' := 127) (v := St (I.syms[i]).1) rfl rfl rfl rfl (by kernel_rfl) rfl (fun _ _ _ h => nomatch h.1) (fun wx hS => ?_) (R50) ?_
              · have E59 : Ext w wx := Mod.trans (E3) (hS)
                refine WL.guardT (yf_bool rfl rfl hd7_60) ?_
                have B60 := (n4.blk).ext (hS)
                refine WL.load1 rfl ag9 (B60.cell (j := 0) rfl) rfl ?_
                exact WL.nil ⟨rfl, rfl, rfl⟩
              refine WA.take (i := 7) (m' := 255) (v := IN ((I.syms[i]).1.length)) rfl rfl rfl rfl (by kernel_rfl) rfl (fun _ _ _ h => nomatch h.1) (fun wx hS => ?_) (R50) ?_
              · have E61 : Ext w wx := Mod.trans (E3) (hS)
                refine WL.guardT (yf_bool rfl rfl hd7_60) ?_
                refine WL.lenSt Try.underlying9 rfl rfl ?_
                exact WL.nil ⟨rfl, rfl, rfl⟩
              refine WA.take (i := 8) (m' := 511) (v := .bool (decide ((64 : Int) < (((I.syms[i]).1.length : Nat) : Int)))) rfl rfl rfl rfl (by kernel_rfl) rfl (fun _ _ _ h => nomatch h.1) (fun wx hS => ?_) (R50) ?_
              · have E62 : Ext w wx := Mod.trans (E3) (hS)
                refine WL.guardT (yf_bool rfl rfl hd7_60) ?_
                refine WL.bin rfl rfl rfl (BinR.gtr) ?_
                exact WL.nil ⟨rfl, rfl, rfl⟩
              refine WA.take (i := 9) (m' := 1023) (v := .bool (decide ((64 : Int) < (((I.syms[i]).1.length : Nat) : Int)))) rfl rfl rfl rfl (by kernel_rfl) rfl (fun _ _ _ h => nomatch h.1) (fun wx hS => ?_) (R50) ?_
              · have E63 : Ext w wx := Mod.trans (E3) (hS)
                refine WL.pick (b := false) (congrArg Value.bool hd7_60) rfl rfl ?_
                exact WL.nil ⟨rfl, rfl, rfl⟩
              refine WA.take (i := 10) (m' := 2047) (v := .bool (decide ((64 : Int) < (((I.syms[i]).1.length : Nat) : Int)))) rfl rfl rfl rfl (by kernel_rfl) rfl (fun _ _ _ h => nomatch h.1) (fun wx hS => ?_) (R50) ?_
              · have E64 : Ext w wx := Mod.trans (E3) (hS)
                refine WL.move (v := .bool (decide ((64 : Int) < (((I.syms[i]).1.length : Nat) : Int)))) rfl rfl ?_
                exact WL.nil ⟨rfl, rfl, rfl⟩
              refine WA.take (i := 11) (m' := 4095) (v := ptr b4 1) rfl rfl rfl rfl (by kernel_rfl) rfl (fun _ _ _ h => nomatch h.1) (fun wx hS => ?_) (R50) ?_
              · have E65 : Ext w wx := Mod.trans (E3) (hS)
                refine WL.guardT (yf_bool rfl rfl hd7_66) ?_
                refine WL.fieldAddr rfl fo54_1 rfl ?_
                exact WL.nil ⟨rfl, rfl, rfl⟩
              refine WA.take (i := 12) (m' := 8191) (v := .int .i64 ((I.syms[i]).2)) rfl rfl rfl rfl (by kernel_rfl) rfl (fun _ _ _ h => nomatch h.1) (fun wx hS => ?_) (R50) ?_
              · have E66 : Ext w wx := Mod.trans (E3) (hS)
                refine WL.guardT (yf_bool rfl rfl hd7_66) ?_
                have B67 := (n4.blk).ext (hS)
                refine WL.load1 rfl ag3 (B67.cell (j := 1) rfl) rfl ?_
                exact WL.nil ⟨rfl, rfl, rfl⟩
              refine WA.take (i := 13) (m' := 16383) (v := .int .i64 ((I.syms[i]).2.tmod 4)) rfl rfl rfl rfl (by kernel_rfl) rfl (fun _ _ _ h => nomatch h.1) (fun wx hS => ?_) (R50) ?_
              · have E68 : Ext w wx := Mod.trans (E3) (hS)
                refine WL.guardT (yf_bool rfl rfl hd7_66) ?_
                refine WL.bin rfl rfl rfl (BinR.remT (by decide)) ?_
                exact WL.nil ⟨rfl, rfl, rfl⟩
              refine WA.take (i := 14) (m' := 32767) (v := .bool ((((I.syms[i]).2.tmod 4 : Int) != (0 : Int)))) rfl rfl rfl rfl (by kernel_rfl) rfl (fun _ _ _ h => nomatch h.1) (fun wx hS => ?_) (R50) ?_
              · have E69 : Ext w wx := Mod.trans (E3) (hS)
                refine WL.guardT (yf_bool rfl rfl hd7_66) ?_
                refine WL.bin rfl rfl rfl (BinR.neq) ?_
                exact WL.nil ⟨rfl, rfl, rfl⟩
              refine WA.take (i := 15) (m' := 65535) (v := .bool ((((I.syms[i]).2.tmod 4 : Int) != (0 : Int)))) rfl rfl rfl rfl (by kernel_rfl) rfl (fun _ _ _ h => nomatch h.1) (fun wx hS => ?_) (R50) ?_
              · have E70 : Ext w wx := Mod.trans (E3) (hS)
                refine WL.pick (b := false) (congrArg Value.bool hd7_66) rfl rfl ?_
                exact WL.nil ⟨rfl, rfl, rfl⟩
              refine WA.take (i := 16) (m' := 131071) (v := .bool ((((I.syms[i]).2.tmod 4 : Int) != (0 : Int)))) rfl rfl rfl rfl (by kernel_rfl) rfl (fun _ _ _ h => nomatch h.1) (fun wx hS => ?_) (R50) ?_
              · have E71 : Ext w wx := Mod.trans (E3) (hS)
                refine WL.move (v := .bool ((((I.syms[i]).2.tmod 4 : Int) != (0 : Int)))) rfl rfl ?_
                exact WL.nil ⟨rfl, rfl, rfl⟩
              refine WA.off (i := 17) (m' := 262143) (y := some true) rfl rfl rfl rfl (by kernel_rfl) rfl (fun _ _ _ h => nomatch h.1) (yf_bool rfl rfl hd7_72) rfl (R50) ?_
              refine WA.off (i := 18) (m' := 524287) (y := some true) rfl rfl rfl rfl (by kernel_rfl) rfl (fun _ _ _ h => nomatch h.1) (yf_bool rfl rfl hd7_72) rfl (R50) ?_
              refine WA.off (i := 19) (m' := 1048575) (y := some true) rfl rfl rfl rfl (by kernel_rfl) rfl (fun _ _ _ h => nomatch h.1) (yf_bool rfl rfl hd7_72) rfl (R50) ?_
              refine WA.off (i := 20) (m' := 2097151) (y := some true) rfl rfl rfl rfl (by kernel_rfl) rfl (fun _ _ _ h => nomatch h.1) (yf_bool rfl rfl hd7_72) rfl (R50) ?_
              refine WA.off (i := 21) (m' := 4194303) (y := some true) rfl rfl rfl rfl (by kernel_rfl) rfl (fun _ _ _ h => nomatch h.1) (yf_bool rfl rfl hd7_72) rfl (R50) ?_
              refine WA.off (i := 22) (m' := 8388607) (y := some true) rfl rfl rfl rfl (by kernel_rfl) rfl (fun _ _ _ h => nomatch h.1) (yf_bool rfl rfl hd7_72) rfl (R50) ?_
              refine WA.off (i := 23) (m' := 16777215) (y := some true) rfl rfl rfl rfl (by kernel_rfl) rfl (fun _ _ _ h => nomatch h.1) (yf_bool rfl rfl hd7_72) rfl (R50) ?_
              refine WA.take (i := 24) (m' := 33554431) (v := .bool (true)) rfl rfl rfl rfl (by kernel_rfl) rfl (fun _ _ _ h => nomatch h.1) (fun wx hS => ?_) (R50) ?_
              · have E72 : Ext w wx := Mod.trans (E3) (hS)
                refine WL.pick (b := true) (congrArg Value.bool hd7_72) rfl rfl ?_
                exact WL.nil ⟨rfl, rfl, rfl⟩
              refine WA.take (i := 25) (m' := 67108863) (v := .bool (true)) rfl rfl rfl rfl (by kernel_rfl) rfl (fun _ _ _ h => nomatch h.1) (fun wx hS => ?_) (R50) ?_
              · have E73 : Ext w wx := Mod.trans (E3) (hS)
                refine WL.move (v := .bool (true)) rfl rfl ?_
                exact WL.nil ⟨rfl, rfl, rfl⟩
              refine WA.off (i := 26) (m' := 134217727) (y := some true) rfl rfl rfl rfl (by kernel_rfl) rfl (fun _ _ _ h => nomatch h.1) (rfl) rfl (R50) ?_
              refine WA.off (i := 27) (m' := 268435455) (y := some true) rfl rfl rfl rfl (by kernel_rfl) rfl (fun _ _ _ h => nomatch h.1) (rfl) rfl (R50) ?_
              refine WA.off (i := 28) (m' := 536870911) (y := some true) rfl rfl rfl rfl (by kernel_rfl) rfl (fun _ _ _ h => nomatch h.1) (rfl) rfl (R50) ?_
              refine WA.off (i := 29) (m' := 1073741823) (y := none) rfl rfl rfl rfl (by kernel_rfl) rfl (fun _ _ _ h => nomatch h.1) (rfl) rfl (R50) ?_
              refine WA.off (i := 30) (m' := 2147483647) (y := none) rfl rfl rfl rfl (by kernel_rfl) rfl (fun _ _ _ h => nomatch h.1) (rfl) rfl (R50) ?_
              refine WA.off (i := 31) (m' := 4294967295) (y := none) rfl rfl rfl rfl (by kernel_rfl) rfl (fun _ _ _ h => nomatch h.1) (rfl) rfl (R50) ?_
              refine WA.off (i := 32) (m' := 8589934591) (y := some true) rfl rfl rfl rfl (by kernel_rfl) rfl (fun _ _ _ h => nomatch h.1) (rfl) rfl (R50) ?_
              refine WA.take (i := 33) (m' := 17179869183) (v := .bool (true)) rfl rfl rfl rfl (by kernel_rfl) rfl (fun _ _ _ h => nomatch h.1) (fun wx hS => ?_) (R50) ?_
              · have E74 : Ext w wx := Mod.trans (E3) (hS)
                refine WL.pick (b := true) rfl rfl rfl ?_
                exact WL.nil ⟨rfl, rfl, rfl⟩
              refine WA.take (i := 34) (m' := 34359738367) (v := .bool (true)) rfl rfl rfl rfl (by kernel_rfl) rfl (fun _ _ _ h => nomatch h.1) (fun wx hS => ?_) (R50) ?_
              · have E75 : Ext w wx := Mod.trans (E3) (hS)
                refine WL.move (v := .bool (true)) rfl rfl ?_
                exact WL.nil ⟨rfl, rfl, rfl⟩
              refine WA.off (i := 35) (m' := 68719476735) (y := some true) rfl rfl rfl rfl (by kernel_rfl) rfl (fun _ _ _ h => nomatch h.1) (rfl) rfl (R50) ?_
              refine WA.off (i := 36) (m' := 137438953471) (y := some true) rfl rfl rfl rfl (by kernel_rfl) rfl (fun _ _ _ h => nomatch h.1) (rfl) rfl (R50) ?_
              refine WA.off (i := 37) (m' := 274877906943) (y := some true) rfl rfl rfl rfl (by kernel_rfl) rfl (fun _ _ _ h => nomatch h.1) (rfl) rfl (R50) ?_
              refine WA.off (i := 38) (m' := 549755813887) (y := none) rfl rfl rfl rfl (by kernel_rfl) rfl (fun _ _ _ h => nomatch h.1) (rfl) rfl (R50) ?_
              refine WA.off (i := 39) (m' := 1099511627775) (y := none) rfl rfl rfl rfl (by kernel_rfl) rfl (fun _ _ _ h => nomatch h.1) (rfl) rfl (R50) ?_
              refine WA.off (i := 40) (m' := 2199023255551) (y := none) rfl rfl rfl rfl (by kernel_rfl) rfl (fun _ _ _ h => nomatch h.1) (rfl) rfl (R50) ?_
              refine WA.off (i := 41) (m' := 4398046511103) (y := none) rfl rfl rfl rfl (by kernel_rfl) rfl (fun _ _ _ h => nomatch h.1) (rfl) rfl (R50) ?_
              refine WA.off (i := 42) (m' := 8796093022207) (y := none) rfl rfl rfl rfl (by kernel_rfl) rfl (fun _ _ _ h => nomatch h.1) (rfl) rfl (R50) ?_
              refine WA.off (i := 43) (m' := 17592186044415) (y := none) rfl rfl rfl rfl (by kernel_rfl) rfl (fun _ _ _ h => nomatch h.1) (rfl) rfl (R50) ?_
              refine WA.off (i := 44) (m' := 35184372088831) (y := none) rfl rfl rfl rfl (by kernel_rfl) rfl (fun _ _ _ h => nomatch h.1) (rfl) rfl (R50) ?_
              refine WA.off (i := 45) (m' := 70368744177663) (y := none) rfl rfl rfl rfl (by kernel_rfl) rfl (fun _ _ _ h => nomatch h.1) (rfl) rfl (R50) ?_
              refine WA.off (i := 46) (m' := 140737488355327) (y := none) rfl rfl rfl rfl (by kernel_rfl) rfl (fun _ _ _ h => nomatch h.1) (rfl) rfl (R50) ?_
              refine WA.off (i := 47) (m' := 281474976710655) (y := none) rfl rfl rfl rfl (by kernel_rfl) rfl (fun _ _ _ h => nomatch h.1) (rfl) rfl (R50) ?_
              refine WA.off (i := 48) (m' := 562949953421311) (y := some true) rfl rfl rfl rfl (by kernel_rfl) rfl (fun _ _ _ h => nomatch h.1) (rfl) rfl (R50) ?_
              refine WA.take (i := 49) (m' := 1125899906842623) (v := .bool (true)) rfl rfl rfl rfl (by kernel_rfl) rfl (fun _ _ _ h => nomatch h.1) (fun wx hS => ?_) (R50) ?_
              · have E76 : Ext w wx := Mod.trans (E3) (hS)
                refine WL.pick (b := true) rfl rfl rfl ?_
                exact WL.nil ⟨rfl, rfl, rfl⟩
              refine WA.done (by kernel_rfl) ?_
              have hcut : (true) = symBad I.words.length i (lastAt I.syms i) (I.syms[i]) := by simp only [symBad, *, Bool.true_or, Bool.or_true, Bool.false_or, Bool.or_false, Bool.true_and, Bool.and_true, Bool.false_and, Bool.and_false]
              have B77 := ((hB).ext (n4.ext)).ext (ed_7)
              have B78 := (n4.blk).ext (ed_7)
              exact ⟨rfl, h0_1, h1_1, h3_1, rfl, h43_1, rfl, rfl, rfl, rfl, rfl, rfl, rfl, rfl, rfl, rfl, congrArg Value.bool hcut, B77, B78, E51⟩
            · rcases Bool.eq_false_or_eq_true (decide ((((4 * I.words.length) : Nat) : Int) ≤ ((I.syms[i]).2 : Int))) with hd7_81 | hd7_81
              · refine WC.draw (fun w_ => Ext w4 w_) 50 rfl mixed ?_
                intro wd_7 ed_7
                have R79 : Ext wr wd_7 := Mod.trans (R2) (ed_7)
                have R80 : Ext w4 wd_7 := Mod.trans (Mod.refl _ _) (ed_7)
                have E81 : Ext w wd_7 := Mod.trans (E3) (ed_7)
                refine WA.take (i := 0) (m' := 1) (v := ptr b4 0) rfl rfl rfl rfl (by kernel_rfl) rfl (fun _ _ _ h => nomatch h.1) (fun wx hS => ?_) (R80) ?_
                · have E82 : Ext w wx := Mod.trans (E3) (hS)
                  refine WL.fieldAddr rfl fo54_0 rfl ?_
                  exact WL.nil ⟨rfl, rfl, rfl⟩
                refine WA.take (i := 1) (m' := 3) (v := St (I.syms[i]).1) rfl rfl rfl rfl (by kernel_rfl) rfl (fun _ _ _ h => nomatch h.1) (fun wx hS => ?_) (R80) ?_
                · have E83 : Ext w wx := Mod.trans (E3) (hS)
                  have B84 := (n4.blk).ext (hS)
                  refine WL.load1 rfl ag9 (B84.cell (j := 0) rfl) rfl ?_
                  exact WL.nil ⟨rfl, rfl, rfl⟩
                refine WA.take (i := 2) (m' := 7) (v := IN ((I.syms[i]).1.length)) rfl rfl rfl rfl (by kernel_rfl) rfl (fun _ _ _ h => nomatch h.1) (fun wx hS => ?_) (R80) ?_
                · have E85 : Ext w wx := Mod.trans (E3) (hS)
                  refine WL.lenSt Try.underlying9 rfl rfl ?_
                  exact WL.nil ⟨rfl, rfl, rfl⟩
                refine WA.take (i := 3) (m' := 15) (v := .bool (decide ((((I.syms[i]).1.length : Nat) : Int) < (1 : Int)))) rfl rfl rfl rfl (by kernel_rfl) rfl (fun _ _ _ h => nomatch h.1) (fun wx hS => ?_) (R80) ?_
                · have E86 : Ext w wx := Mod.trans (E3) (hS)
                  refine WL.bin rfl rfl rfl (BinR.lss) ?_
                  exact WL.nil ⟨rfl, rfl, rfl⟩
                refine WA.take (i := 4) (m' := 31) (v := .bool (decide ((((I.syms[i]).1.length : Nat) : Int) < (1 : Int)))) rfl rfl rfl rfl (by kernel_rfl) rfl (fun _ _ _ h => nomatch h.1) (fun wx hS => ?_) (R80) ?_
                · have E87 : Ext w wx := Mod.trans (E3) (hS)
                  refine WL.move (v := .bool (decide ((((I.syms[i]).1.length : Nat) : Int) < (1 : Int)))) rfl rfl ?_
                  exact WL.nil ⟨rfl, rfl, rfl⟩
                refine WA.take (i := 5) (m' := 63) (v := ptr b4 0) rfl rfl rfl rfl (by kernel_rfl) rfl (fun _ _ _ h => nomatch h.1) (fun wx hS => ?_) (R80) ?_
                · have E88 : Ext w wx := Mod.trans (E3) (hS)
                  refine WL.guardT (yf_bool rfl rfl hd7_60) ?_
                  refine WL.fieldAddr rfl fo54_0 rfl ?_
                  exact WL.nil ⟨rfl, rfl, rfl⟩
                refine WA.take (i := 6) (m' := 127) (v := St (I.syms[i]).1) rfl rfl rfl rfl (by kernel_rfl) rfl (fun _ _ _ h => nomatch h.1) (fun wx hS => ?_) (R80) ?_
                · have E89 : Ext w wx := Mod.trans (E3) (hS)
                  refine WL.guardT (yf_bool rfl rfl hd7_60) ?_
                  have B90 := (n4.blk).ext (hS)
                  refine WL.load1 rfl ag9 (B90.cell (j := 0) rfl) rfl ?_
                  exact WL.nil ⟨rfl, rfl, rfl⟩
                refine WA.take (i := 7) (m' := 255) (v := IN ((I.syms[i]).1.length)) rfl rfl rfl rfl (by kernel_rfl) rfl (fun _ _ _ h => nomatch h.1) (fun wx hS => ?_) (R80) ?_
                · have E91 : Ext w wx := Mod.trans (E3) (hS)
                  refine WL.guardT (yf_bool rfl rfl hd7_60) ?_
                  refine WL.lenSt Try.underlying9 rfl rfl ?_
                  exact WL.nil ⟨rfl, rfl, rfl⟩
                refine WA.take (i := 8) (m' := 511) (v := .bool (decide ((64 : Int) < (((I.syms[i]).1.length : Nat) : Int)))) rfl rfl rfl rfl (by kernel_rfl) rfl (fun _ _ _ h => nomatch h.1) (fun wx hS => ?_) (R80) ?_
                · have E92 : Ext w wx := Mod.trans (E3) (hS)
                  refine WL.guardT (yf_bool rfl rfl hd7_60) ?_
                  refine WL.bin rfl rfl rfl (BinR.gtr) ?_
                  exact WL.nil ⟨rfl, rfl, rfl⟩
                refine WA.take (i := 9) (m' := 1023) (v := .bool (decide ((64 : Int) < (((I.syms[i]).1.length : Nat) : Int)))) rfl rfl rfl rfl (by kernel_rfl) rfl (fun _ _ _ h => nomatch h.1) (fun wx hS => ?_) (R80) ?_
                · have E93 : Ext w wx := Mod.trans (E3) (hS)
                  refine WL.pick (b := false) (congrArg Value.bool hd7_60) rfl rfl ?_
                  exact WL.nil ⟨rfl, rfl, rfl⟩
                refine WA.take (i := 10) (m' := 2047) (v := .bool (decide ((64 : Int) < (((I.syms[i]).1.length : Nat) : Int)))) rfl rfl rfl rfl (by kernel_rfl) rfl (fun _ _ _ h => nomatch h.1) (fun wx hS => ?_) (R80) ?_
                · have E94 : Ext w wx := Mod.trans (E3) (hS)
                  refine WL.move (v := .bool (decide ((64 : Int) < (((I.syms[i]).1.length : Nat) : Int)))) rfl rfl ?_
                  exact WL.nil ⟨rfl, rfl, rfl⟩
                refine WA.take (i := 11) (m' := 4095) (v := ptr b4 1) rfl rfl rfl rfl (by kernel_rfl) rfl (fun _ _ _ h => nomatch h.1) (fun wx hS => ?_) (R80) ?_
                · have E95 : Ext w wx := Mod.trans (E3) (hS)
                  refine WL.guardT (yf_bool rfl rfl hd7_66) ?_
                  refine WL.fieldAddr rfl fo54_1 rfl ?_
                  exact WL.nil ⟨rfl, rfl, rfl⟩
                refine WA.take (i := 12) (m' := 8191) (v := .int .i64 ((I.syms[i]).2)) rfl rfl rfl rfl (by kernel_rfl) rfl (fun _ _ _ h => nomatch h.1) (fun wx hS => ?_) (R80) ?_
                · have E96 : Ext w wx := Mod.trans (E3) (hS)
                  refine WL.guardT (yf_bool rfl rfl hd7_66) ?_
                  have B97 := (n4.blk).ext (hS)
                  refine WL.load1 rfl ag3 (B97.cell (j := 1) rfl) rfl ?_
                  exact WL.nil ⟨rfl, rfl, rfl⟩
                refine WA.take (i := 13) (m' := 16383) (v := .int .i64 ((I.syms[i]).2.tmod 4)) rfl rfl rfl rfl (by kernel_rfl) rfl (fun _ _ _ h => nomatch h.1) (fun wx hS => ?_) (R80) ?_
                · have E98 : Ext w wx := Mod.trans (E3) (hS)
                  refine WL.guardT (yf_bool rfl rfl hd7_66) ?_
                  refine WL.bin rfl rfl rfl (BinR.remT (by decide)) ?_
                  exact WL.nil ⟨rfl, rfl, rfl⟩
                refine WA.take (i := 14) (m' := 32767) (v := .bool ((((I.syms[i]).2.tmod 4 : Int) != (0 : Int)))) rfl rfl rfl rfl (by kernel_rfl) rfl (fun _ _ _ h => nomatch h.1) (fun wx hS => ?_) (R80) ?_
                · have E99 : Ext w wx := Mod.trans (E3) (hS)
                  refine WL.guardT (yf_bool rfl rfl hd7_66) ?_
                  refine WL.bin rfl rfl rfl (BinR.neq) ?_
                  exact WL.nil ⟨rfl, rfl, rfl⟩
                refine WA.take (i := 15) (m' := 65535) (v := .bool ((((I.syms[i]).2.tmod 4 : Int) != (0 : Int)))) rfl rfl rfl rfl (by kernel_rfl) rfl (fun _ _ _ h => nomatch h.1) (fun wx hS => ?_) (R80) ?_
                · have E100 : Ext w wx := Mod.trans (E3) (hS)
                  refine WL.pick (b := false) (congrArg Value.bool hd7_66) rfl rfl ?_
                  exact WL.nil ⟨rfl, rfl, rfl⟩
                refine WA.take (i := 16) (m' := 131071) (v := .bool ((((I.syms[i]).2.tmod 4 : Int) != (0 : Int)))) rfl rfl rfl rfl (by kernel_rfl) rfl (fun _ _ _ h => nomatch h.1) (fun wx hS => ?_) (R80) ?_
                · have E101 : Ext w wx := Mod.trans (E3) (hS)
                  refine WL.move (v := .bool ((((I.syms[i]).2.tmod 4 : Int) != (0 : Int)))) rfl rfl ?_
                  exact WL.nil ⟨rfl, rfl, rfl⟩
                refine WA.take (i := 17) (m' := 262143) (v := ptr b4 1) rfl rfl rfl rfl (by kernel_rfl) rfl (fun _ _ _ h => nomatch h.1) (fun wx hS => ?_) (R80) ?_
                · have E102 : Ext w wx := Mod.trans (E3) (hS)
                  refine WL.guardT (yf_bool rfl rfl hd7_72) ?_
                  refine WL.fieldAddr rfl fo54_1 rfl ?_
                  exact WL.nil ⟨rfl, rfl, rfl⟩
                refine WA.take (i := 18) (m' := 524287) (v := .int .i64 ((I.syms[i]).2)) rfl rfl rfl rfl (by kernel_rfl) rfl (fun _ _ _ h => nomatch h.1) (fun wx hS => ?_) (R80) ?_
                · have E103 : Ext w wx := Mod.trans (E3) (hS)
                  refine WL.guardT (yf_bool rfl rfl hd7_72) ?_
                  have B104 := (n4.blk).ext (hS)
                  refine WL.load1 rfl ag3 (B104.cell (j := 1) rfl) rfl ?_
                  exact WL.nil ⟨rfl, rfl, rfl⟩
                refine WA.take (i := 19) (m' := 1048575) (v := ptr b1 2) rfl rfl rfl rfl (by kernel_rfl) rfl (fun _ _ _ h => nomatch h.1) (fun wx hS => ?_) (R80) ?_
                · have E105 : Ext w wx := Mod.trans (E3) (hS)
                  refine WL.guardT (yf_bool rfl rfl hd7_72) ?_
                  refine WL.fieldAddr h1_1 fo33_2 rfl ?_
                  exact WL.nil ⟨rfl, rfl, rfl⟩
                refine WA.take (i := 20) (m' := 2097151) (v := wv) rfl rfl rfl rfl (by kernel_rfl) rfl (fun _ _ _ h => nomatch h.1) (fun wx hS => ?_) (R80) ?_
                · have E106 : Ext w wx := Mod.trans (E3) (hS)
                  refine WL.guardT (yf_bool rfl rfl hd7_72) ?_
                  have B107 := ((hB).ext (n4.ext)).ext (hS)
                  refine WL.load1 rfl ag23 (B107.cell (j := 2) rfl) rfl ?_
                  exact WL.nil ⟨rfl, rfl, rfl⟩
                refine WA.take (i := 21) (m' := 4194303) (v := IN (I.words.length)) rfl rfl rfl rfl (by kernel_rfl) rfl (fun _ _ _ h => nomatch h.1) (fun wx hS => ?_) (R80) ?_
                · have E108 : Ext w wx := Mod.trans (E3) (hS)
                  refine WL.guardT (yf_bool rfl rfl hd7_72) ?_
                  refine WL.lenSl (sz := 1) (m := I.words.length) (xs := wordCells I.words) el23 rfl ((hR.w).ext' (E108)) rfl ?_
                  exact WL.nil ⟨rfl, rfl, rfl⟩
                refine WA.take (i := 22) (m' := 8388607) (v := IN ((4 * I.words.length))) rfl rfl rfl rfl (by kernel_rfl) rfl (fun _ _ _ h => nomatch h.1) (fun wx hS => ?_) (R80) ?_
                · have E109 : Ext w wx := Mod.trans (E3) (hS)
                  refine WL.guardT (yf_bool rfl rfl hd7_72) ?_
                  refine WL.bin rfl rfl rfl (BinR.mulN (a := 4) (b := I.words.length) (by omega)) ?_
                  exact WL.nil ⟨rfl, rfl, rfl⟩
                refine WA.take (i := 23) (m' := 16777215) (v := .bool (decide ((((4 * I.words.length) : Nat) : Int) ≤ ((I.syms[i]).2 : Int)))) rfl rfl rfl rfl (by kernel_rfl) rfl (fun _ _ _ h => nomatch h.1) (fun wx hS => ?_) (R80) ?_
                · have E110 : Ext w wx := Mod.trans (E3) (hS)
                  refine WL.guardT (yf_bool rfl rfl hd7_72) ?_
                  refine WL.bin rfl rfl rfl (BinR.geq) ?_
                  exact WL.nil ⟨rfl, rfl, rfl⟩
                refine WA.take (i := 24) (m' := 33554431) (v := .bool (decide ((((4 * I.words.length) : Nat) : Int) ≤ ((I.syms[i]).2 : Int)))) rfl rfl rfl rfl (by kernel_rfl) rfl (fun _ _ _ h => nomatch h.1) (fun wx hS => ?_) (R80) ?_
                · have E111 : Ext w wx := Mod.trans (E3) (hS)
                  refine WL.pick (b := false) (congrArg Value.bool hd7_72) rfl rfl ?_
                  exact WL.nil ⟨rfl, rfl, rfl⟩
                refine WA.take (i := 25) (m' := 67108863) (v := .bool (decide ((((4 * I.words.length) : Nat) : Int) ≤ ((I.syms[i]).2 : Int)))) rfl rfl rfl rfl (by kernel_rfl) rfl (fun _ _ _ h => nomatch h.1) (fun wx hS => ?_) (R80) ?_
                · have E112 : Ext w wx := Mod.trans (E3) (hS)
                  refine WL.move (v := .bool (decide ((((4 * I.words.length) : Nat) : Int) ≤ ((I.syms[i]).2 : Int)))) rfl rfl ?_
                  exact WL.nil ⟨rfl, rfl, rfl⟩
                refine WA.off (i := 26) (m' := 134217727) (y := some true) rfl rfl rfl rfl (by kernel_rfl) rfl (fun _ _ _ h => nomatch h.1) (yf_bool rfl rfl hd7_81) rfl (R80) ?_
                refine WA.off (i := 27) (m' := 268435455) (y := some true) rfl rfl rfl rfl (by kernel_rfl) rfl (fun _ _ _ h => nomatch h.1) (yf_bool rfl rfl hd7_81) rfl (R80) ?_
                refine WA.off (i := 28) (m' := 536870911) (y := some true) rfl rfl rfl rfl (by kernel_rfl) rfl (fun _ _ _ h => nomatch h.1) (yf_bool rfl rfl hd7_81) rfl (R80) ?_
                refine WA.off (i := 29) (m' := 1073741823) (y := none) rfl rfl rfl rfl (by kernel_rfl) rfl (fun _ _ _ h => nomatch h.1) (rfl) rfl (R80) ?_
                refine WA.off (i := 30) (m' := 2147483647) (y := none) rfl rfl rfl rfl (by kernel_rfl) rfl (fun _ _ _ h => nomatch h.1) (rfl) rfl (R80) ?_
                refine WA.off (i := 31) (m' := 4294967295) (y := none) rfl rfl rfl rfl (by kernel_rfl) rfl (fun _ _ _ h => nomatch h.1) (rfl) rfl (R80) ?_
                refine WA.off (i := 32) (m' := 8589934591) (y := some true) rfl rfl rfl rfl (by kernel_rfl) rfl (fun _ _ _ h => nomatch h.1) (yf_bool rfl rfl hd7_81) rfl (R80) ?_
                refine WA.take (i := 33) (m' := 17179869183) (v := .bool (true)) rfl rfl rfl rfl (by kernel_rfl) rfl (fun _ _ _ h => nomatch h.1) (fun wx hS => ?_) (R80) ?_
                · have E113 : Ext w wx := Mod.trans (E3) (hS)
                  refine WL.pick (b := true) (congrArg Value.bool hd7_81) rfl rfl ?_
                  exact WL.nil ⟨rfl, rfl, rfl⟩
                refine WA.take (i := 34) (m' := 34359738367) (v := .bool (true)) rfl rfl rfl rfl (by kernel_rfl) rfl (fun _ _ _ h => nomatch h.1) (fun wx hS => ?_) (R80) ?_
                · have E114 : Ext w wx := Mod.trans (E3) (hS)
                  refine WL.move (v := .bool (true)) rfl rfl ?_
                  exact WL.nil ⟨rfl, rfl, rfl⟩
                refine WA.off (i := 35) (m' := 68719476735) (y := some true) rfl rfl rfl rfl (by kernel_rfl) rfl (fun _ _ _ h => nomatch h.1) (rfl) rfl (R80) ?_
                refine WA.off (i := 36) (m' := 137438953471) (y := some true) rfl rfl rfl rfl (by kernel_rfl) rfl (fun _ _ _ h => nomatch h.1) (rfl) rfl (R80) ?_
                refine WA.off (i := 37) (m' := 274877906943) (y := some true) rfl rfl rfl rfl (by kernel_rfl) rfl (fun _ _ _ h => nomatch h.1) (rfl) rfl (R80) ?_
                refine WA.off (i := 38) (m' := 549755813887) (y := none) rfl rfl rfl rfl (by kernel_rfl) rfl (fun _ _ _ h => nomatch h.1) (rfl) rfl (R80) ?_
                refine WA.off (i := 39) (m' := 1099511627775) (y := none) rfl rfl rfl rfl (by kernel_rfl) rfl (fun _ _ _ h => nomatch h.1) (rfl) rfl (R80) ?_
                refine WA.off (i := 40) (m' := 2199023255551) (y := none) rfl rfl rfl rfl (by kernel_rfl) rfl (fun _ _ _ h => nomatch h.1) (rfl) rfl (R80) ?_
                refine WA.off (i := 41) (m' := 4398046511103) (y := none) rfl rfl rfl rfl (by kernel_rfl) rfl (fun _ _ _ h => nomatch h.1) (rfl) rfl (R80) ?_
                refine WA.off (i := 42) (m' := 8796093022207) (y := none) rfl rfl rfl rfl (by kernel_rfl) rfl (fun _ _ _ h => nomatch h.1) (rfl) rfl (R80) ?_
                refine WA.off (i := 43) (m' := 17592186044415) (y := none) rfl rfl rfl rfl (by kernel_rfl) rfl (fun _ _ _ h => nomatch h.1) (rfl) rfl (R80) ?_
                refine WA.off (i := 44) (m' := 35184372088831) (y := none) rfl rfl rfl rfl (by kernel_rfl) rfl (fun _ _ _ h => nomatch h.1) (rfl) rfl (R80) ?_
                refine WA.off (i := 45) (m' := 70368744177663) (y := none) rfl rfl rfl rfl (by kernel_rfl) rfl (fun _ _ _ h => nomatch h.1) (rfl) rfl (R80) ?_
                refine WA.off (i := 46) (m' := 140737488355327) (y := none) rfl rfl rfl rfl (by kernel_rfl) rfl (fun _ _ _ h => nomatch h.1) (rfl) rfl (R80) ?_
                refine WA.off (i := 47) (m' := 281474976710655) (y := none) rfl rfl rfl rfl (by kernel_rfl) rfl (fun _ _ _ h => nomatch h.1) (rfl) rfl (R80) ?_
                refine WA.off (i := 48) (m' := 562949953421311) (y := some true) rfl rfl rfl rfl (by kernel_rfl) rfl (fun _ _ _ h => nomatch h.1) (rfl) rfl (R80) ?_
                refine WA.take (i := 49) (m' := 1125899906842623) (v := .bool (true)) rfl rfl rfl rfl (by kernel_rfl) rfl (fun _ _ _ h => nomatch h.1) (fun wx hS => ?_) (R80) ?_
                · have E115 : Ext w wx := Mod.trans (E3) (hS)
                  refine WL.pick (b := true) rfl rfl rfl ?_
                  exact WL.nil ⟨rfl, rfl, rfl⟩
                refine WA.done (by kernel_rfl) ?_
                have hcut : (true) = symBad I.words.length i (lastAt I.syms i) (I.syms[i]) := by simp only [symBad, *, Bool.true_or, Bool.or_true, Bool.false_or, Bool.or_false, Bool.true_and, Bool.and_true, Bool.false_and, Bool.and_false]
                have B116 := ((hB).ext (n4.ext)).ext (ed_7)
                have B117 := (n4.blk).ext (ed_7)
                exact ⟨rfl, h0_1, h1_1, h3_1, rfl, h43_1, rfl, rfl, rfl, rfl, rfl, rfl, rfl, rfl, rfl, rfl, congrArg Value.bool hcut, B116, B117, E81⟩
              · rcases Bool.eq_false_or_eq_true ((((i : Nat) : Int) == (0 : Int))) with hd7_84 | hd7_84
                · rcases Bool.eq_false_or_eq_true ((((I.syms[i]).2 : Int) != (0 : Int))) with hd7_90 | hd7_90
                  · refine WC.draw (fun w_ => Ext w4 w_) 50 rfl mixed ?_
                    intro wd_7 ed_7
                    have R118 : Ext wr wd_7 := Mod.trans (R2) (ed_7)
                    have R119 : Ext w4 wd_7 := Mod.trans (Mod.refl _ _) (ed_7)
                    have E120 : Ext w wd_7 := Mod.trans (E3) (ed_7)
                    refine WA.take (i := 0) (m' := 1) (v := ptr b4 0) rfl rfl rfl rfl (by kernel_rfl) rfl (fun _ _ _ h => nomatch h.1) (fun wx hS => ?_) (R119) ?_
                    · have E121 : Ext w wx := Mod.trans (E3) (hS)
                      refine WL.fieldAddr rfl fo54_0 rfl ?_
                      exact WL.nil ⟨rfl, rfl, rfl⟩
                    refine WA.take (i := 1) (m' := 3) (v := St (I.syms[i]).1) rfl rfl rfl rfl (by kernel_rfl) rfl (fun _ _ _ h => nomatch h.1) (fun wx hS => ?_) (R119) ?_
                    · have E122 : Ext w wx := Mod.trans (E3) (hS)
                      have B123 := (n4.blk).ext (hS)
                      refine WL.load1 rfl ag9 (B123.cell (j := 0) rfl) rfl ?_
                      exact WL.nil ⟨rfl, rfl, rfl⟩
                    refine WA.take (i := 2) (m' := 7) (v := IN ((I.syms[i]).1.length)) rfl rfl rfl rfl (by kernel_rfl) rfl (fun _ _ _ h => nomatch h.1) (fun wx hS => ?_) (R119) ?_
                    · have E124 : Ext w wx := Mod.trans (E3) (hS)
                      refine WL.lenSt Try.underlying9 rfl rfl ?_
                      exact WL.nil ⟨rfl, rfl, rfl⟩
                    refine WA.take (i := 3) (m' := 15) (v := .bool (decide ((((I.syms[i]).1.length : Nat) : Int) < (1 : Int)))) rfl rfl rfl rfl (by kernel_rfl) rfl (fun _ _ _ h => nomatch h.1) (fun wx hS => ?_) (R119) ?_
                    · have E125 : Ext w wx := Mod.trans (E3) (hS)
                      refine WL.bin rfl rfl rfl (BinR.lss) ?_
                      exact WL.nil ⟨rfl, rfl, rfl⟩
                    refine WA.take (i := 4) (m' := 31) (v := .bool (decide ((((I.syms[i]).1.length : Nat) : Int) < (1 : Int)))) rfl rfl rfl rfl (by kernel_rfl) rfl (fun _ _ _ h => nomatch h.1) (fun wx hS => ?_) (R119) ?_
                    · have E126 : Ext w wx := Mod.trans (E3) (hS)
                      refine WL.move (v := .bool (decide ((((I.syms[i]).1.length : Nat) : Int) < (1 : Int)))) rfl rfl ?_
                      exact WL.nil ⟨rfl, rfl, rfl⟩
                    refine WA.take (i := 5) (m' := 63) (v := ptr b4 0) rfl rfl rfl rfl (by kernel_rfl) rfl (fun _ _ _ h => nomatch h.1) (fun wx hS => ?_) (R119) ?_
                    · have E127 : Ext w wx := Mod.trans (E3) (hS)
                      refine WL.guardT (yf_bool rfl rfl hd7_60) ?_
                      refine WL.fieldAddr rfl fo54_0 rfl ?_
                      exact WL.nil ⟨rfl, rfl, rfl⟩
                    refine WA.take (i := 6) (m' := 127) (v := St (I.syms[i]).1) rfl rfl rfl rfl (by kernel_rfl) rfl (fun _ _ _ h => nomatch h.1) (fun wx hS => ?_) (R119) ?_
                    · have E128 : Ext w wx := Mod.trans (E3) (hS)
                      refine WL.guardT (yf_bool rfl rfl hd7_60) ?_
                      have B129 := (n4.blk).ext (hS)
                      refine WL.load1 rfl ag9 (B129.cell (j := 0) rfl) rfl ?_
                      exact WL.nil ⟨rfl, rfl, rfl⟩
                    refine WA.take (i := 7) (m' := 255) (v := IN ((I.syms[i]).1.length)) rfl rfl rfl rfl (by kernel_rfl) rfl (fun _ _ _ h => nomatch h.1) (fun wx hS => ?_) (R119) ?_
                    · have E130 : Ext w wx := Mod.trans (E3) (hS)
                      refine WL.guardT (yf_bool rfl rfl hd7_60) ?_
                      refine WL.lenSt Try.underlying9 rfl rfl ?_
                      exact WL.nil ⟨rfl, rfl, rfl⟩
                    refine WA.take (i := 8) (m' := 511) (v := .bool (decide ((64 : Int) < (((I.syms[i]).1.length : Nat) : Int)))) rfl rfl rfl rfl (by kernel_rfl) rfl (fun _ _ _ h => nomatch h.1) (fun wx hS => ?_) (R119) ?_
                    · have E131 : Ext w wx := Mod.trans (E3) (hS)
                      refine WL.guardT (yf_bool rfl rfl hd7_60) ?_
                      refine WL.bin rfl rfl rfl (BinR.gtr) ?_
                      exact WL.nil ⟨rfl, rfl, rfl⟩
                    refine WA.take (i := 9) (m' := 1023) (v := .bool (decide ((64 : Int) < (((I.syms[i]).1.length : Nat) : Int)))) rfl rfl rfl rfl (by kernel_rfl) rfl (fun _ _ _ h => nomatch h.1) (fun wx hS => ?_) (R119) ?_
                    · have E132 : Ext w wx := Mod.trans (E3) (hS)
                      refine WL.pick (b := false) (congrArg Value.bool hd7_60) rfl rfl ?_
                      exact WL.nil ⟨rfl, rfl, rfl⟩
                    refine WA.take (i := 10) (m' := 2047) (v := .bool (decide ((64 : Int) < (((I.syms[i]).1.length : Nat) : Int)))) rfl rfl rfl rfl (by kernel_rfl) rfl (fun _ _ _ h => nomatch h.1) (fun wx hS => ?_) (R119) ?_
                    · have E133 : Ext w wx := Mod.trans (E3) (hS)
                      refine WL.move (v := .bool (decide ((64 : Int) < (((I.syms[i]).1.length : Nat) : Int)))) rfl rfl ?_
                      exact WL.nil ⟨rfl, rfl, rfl⟩
                    refine WA.take (i := 11) (m' := 4095) (v := ptr b4 1) rfl rfl rfl rfl (by kernel_rfl) rfl (fun _ _ _ h => nomatch h.1) (fun wx hS => ?_) (R119) ?_
                    · have E134 : Ext w wx := Mod.trans (E3) (hS)
                      refine WL.guardT (yf_bool rfl rfl hd7_66) ?_
                      refine WL.fieldAddr rfl fo54_1 rfl ?_
                      exact WL.nil ⟨rfl, rfl, rfl⟩
                    refine WA.take (i := 12) (m' := 8191) (v := .int .i64 ((I.syms[i]).2)) rfl rfl rfl rfl (by kernel_rfl) rfl (fun _ _ _ h => nomatch h.1) (fun wx hS => ?_) (R119) ?_
                    · have E135 : Ext w wx := Mod.trans (E3) (hS)
                      refine WL.guardT (yf_bool rfl rfl hd7_66) ?_
                      have B136 := (n4.blk).ext (hS)
                      refine WL.load1 rfl ag3 (B136.cell (j := 1) rfl) rfl ?_
                      exact WL.nil ⟨rfl, rfl, rfl⟩
                    refine WA.take (i := 13) (m' := 16383) (v := .int .i64 ((I.syms[i]).2.tmod 4)) rfl rfl rfl rfl (by kernel_rfl) rfl (fun _ _ _ h => nomatch h.1) (fun wx hS => ?_) (R119) ?_
                    · have E137 : Ext w wx := Mod.trans (E3) (hS)
                      refine WL.guardT (yf_bool rfl rfl hd7_66) ?_
                      refine WL.bin rfl rfl rfl (BinR.remT (by decide)) ?_
                      exact WL.nil ⟨rfl, rfl, rfl⟩
                    refine WA.take (i := 14) (m' := 32767) (v := .bool ((((I.syms[i]).2.tmod 4 : Int) != (0 : Int)))) rfl rfl rfl rfl (by kernel_rfl) rfl (fun _ _ _ h => nomatch h.1) (fun wx hS => ?_) (R119) ?_
                    · have E138 : Ext w wx := Mod.trans (E3) (hS)
                      refine WL.guardT (yf_bool rfl rfl hd7_66) ?_
                      refine WL.bin rfl rfl rfl (BinR.neq) ?_
                      exact WL.nil ⟨rfl, rfl, rfl⟩
                    refine WA.take (i := 15) (m' := 65535) (v := .bool ((((I.syms[i]).2.tmod 4 : Int) != (0 : Int)))) rfl rfl rfl rfl (by kernel_rfl) rfl (fun _ _ _ h => nomatch h.1) (fun wx hS => ?_) (R119) ?_
                    · have E139 : Ext w wx := Mod.trans (E3) (hS)
                      refine WL.pick (b := false) (congrArg Value.bool hd7_66) rfl rfl ?_
                      exact WL.nil ⟨rfl, rfl, rfl⟩
                    refine WA.take (i := 16) (m' := 131071) (v := .bool ((((I.syms[i]).2.tmod 4 : Int) != (0 : Int)))) rfl rfl rfl rfl (by kernel_rfl) rfl (fun _ _ _ h => nomatch h.1) (fun wx hS => ?_) (R119) ?_
                    · have E140 : Ext w wx := Mod.trans (E3) (hS)
                      refine WL.move (v := .bool ((((I.syms[i]).2.tmod 4 : Int) != (0 : Int)))) rfl rfl ?_
                      exact WL.nil ⟨rfl, rfl, rfl⟩
                    refine WA.take (i := 17) (m' := 262143) (v := ptr b4 1) rfl rfl rfl rfl (by kernel_rfl) rfl (fun _ _ _ h => nomatch h.1) (fun wx hS => ?_) (R119) ?_
                    · have E141 : Ext w wx := Mod.trans (E3) (hS)
                      refine WL.guardT (yf_bool rfl rfl hd7_72) ?_
                      refine WL.fieldAddr rfl fo54_1 rfl ?_
                      exact WL.nil ⟨rfl, rfl, rfl⟩
                    refine WA.take (i := 18) (m' := 524287) (v := .int .i64 ((I.syms[i]).2)) rfl rfl rfl rfl (by kernel_rfl) rfl (fun _ _ _ h => nomatch h.1) (fun wx hS => ?_) (R119) ?_
                    · have E142 : Ext w wx := Mod.trans (E3) (hS)
                      refine WL.guardT (yf_bool rfl rfl hd7_72) ?_
                      have B143 := (n4.blk).ext (hS)
                      refine WL.load1 rfl ag3 (B143.cell (j := 1) rfl) rfl ?_
                      exact WL.nil ⟨rfl, rfl, rfl⟩
                    refine WA.take (i := 19) (m' := 1048575) (v := ptr b1 2) rfl rfl rfl rfl (by kernel_rfl) rfl (fun _ _ _ h => nomatch h.1) (fun wx hS => ?_) (R119) ?_
                    · have E144 : Ext w wx := Mod.trans (E3) (hS)
                      refine WL.guardT (yf_bool rfl rfl hd7_72) ?_
                      refine WL.fieldAddr h1_1 fo33_2 rfl ?_
                      exact WL.nil ⟨rfl, rfl, rfl⟩
                    refine WA.take (i := 20) (m' := 2097151) (v := wv) rfl rfl rfl rfl (by kernel_rfl) rfl (fun _ _ _ h => nomatch h.1) (fun wx hS => ?_) (R119) ?_
                    · have E145 : Ext w wx := Mod.trans (E3) (hS)
                      refine WL.guardT (yf_bool rfl rfl hd7_72) ?_
                      have B146 := ((hB).ext (n4.ext)).ext (hS)
                      refine WL.load1 rfl ag23 (B146.cell (j := 2) rfl) rfl ?_
                      exact WL.nil ⟨rfl, rfl, rfl⟩
                    refine WA.take (i := 21) (m' := 4194303) (v := IN (I.words.length)) rfl rfl rfl rfl (by kernel_rfl) rfl (fun _ _ _ h => nomatch h.1) (fun wx hS => ?_) (R119) ?_
                    · have E147 : Ext w wx := Mod.trans (E3) (hS)
                      refine WL.guardT (yf_bool rfl rfl hd7_72) ?_
                      refine WL.lenSl (sz := 1) (m := I.words.length) (xs := wordCells I.words) el23 rfl ((hR.w).ext' (E147)) rfl ?_
                      exact WL.nil ⟨rfl, rfl, rfl⟩
                    refine WA.take (i := 22) (m' := 8388607) (v := IN ((4 * I.words.length))) rfl rfl rfl rfl (by kernel_rfl) rfl (fun _ _ _ h => nomatch h.1) (fun wx hS => ?_) (R119) ?_
                    · have E148 : Ext w wx := Mod.trans (E3) (hS)
                      refine WL.guardT (yf_bool rfl rfl hd7_72) ?_
                      refine WL.bin rfl rfl rfl (BinR.mulN (a := 4) (b := I.words.length) (by omega)) ?_
                      exact WL.nil ⟨rfl, rfl, rfl⟩
                    refine WA.take (i := 23) (m' := 16777215) (v := .bool (decide ((((4 * I.words.length) : Nat) : Int) ≤ ((I.syms[i]).2 : Int)))) rfl rfl rfl rfl (by kernel_rfl) rfl (fun _ _ _ h => nomatch h.1) (fun wx hS => ?_) (R119) ?_
                    · have E149 : Ext w wx := Mod.trans (E3) (hS)
                      refine WL.guardT (yf_bool rfl rfl hd7_72) ?_
                      refine WL.bin rfl rfl rfl (BinR.geq) ?_
                      exact WL.nil ⟨rfl, rfl, rfl⟩
                    refine WA.take (i := 24) (m' := 33554431) (v := .bool (decide ((((4 * I.words.length) : Nat) : Int) ≤ ((I.syms[i]).2 : Int)))) rfl rfl rfl rfl (by kernel_rfl) rfl (fun _ _ _ h => nomatch h.1) (fun wx hS => ?_) (R119) ?_
                    · have E150 : Ext w wx := Mod.trans (E3) (hS)
                      refine WL.pick (b := false) (congrArg Value.bool hd7_72) rfl rfl ?_
                      exact WL.nil ⟨rfl, rfl, rfl⟩
                    refine WA.take (i := 25) (m' := 67108863) (v := .bool (decide ((((4 * I.words.length) : Nat) : Int) ≤ ((I.syms[i]).2 : Int)))) rfl rfl rfl rfl (by kernel_rfl) rfl (fun _ _ _ h => nomatch h.1) (fun wx hS => ?_) (R119) ?_
                    · have E151 : Ext w wx := Mod.trans (E3) (hS)
                      refine WL.move (v := .bool (decide ((((4 * I.words.length) : Nat) : Int) ≤ ((I.syms[i]).2 : Int)))) rfl rfl ?_
                      exact WL.nil ⟨rfl, rfl, rfl⟩
                    refine WA.take (i := 26) (m' := 134217727) (v := IN (i)) rfl rfl rfl rfl (by kernel_rfl) rfl (fun _ _ _ h => nomatch h.1) (fun wx hS => ?_) (R119) ?_
                    · have E152 : Ext w wx := Mod.trans (E3) (hS)
                      refine WL.guardT (yf_bool rfl rfl hd7_81) ?_
                      refine WL.move (v := IN (i)) h3_1 rfl ?_
                      exact WL.nil ⟨rfl, rfl, rfl⟩
                    refine WA.take (i := 27) (m' := 268435455) (v := .bool ((((i : Nat) : Int) == (0 : Int)))) rfl rfl rfl rfl (by kernel_rfl) rfl (fun _ _ _ h => nomatch h.1) (fun wx hS => ?_) (R119) ?_
                    · have E153 : Ext w wx := Mod.trans (E3) (hS)
                      refine WL.guardT (yf_bool rfl rfl hd7_81) ?_
                      refine WL.bin rfl rfl rfl (BinR.eql) ?_
                      exact WL.nil ⟨rfl, rfl, rfl⟩
                    refine WA.take (i := 28) (m' := 536870911) (v := .bool ((((i : Nat) : Int) == (0 : Int)))) rfl rfl rfl rfl (by kernel_rfl) rfl (fun _ _ _ h => nomatch h.1) (fun wx hS => ?_) (R119) ?_
                    · have E154 : Ext w wx := Mod.trans (E3) (hS)
                      refine WL.guardT (yf_bool rfl rfl hd7_81) ?_
                      refine WL.move (v := .bool ((((i : Nat) : Int) == (0 : Int)))) rfl rfl ?_
                      exact WL.nil ⟨rfl, rfl, rfl⟩
                    refine WA.take (i := 29) (m' := 1073741823) (v := ptr b4 1) rfl rfl rfl rfl (by kernel_rfl) rfl (fun _ _ _ h => nomatch h.1) (fun wx hS => ?_) (R119) ?_
                    · have E155 : Ext w wx := Mod.trans (E3) (hS)
                      refine WL.guardT (yf_bool rfl rfl hd7_84) ?_
                      refine WL.fieldAddr rfl fo54_1 rfl ?_
                      exact WL.nil ⟨rfl, rfl, rfl⟩
                    refine WA.take (i := 30) (m' := 2147483647) (v := .int .i64 ((I.syms[i]).2)) rfl rfl rfl rfl (by kernel_rfl) rfl (fun _ _ _ h => nomatch h.1) (fun wx hS => ?_) (R119) ?_
                    · have E156 : Ext w wx := Mod.trans (E3) (hS)
                      refine WL.guardT (yf_bool rfl rfl hd7_84) ?_
                      have B157 := (n4.blk).ext (hS)
                      refine WL.load1 rfl ag3 (B157.cell (j := 1) rfl) rfl ?_
                      exact WL.nil ⟨rfl, rfl, rfl⟩
                    refine WA.take (i := 31) (m' := 4294967295) (v := .bool ((((I.syms[i]).2 : Int) != (0 : Int)))) rfl rfl rfl rfl (by kernel_rfl) rfl (fun _ _ _ h => nomatch h.1) (fun wx hS => ?_) (R119) ?_
                    · have E158 : Ext w wx := Mod.trans (E3) (hS)
                      refine WL.guardT (yf_bool rfl rfl hd7_84) ?_
                      refine WL.bin rfl rfl rfl (BinR.neq) ?_
                      exact WL.nil ⟨rfl, rfl, rfl⟩
                    refine WA.take (i := 32) (m' := 8589934591) (v := .bool ((((I.syms[i]).2 : Int) != (0 : Int)))) rfl rfl rfl rfl (by kernel_rfl) rfl (fun _ _ _ h => nomatch h.1) (fun wx hS => ?_) (R119) ?_
                    · have E159 : Ext w wx := Mod.trans (E3) (hS)
                      refine WL.guardT (yf_bool rfl rfl hd7_81) ?_
                      refine WL.pick (b := true) (congrArg Value.bool hd7_84) rfl rfl ?_
                      exact WL.nil ⟨rfl, rfl, rfl⟩
                    refine WA.take (i := 33) (m' := 17179869183) (v := .bool ((((I.syms[i]).2 : Int) != (0 : Int)))) rfl rfl rfl rfl (by kernel_rfl) rfl (fun _ _ _ h => nomatch h.1) (fun wx hS => ?_) (R119) ?_
                    · have E160 : Ext w wx := Mod.trans (E3) (hS)
                      refine WL.pick (b := false) (congrArg Value.bool hd7_81) rfl rfl ?_
                      exact WL.nil ⟨rfl, rfl, rfl⟩
                    refine WA.take (i := 34) (m' := 34359738367) (v := .bool ((((I.syms[i]).2 : Int) != (0 : Int)))) rfl rfl rfl rfl (by kernel_rfl) rfl (fun _ _ _ h => nomatch h.1) (fun wx hS => ?_) (R119) ?_
                    · have E161 : Ext w wx := Mod.trans (E3) (hS)
                      refine WL.move (v := .bool ((((I.syms[i]).2 : Int) != (0 : Int)))) rfl rfl ?_
                      exact WL.nil ⟨rfl, rfl, rfl⟩
                    refine WA.off (i := 35) (m' := 68719476735) (y := some true) rfl rfl rfl rfl (by kernel_rfl) rfl (fun _ _ _ h => nomatch h.1) (yf_bool rfl rfl hd7_90) rfl (R119) ?_
                    refine WA.off (i := 36) (m' := 137438953471) (y := some true) rfl rfl rfl rfl (by kernel_rfl) rfl (fun _ _ _ h => nomatch h.1) (yf_bool rfl rfl hd7_90) rfl (R119) ?_
                    refine WA.off (i := 37) (m' := 274877906943) (y := some true) rfl rfl rfl rfl (by kernel_rfl) rfl (fun _ _ _ h => nomatch h.1) (yf_bool rfl rfl hd7_90) rfl (R119) ?_
                    refine WA.off (i := 38) (m' := 549755813887) (y := none) rfl rfl rfl rfl (by kernel_rfl) rfl (fun _ _ _ h => nomatch h.1) (rfl) rfl (R119) ?_
                    refine WA.off (i := 39) (m' := 1099511627775) (y := none) rfl rfl rfl rfl (by kernel_rfl) rfl (fun _ _ _ h => nomatch h.1) (rfl) rfl (R119) ?_
                    refine WA.off (i := 40) (m' := 2199023255551) (y := none) rfl rfl rfl rfl (by kernel_rfl) rfl (fun _ _ _ h => nomatch h.1) (rfl) rfl (R119) ?_
                    refine WA.off (i := 41) (m' := 4398046511103) (y := none) rfl rfl rfl rfl (by kernel_rfl) rfl (fun _ _ _ h => nomatch h.1) (rfl) rfl (R119) ?_
                    refine WA.off (i := 42) (m' := 8796093022207) (y := none) rfl rfl rfl rfl (by kernel_rfl) rfl (fun _ _ _ h => nomatch h.1) (rfl) rfl (R119) ?_
                    refine WA.off (i := 43) (m' := 17592186044415) (y := none) rfl rfl rfl rfl (by kernel_rfl) rfl (fun _ _ _ h => nomatch h.1) (rfl) rfl (R119) ?_
                    refine WA.off (i := 44) (m' := 35184372088831) (y := none) rfl rfl rfl rfl (by kernel_rfl) rfl (fun _ _ _ h => nomatch h.1) (rfl) rfl (R119) ?_
                    refine WA.off (i := 45) (m' := 70368744177663) (y := none) rfl rfl rfl rfl (by kernel_rfl) rfl (fun _ _ _ h => nomatch h.1) (rfl) rfl (R119) ?_
                    refine WA.off (i := 46) (m' := 140737488355327) (y := none) rfl rfl rfl rfl (by kernel_rfl) rfl (fun _ _ _ h => nomatch h.1) (rfl) rfl (R119) ?_
                    refine WA.off (i := 47) (m' := 281474976710655) (y := none) rfl rfl rfl rfl (by kernel_rfl) rfl (fun _ _ _ h => nomatch h.1) (rfl) rfl (R119) ?_
                    refine WA.off (i := 48) (m' := 562949953421311) (y := some true) rfl rfl rfl rfl (by kernel_rfl) rfl (fun _ _ _ h => nomatch h.1) (yf_bool rfl rfl hd7_90) rfl (R119) ?_
                    refine WA.take (i := 49) (m' := 1125899906842623) (v := .bool (true)) rfl rfl rfl rfl (by kernel_rfl) rfl (fun _ _ _ h => nomatch h.1) (fun wx hS => ?_) (R119) ?_
                    · have E162 : Ext w wx := Mod.trans (E3) (hS)
                      refine WL.pick (b := true) (congrArg Value.bool hd7_90) rfl rfl ?_
                      exact WL.nil ⟨rfl, rfl, rfl⟩
                    refine WA.done (by kernel_rfl) ?_
                    have hcut : (true) = symBad I.words.length i (lastAt I.syms i) (I.syms[i]) := by simp only [symBad, *, Bool.true_or, Bool.or_true, Bool.false_or, Bool.or_false, Bool.true_and, Bool.and_true, Bool.false_and, Bool.and_false]
                    have B163 := ((hB).ext (n4.ext)).ext (ed_7)
                    have B164 := (n4.blk).ext (ed_7)
                    exact ⟨rfl, h0_1, h1_1, h3_1, rfl, h43_1, rfl, rfl, rfl, rfl, rfl, rfl, rfl, rfl, rfl, rfl, congrArg Value.bool hcut, B163, B164, E120⟩
                  · rcases Bool.eq_false_or_eq_true (decide ((0 : Int) < ((i : Nat) : Int))) with hd7_93 | hd7_93
                    · have hi0 : 0 < i := by have := of_decide_eq_true hd7_93; omega
                      have hla := lastAt_pred I.syms i hi0 (by omega)
                      refine WC.draw (fun w_ => Ext w4 w_) 50 rfl mixed ?_
                      intro wd_7 ed_7
                      have R165 : Ext wr wd_7 := Mod.trans (R2) (ed_7)
                      have R166 : Ext w4 wd_7 := Mod.trans (Mod.refl _ _) (ed_7)
                      have E167 : Ext w wd_7 := Mod.trans (E3) (ed_7)
                      refine WA.take (i := 0) (m' := 1) (v := ptr b4 0) rfl rfl rfl rfl (by kernel_rfl) rfl (fun _ _ _ h => nomatch h.1) (fun wx hS => ?_) (R166) ?_
                      · have E168 : Ext w wx := Mod.trans (E3) (hS)
                        refine WL.fieldAddr rfl fo54_0 rfl ?_
                        exact WL.nil ⟨rfl, rfl, rfl⟩
                      refine WA.take (i := 1) (m' := 3) (v := St (I.syms[i]).1) rfl rfl rfl rfl (by kernel_rfl) rfl (fun _ _ _ h => nomatch h.1) (fun wx hS => ?_) (R166) ?_
                      · have E169 : Ext w wx := Mod.trans (E3) (hS)
                        have B170 := (n4.blk).ext (hS)
                        refine WL.load1 rfl ag9 (B170.cell (j := 0) rfl) rfl ?_
                        exact WL.nil ⟨rfl, rfl, rfl⟩
                      refine WA.take (i := 2) (m' := 7) (v := IN ((I.syms[i]).1.length)) rfl rfl rfl rfl (by kernel_rfl) rfl (fun _ _ _ h => nomatch h.1) (fun wx hS => ?_) (R166) ?_
                      · have E171 : Ext w wx := Mod.trans (E3) (hS)
                        refine WL.lenSt Try.underlying9 rfl rfl ?_
                        exact WL.nil ⟨rfl, rfl, rfl⟩
                      refine WA.take (i := 3) (m' := 15) (v := .bool (decide ((((I.syms[i]).1.length : Nat) : Int) < (1 : Int)))) rfl rfl rfl rfl (by kernel_rfl) rfl (fun _ _ _ h => nomatch h.1) (fun wx hS => ?_) (R166) ?_
                      · have E172 : Ext w wx := Mod.trans (E3) (hS)
                        refine WL.bin rfl rfl rfl (BinR.lss) ?_
                        exact WL.nil ⟨rfl, rfl, rfl⟩
                      refine WA.take (i := 4) (m' := 31) (v := .bool (decide ((((I.syms[i]).1.length : Nat) : Int) < (1 : Int)))) rfl rfl rfl rfl (by kernel_rfl) rfl (fun _ _ _ h => nomatch h.1) (fun wx hS => ?_) (R166) ?_
                      · have E173 : Ext w wx := Mod.trans (E3) (hS)
                        refine WL.move (v := .bool (decide ((((I.syms[i]).1.length : Nat) : Int) < (1 : Int)))) rfl rfl ?_
                        exact WL.nil ⟨rfl, rfl, rfl⟩
                      refine WA.take (i := 5) (m' := 63) (v := ptr b4 0) rfl rfl rfl rfl (by kernel_rfl) rfl (fun _ _ _ h => nomatch h.1) (fun wx hS => ?_) (R166) ?_
                      · have E174 : Ext w wx := Mod.trans (E3) (hS)
                        refine WL.guardT (yf_bool rfl rfl hd7_60) ?_
                        refine WL.fieldAddr rfl fo54_0 rfl ?_
                        exact WL.nil ⟨rfl, rfl, rfl⟩
                      refine WA.take (i := 6) (m' := 127) (v := St (I.syms[i]).1) rfl rfl rfl rfl (by kernel_rfl) rfl (fun _ _ _ h => nomatch h.1) (fun wx hS => ?_) (R166) ?_
                      · have E175 : Ext w wx := Mod.trans (E3) (hS)
                        refine WL.guardT (yf_bool rfl rfl hd7_60) ?_
                        have B176 := (n4.blk).ext (hS)
                        refine WL.load1 rfl ag9 (B176.cell (j := 0) rfl) rfl ?_
                        exact WL.nil ⟨rfl, rfl, rfl⟩
                      refine WA.take (i := 7) (m' := 255) (v := IN ((I.syms[i]).1.length)) rfl rfl rfl rfl (by kernel_rfl) rfl (fun _ _ _ h => nomatch h.1) (fun wx hS => ?_) (R166) ?_
                      · have E177 : Ext w wx := Mod.trans (E3) (hS)
                        refine WL.guardT (yf_bool rfl rfl hd7_60) ?_
                        refine WL.lenSt Try.underlying9 rfl rfl ?_
                        exact WL.nil ⟨rfl, rfl, rfl⟩
                      refine WA.take (i := 8) (m' := 511) (v := .bool (decide ((64 : Int) < (((I.syms[i]).1.length : Nat) : Int)))) rfl rfl rfl rfl (by kernel_rfl) rfl (fun _ _ _ h => nomatch h.1) (fun wx hS => ?_) (R166) ?_
                      · have E178 : Ext w wx := Mod.trans (E3) (hS)
                        refine WL.guardT (yf_bool rfl rfl hd7_60) ?_
                        refine WL.bin rfl rfl rfl (BinR.gtr) ?_
                        exact WL.nil ⟨rfl, rfl, rfl⟩
                      refine WA.take (i := 9) (m' := 1023) (v := .bool (decide ((64 : Int) < (((I.syms[i]).1.length : Nat) : Int)))) rfl rfl rfl rfl (by kernel_rfl) rfl (fun _ _ _ h => nomatch h.1) (fun wx hS => ?_) (R166) ?_
                      · have E179 : Ext w wx := Mod.trans (E3) (hS)
                        refine WL.pick (b := false) (congrArg Value.bool hd7_60) rfl rfl ?_
                        exact WL.nil ⟨rfl, rfl, rfl⟩
                      refine WA.take (i := 10) (m' := 2047) (v := .bool (decide ((64 : Int) < (((I.syms[i]).1.length : Nat) : Int)))) rfl rfl rfl rfl (by kernel_rfl) rfl (fun _ _ _ h => nomatch h.1) (fun wx hS => ?_) (R166) ?_
                      · have E180 : Ext w wx := Mod.trans (E3) (hS)
                        refine WL.move (v := .bool (decide ((64 : Int) < (((I.syms[i]).1.length : Nat) : Int)))) rfl rfl ?_
                        exact WL.nil ⟨rfl, rfl, rfl⟩
                      refine WA.take (i := 11) (m' := 4095) (v := ptr b4 1) rfl rfl rfl rfl (by kernel_rfl) rfl (fun _ _ _ h => nomatch h.1) (fun wx hS => ?_) (R166) ?_
                      · have E181 : Ext w wx := Mod.trans (E3) (hS)
                        refine WL.guardT (yf_bool rfl rfl hd7_66) ?_
                        refine WL.fieldAddr rfl fo54_1 rfl ?_
                        exact WL.nil ⟨rfl, rfl, rfl⟩
                      refine WA.take (i := 12) (m' := 8191) (v := .int .i64 ((I.syms[i]).2)) rfl rfl rfl rfl (by kernel_rfl) rfl (fun _ _ _ h => nomatch h.1) (fun wx hS => ?_) (R166) ?_
                      · have E182 : Ext w wx := Mod.trans (E3) (hS)
                        refine WL.guardT (yf_bool rfl rfl hd7_66) ?_
                        have B183 := (n4.blk).ext (hS)
                        refine WL.load1 rfl ag3 (B183.cell (j := 1) rfl) rfl ?_
                        exact WL.nil ⟨rfl, rfl, rfl⟩
                      refine WA.take (i := 13) (m' := 16383) (v := .int .i64 ((I.syms[i]).2.tmod 4)) rfl rfl rfl rfl (by kernel_rfl) rfl (fun _ _ _ h => nomatch h.1) (fun wx hS => ?_) (R166) ?_
                      · have E184 : Ext w wx := Mod.trans (E3) (hS)
                        refine WL.guardT (yf_bool rfl rfl hd7_66) ?_
                        refine WL.bin rfl rfl rfl (BinR.remT (by decide)) ?_
                        exact WL.nil ⟨rfl, rfl, rfl⟩
                      refine WA.take (i := 14) (m' := 32767) (v := .bool ((((I.syms[i]).2.tmod 4 : Int) != (0 : Int)))) rfl rfl rfl rfl (by kernel_rfl) rfl (fun _ _ _ h => nomatch h.1) (fun wx hS => ?_) (R166) ?_
                      · have E185 : Ext w wx := Mod.trans (E3) (hS)
                        refine WL.guardT (yf_bool rfl rfl hd7_66) ?_
                        refine WL.bin rfl rfl rfl (BinR.neq) ?_
                        exact WL.nil ⟨rfl, rfl, rfl⟩
                      refine WA.take (i := 15) (m' := 65535) (v := .bool ((((I.syms[i]).2.tmod 4 : Int) != (0 : Int)))) rfl rfl rfl rfl (by kernel_rfl) rfl (fun _ _ _ h => nomatch h.1) (fun wx hS => ?_) (R166) ?_
                      · have E186 : Ext w wx := Mod.trans (E3) (hS)
                        refine WL.pick (b := false) (congrArg Value.bool hd7_66) rfl rfl ?_
                        exact WL.nil ⟨rfl, rfl, rfl⟩
                      refine WA.take (i := 16) (m' := 131071) (v := .bool ((((I.syms[i]).2.tmod 4 : Int) != (0 : Int)))) rfl rfl rfl rfl (by kernel_rfl) rfl (fun _ _ _ h => nomatch h.1) (fun wx hS => ?_) (R166) ?_
                      · have E187 : Ext w wx := Mod.trans (E3) (hS)
                        refine WL.move (v := .bool ((((I.syms[i]).2.tmod 4 : Int) != (0 : Int)))) rfl rfl ?_
                        exact WL.nil ⟨rfl, rfl, rfl⟩
                      refine WA.take (i := 17) (m' := 262143) (v := ptr b4 1) rfl rfl rfl rfl (by kernel_rfl) rfl (fun _ _ _ h => nomatch h.1) (fun wx hS => ?_) (R166) ?_
                      · have E188 : Ext w wx := Mod.trans (E3) (hS)
                        refine WL.guardT (yf_bool rfl rfl hd7_72) ?_
                        refine WL.fieldAddr rfl fo54_1 rfl ?_
                        exact WL.nil ⟨rfl, rfl, rfl⟩
                      refine WA.take (i := 18) (m' := 524287) (v := .int .i64 ((I.syms[i]).2)) rfl rfl rfl rfl (by kernel_rfl) rfl (fun _ _ _ h => nomatch h.1) (fun wx hS => ?_) (R166) ?_
                      · have E189 : Ext w wx := Mod.trans (E3) (hS)
                        refine WL.guardT (yf_bool rfl rfl hd7_72) ?_
                        have B190 := (n4.blk).ext (hS)
                        refine WL.load1 rfl ag3 (B190.cell (j := 1) rfl) rfl ?_
                        exact WL.nil ⟨rfl, rfl, rfl⟩
                      refine WA.take (i := 19) (m' := 1048575) (v := ptr b1 2) rfl rfl rfl rfl (by kernel_rfl) rfl (fun _ _ _ h => nomatch h.1) (fun wx hS => ?_) (R166) ?_
                      · have E191 : Ext w wx := Mod.trans (E3) (hS)
                        refine WL.guardT (yf_bool rfl rfl hd7_72) ?_
                        refine WL.fieldAddr h1_1 fo33_2 rfl ?_
                        exact WL.nil ⟨rfl, rfl, rfl⟩
                      refine WA.take (i := 20) (m' := 2097151) (v := wv) rfl rfl rfl rfl (by kernel_rfl) rfl (fun _ _ _ h => nomatch h.1) (fun wx hS => ?_) (R166) ?_
                      · have E192 : Ext w wx := Mod.trans (E3) (hS)
                        refine WL.guardT (yf_bool rfl rfl hd7_72) ?_
                        have B193 := ((hB).ext (n4.ext)).ext (hS)
                        refine WL.load1 rfl ag23 (B193.cell (j := 2) rfl) rfl ?_
                        exact WL.nil ⟨rfl, rfl, rfl⟩
                      refine WA.take (i := 21) (m' := 4194303) (v := IN (I.words.length)) rfl rfl rfl rfl (by kernel_rfl) rfl (fun _ _ _ h => nomatch h.1) (fun wx hS => ?_) (R166) ?_
                      · have E194 : Ext w wx := Mod.trans (E3) (hS)
                        refine WL.guardT (yf_bool rfl rfl hd7_72) ?_
                        refine WL.lenSl (sz := 1) (m := I.words.length) (xs := wordCells I.words) el23 rfl ((hR.w).ext' (E194)) rfl ?_
                        exact WL.nil ⟨rfl, rfl, rfl⟩
                      refine WA.take (i := 22) (m' := 8388607) (v := IN ((4 * I.words.length))) rfl rfl rfl rfl (by kernel_rfl) rfl (fun _ _ _ h => nomatch h.1) (fun wx hS => ?_) (R166) ?_
                      · have E195 : Ext w wx := Mod.trans (E3) (hS)
                        refine WL.guardT (yf_bool rfl rfl hd7_72) ?_
                        refine WL.bin rfl rfl rfl (BinR.mulN (a := 4) (b := I.words.length) (by omega)) ?_
                        exact WL.nil ⟨rfl, rfl, rfl⟩
                      refine WA.take (i := 23) (m' := 16777215) (v := .bool (decide ((((4 * I.words.length) : Nat) : Int) ≤ ((I.syms[i]).2 : Int)))) rfl rfl rfl rfl (by kernel_rfl) rfl (fun _ _ _ h => nomatch h.1) (fun wx hS => ?_) (R166) ?_
                      · have E196 : Ext w wx := Mod.trans (E3) (hS)
                        refine WL.guardT (yf_bool rfl rfl hd7_72) ?_
                        refine WL.bin rfl rfl rfl (BinR.geq) ?_
                        exact WL.nil ⟨rfl, rfl, rfl⟩
                      refine WA.take (i := 24) (m' := 33554431) (v := .bool (decide ((((4 * I.words.length) : Nat) : Int) ≤ ((I.syms[i]).2 : Int)))) rfl rfl rfl rfl (by kernel_rfl) rfl (fun _ _ _ h => nomatch h.1) (fun wx hS => ?_) (R166) ?_
                      · have E197 : Ext w wx := Mod.trans (E3) (hS)
                        refine WL.pick (b := false) (congrArg Value.bool hd7_72) rfl rfl ?_
                        exact WL.nil ⟨rfl, rfl, rfl⟩
                      refine WA.take (i := 25) (m' := 67108863) (v := .bool (decide ((((4 * I.words.length) : Nat) : Int) ≤ ((I.syms[i]).2 : Int)))) rfl rfl rfl rfl (by kernel_rfl) rfl (fun _ _ _ h => nomatch h.1) (fun wx hS => ?_) (R166) ?_
                      · have E198 : Ext w wx := Mod.trans (E3) (hS)
                        refine WL.move (v := .bool (decide ((((4 * I.words.length) : Nat) : Int) ≤ ((I.syms[i]).2 : Int)))) rfl rfl ?_
                        exact WL.nil ⟨rfl, rfl, rfl⟩
                      refine WA.take (i := 26) (m' := 134217727) (v := IN (i)) rfl rfl rfl rfl (by kernel_rfl) rfl (fun _ _ _ h => nomatch h.1) (fun wx hS => ?_) (R166) ?_
                      · have E199 : Ext w wx := Mod.trans (E3) (hS)
                        refine WL.guardT (yf_bool rfl rfl hd7_81) ?_
                        refine WL.move (v := IN (i)) h3_1 rfl ?_
                        exact WL.nil ⟨rfl, rfl, rfl⟩
                      refine WA.take (i := 27) (m' := 268435455) (v := .bool ((((i : Nat) : Int) == (0 : Int)))) rfl rfl rfl rfl (by kernel_rfl) rfl (fun _ _ _ h => nomatch h.1) (fun wx hS => ?_) (R166) ?_
                      · have E200 : Ext w wx := Mod.trans (E3) (hS)
                        refine WL.guardT (yf_bool rfl rfl hd7_81) ?_
                        refine WL.bin rfl rfl rfl (BinR.eql) ?_
                        exact WL.nil ⟨rfl, rfl, rfl⟩
                      refine WA.take (i := 28) (m' := 536870911) (v := .bool ((((i : Nat) : Int) == (0 : Int)))) rfl rfl rfl rfl (by kernel_rfl) rfl (fun _ _ _ h => nomatch h.1) (fun wx hS => ?_) (R166) ?_
                      · have E201 : Ext w wx := Mod.trans (E3) (hS)
                        refine WL.guardT (yf_bool rfl rfl hd7_81) ?_
                        refine WL.move (v := .bool ((((i : Nat) : Int) == (0 : Int)))) rfl rfl ?_
                        exact WL.nil ⟨rfl, rfl, rfl⟩
                      refine WA.take (i := 29) (m' := 1073741823) (v := ptr b4 1) rfl rfl rfl rfl (by kernel_rfl) rfl (fun _ _ _ h => nomatch h.1) (fun wx hS => ?_) (R166) ?_
                      · have E202 : Ext w wx := Mod.trans (E3) (hS)
                        refine WL.guardT (yf_bool rfl rfl hd7_84) ?_
                        refine WL.fieldAddr rfl fo54_1 rfl ?_
                        exact WL.nil ⟨rfl, rfl, rfl⟩
                      refine WA.take (i := 30) (m' := 2147483647) (v := .int .i64 ((I.syms[i]).2)) rfl rfl rfl rfl (by kernel_rfl) rfl (fun _ _ _ h => nomatch h.1) (fun wx hS => ?_) (R166) ?_
                      · have E203 : Ext w wx := Mod.trans (E3) (hS)
                        refine WL.guardT (yf_bool rfl rfl hd7_84) ?_
                        have B204 := (n4.blk).ext (hS)
                        refine WL.load1 rfl ag3 (B204.cell (j := 1) rfl) rfl ?_
                        exact WL.nil ⟨rfl, rfl, rfl⟩
                      refine WA.take (i := 31) (m' := 4294967295) (v := .bool ((((I.syms[i]).2 : Int) != (0 : Int)))) rfl rfl rfl rfl (by kernel_rfl) rfl (fun _ _ _ h => nomatch h.1) (fun wx hS => ?_) (R166) ?_
                      · have E205 : Ext w wx := Mod.trans (E3) (hS)
                        refine WL.guardT (yf_bool rfl rfl hd7_84) ?_
                        refine WL.bin rfl rfl rfl (BinR.neq) ?_
                        exact WL.nil ⟨rfl, rfl, rfl⟩
                      refine WA.take (i := 32) (m' := 8589934591) (v := .bool ((((I.syms[i]).2 : Int) != (0 : Int)))) rfl rfl rfl rfl (by kernel_rfl) rfl (fun _ _ _ h => nomatch h.1) (fun wx hS => ?_) (R166) ?_
                      · have E206 : Ext w wx := Mod.trans (E3) (hS)
                        refine WL.guardT (yf_bool rfl rfl hd7_81) ?_
                        refine WL.pick (b := true) (congrArg Value.bool hd7_84) rfl rfl ?_
                        exact WL.nil ⟨rfl, rfl, rfl⟩
                      refine WA.take (i := 33) (m' := 17179869183) (v := .bool ((((I.syms[i]).2 : Int) != (0 : Int)))) rfl rfl rfl rfl (by kernel_rfl) rfl (fun _ _ _ h => nomatch h.1) (fun wx hS => ?_) (R166) ?_
                      · have E207 : Ext w wx := Mod.trans (E3) (hS)
                        refine WL.pick (b := false) (congrArg Value.bool hd7_81) rfl rfl ?_
                        exact WL.nil ⟨rfl, rfl, rfl⟩
                      refine WA.take (i := 34) (m' := 34359738367) (v := .bool ((((I.syms[i]).2 : Int) != (0 : Int)))) rfl rfl rfl rfl (by kernel_rfl) rfl (fun _ _ _ h => nomatch h.1) (fun wx hS => ?_) (R166) ?_
                      · have E208 : Ext w wx := Mod.trans (E3) (hS)
                        refine WL.move (v := .bool ((((I.syms[i]).2 : Int) != (0 : Int)))) rfl rfl ?_
                        exact WL.nil ⟨rfl, rfl, rfl⟩
                      refine WA.take (i := 35) (m' := 68719476735) (v := IN (i)) rfl rfl rfl rfl (by kernel_rfl) rfl (fun _ _ _ h => nomatch h.1) (fun wx hS => ?_) (R166) ?_
                      · have E209 : Ext w wx := Mod.trans (E3) (hS)
                        refine WL.guardT (yf_bool rfl rfl hd7_90) ?_
                        refine WL.move (v := IN (i)) h3_1 rfl ?_
                        exact WL.nil ⟨rfl, rfl, rfl⟩
                      refine WA.take (i := 36) (m' := 137438953471) (v := .bool (decide ((0 : Int) < ((i : Nat) : Int)))) rfl rfl rfl rfl (by kernel_rfl) rfl (fun _ _ _ h => nomatch h.1) (fun wx hS => ?_) (R166) ?_
                      · have E210 : Ext w wx := Mod.trans (E3) (hS)
                        refine WL.guardT (yf_bool rfl rfl hd7_90) ?_
                        refine WL.bin rfl rfl rfl (BinR.gtr) ?_
                        exact WL.nil ⟨rfl, rfl, rfl⟩
                      refine WA.take (i := 37) (m' := 274877906943) (v := .bool (decide ((0 : Int) < ((i : Nat) : Int)))) rfl rfl rfl rfl (by kernel_rfl) rfl (fun _ _ _ h => nomatch h.1) (fun wx hS => ?_) (R166) ?_
                      · have E211 : Ext w wx := Mod.trans (E3) (hS)
                        refine WL.guardT (yf_bool rfl rfl hd7_90) ?_
                        refine WL.move (v := .bool (decide ((0 : Int) < ((i : Nat) : Int)))) rfl rfl ?_
                        exact WL.nil ⟨rfl, rfl, rfl⟩
                      refine WA.take (i := 38) (m' := 549755813887) (v := ptr b4 1) rfl rfl rfl rfl (by kernel_rfl) rfl (fun _ _ _ h => nomatch h.1) (fun wx hS => ?_) (R166) ?_
                      · have E212 : Ext w wx := Mod.trans (E3) (hS)
                        refine WL.guardT (yf_bool rfl rfl hd7_93) ?_
                        refine WL.fieldAddr rfl fo54_1 rfl ?_
                        exact WL.nil ⟨rfl, rfl, rfl⟩
                      refine WA.take (i := 39) (m' := 1099511627775) (v := .int .i64 ((I.syms[i]).2)) rfl rfl rfl rfl (by kernel_rfl) rfl (fun _ _ _ h => nomatch h.1) (fun wx hS => ?_) (R166) ?_
                      · have E213 : Ext w wx := Mod.trans (E3) (hS)
                        refine WL.guardT (yf_bool rfl rfl hd7_93) ?_
                        have B214 := (n4.blk).ext (hS)
                        refine WL.load1 rfl ag3 (B214.cell (j := 1) rfl) rfl ?_
                        exact WL.nil ⟨rfl, rfl, rfl⟩
                      refine WA.take (i := 40) (m' := 2199023255551) (v := ptr b1 1) rfl rfl rfl rfl (by kernel_rfl) rfl (fun _ _ _ h => nomatch h.1) (fun wx hS => ?_) (R166) ?_
                      · have E215 : Ext w wx := Mod.trans (E3) (hS)
                        refine WL.guardT (yf_bool rfl rfl hd7_93) ?_
                        refine WL.fieldAddr h1_1 fo33_1 rfl ?_
                        exact WL.nil ⟨rfl, rfl, rfl⟩
                      refine WA.take (i := 41) (m' := 4398046511103) (v := sv) rfl rfl rfl rfl (by kernel_rfl) rfl (fun _ _ _ h => nomatch h.1) (fun wx hS => ?_) (R166) ?_
                      · have E216 : Ext w wx := Mod.trans (E3) (hS)
                        refine WL.guardT (yf_bool rfl rfl hd7_93) ?_
                        have B217 := ((hB).ext (n4.ext)).ext (hS)
                        refine WL.load1 rfl ag31 (B217.cell (j := 1) rfl) rfl ?_
                        exact WL.nil ⟨rfl, rfl, rfl⟩
                      refine WA.take (i := 42) (m' := 8796093022207) (v := IN (i)) rfl rfl rfl rfl (by kernel_rfl) rfl (fun _ _ _ h => nomatch h.1) (fun wx hS => ?_) (R166) ?_
                      · have E218 : Ext w wx := Mod.trans (E3) (hS)
                        refine WL.guardT (yf_bool rfl rfl hd7_93) ?_
                        refine WL.move (v := IN (i)) h3_1 rfl ?_
                        exact WL.nil ⟨rfl, rfl, rfl⟩
                      refine WA.take (i := 43) (m' := 17592186044415) (v := IN ((i - 1))) rfl rfl rfl rfl (by kernel_rfl) rfl (fun _ _ _ h => nomatch h.1) (fun wx hS => ?_) (R166) ?_
                      · have E219 : Ext w wx := Mod.trans (E3) (hS)
                        refine WL.guardT (yf_bool rfl rfl hd7_93) ?_
                        refine WL.bin rfl rfl rfl (BinR.subN (a := i) (b := 1) (by omega) (by omega)) ?_
                        exact WL.nil ⟨rfl, rfl, rfl⟩
                      refine WA.take (i := 44) (m' := 35184372088831) (v := ptr bs0 (os0 + ((i - 1)) * 2)) rfl rfl rfl rfl (by kernel_rfl) rfl (fun _ _ _ h => nomatch h.1) (fun wx hS => ?_) (R166) ?_
                      · have E220 : Ext w wx := Mod.trans (E3) (hS)
                        refine WL.guardT (yf_bool rfl rfl hd7_93) ?_
                        refine WL.indexAddr (i := (i - 1)) (b := bs0) (o := os0) el31 sz54 (Eq.trans (rfl) es0) rfl (by omega) rfl ?_
                        exact WL.nil ⟨rfl, rfl, rfl⟩
                      refine WA.take (i := 45) (m' := 70368744177663) (v := ptr bs0 ((os0 + ((i - 1)) * 2) + 1)) rfl rfl rfl rfl (by kernel_rfl) rfl (fun _ _ _ h => nomatch h.1) (fun wx hS => ?_) (R166) ?_
                      · have E221 : Ext w wx := Mod.trans (E3) (hS)
                        refine WL.guardT (yf_bool rfl rfl hd7_93) ?_
                        refine WL.fieldAddr rfl fo54_1 rfl ?_
                        exact WL.nil ⟨rfl, rfl, rfl⟩
                      refine WA.take (i := 46) (m' := 140737488355327) (v := .int .i64 ((I.syms[i - 1]).2)) rfl rfl rfl rfl (by kernel_rfl) rfl (fun _ _ _ h => nomatch h.1) (fun wx hS => ?_) (R166) ?_
                      · have E222 : Ext w wx := Mod.trans (E3) (hS)
                        refine WL.guardT (yf_bool rfl rfl hd7_93) ?_
                        refine WL.load1 rfl ag3 ((hcs0.ext (E222)) ((i - 1) * 2 + 1) _ (symCells_get I.syms (i - 1) (by omega)).2) rfl ?_
                        exact WL.nil ⟨rfl, rfl, rfl⟩
                      refine WA.take (i := 47) (m' := 281474976710655) (v := .bool (decide (((I.syms[i]).2 : Int) ≤ ((I.syms[i - 1]).2 : Int)))) rfl rfl rfl rfl (by kernel_rfl) rfl (fun _ _ _ h => nomatch h.1) (fun wx hS => ?_) (R166) ?_
                      · have E223 : Ext w wx := Mod.trans (E3) (hS)
                        refine WL.guardT (yf_bool rfl rfl hd7_93) ?_
                        refine WL.bin rfl rfl rfl (BinR.leq) ?_
                        exact WL.nil ⟨rfl, rfl, rfl⟩
                      refine WA.take (i := 48) (m' := 562949953421311) (v := .bool (decide (((I.syms[i]).2 : Int) ≤ ((I.syms[i - 1]).2 : Int)))) rfl rfl rfl rfl (by kernel_rfl) rfl (fun _ _ _ h => nomatch h.1) (fun wx hS => ?_) (R166) ?_
                      · have E224 : Ext w wx := Mod.trans (E3) (hS)
                        refine WL.guardT (yf_bool rfl rfl hd7_90) ?_
                        refine WL.pick (b := true) (congrArg Value.bool hd7_93) rfl rfl ?_
                        exact WL.nil ⟨rfl, rfl, rfl⟩
                      refine WA.take (i := 49) (m' := 1125899906842623) (v := .bool (decide (((I.syms[i]).2 : Int) ≤ ((I.syms[i - 1]).2 : Int)))) rfl rfl rfl rfl (by kernel_rfl) rfl (fun _ _ _ h => nomatch h.1) (fun wx hS => ?_) (R166) ?_
                      · have E225 : Ext w wx := Mod.trans (E3) (hS)
                        refine WL.pick (b := false) (congrArg Value.bool hd7_90) rfl rfl ?_
                        exact WL.nil ⟨rfl, rfl, rfl⟩
                      refine WA.done (by kernel_rfl) ?_
                      have hcut : (decide (((I.syms[i]).2 : Int) ≤ ((I.syms[i - 1]).2 : Int))) = symBad I.words.length i (lastAt I.syms i) (I.syms[i]) := by simp only [symBad, *, Bool.true_or, Bool.or_true, Bool.false_or, Bool.or_false, Bool.true_and, Bool.and_true, Bool.false_and, Bool.and_false]
                      have B226 := ((hB).ext (n4.ext)).ext (ed_7)
                      have B227 := (n4.blk).ext (ed_7)
                      exact ⟨rfl, h0_1, h1_1, h3_1, rfl, h43_1, rfl, rfl, rfl, rfl, rfl, rfl, rfl, rfl, rfl, rfl, congrArg Value.bool hcut, B226, B227, E167⟩
                    · refine WC.draw (fun w_ => Ext w4 w_) 50 rfl mixed ?_
                      intro wd_7 ed_7
                      have R228 : Ext wr wd_7 := Mod.trans (R2) (ed_7)
                      have R229 : Ext w4 wd_7 := Mod.trans (Mod.refl _ _) (ed_7)
                      have E230 : Ext w wd_7 := Mod.trans (E3) (ed_7)
                      refine WA.take (i := 0) (m' := 1) (v := ptr b4 0) rfl rfl rfl rfl (by kernel_rfl) rfl (fun _ _ _ h => nomatch h.1) (fun wx hS => ?_) (R229) ?_
                      · have E231 : Ext w wx := Mod.trans (E3) (hS)
                        refine WL.fieldAddr rfl fo54_0 rfl ?_
                        exact WL.nil ⟨rfl, rfl, rfl⟩
                      refine WA.take (i := 1) (m' := 3) (v := St (I.syms[i]).1) rfl rfl rfl rfl (by kernel_rfl) rfl (fun _ _ _ h => nomatch h.1) (fun wx hS => ?_) (R229) ?_
                      · have E232 : Ext w wx := Mod.trans (E3) (hS)
                        have B233 := (n4.blk).ext (hS)
                        refine WL.load1 rfl ag9 (B233.cell (j := 0) rfl) rfl ?_
                        exact WL.nil ⟨rfl, rfl, rfl⟩
                      refine WA.take (i := 2) (m' := 7) (v := IN ((I.syms[i]).1.length)) rfl rfl rfl rfl (by kernel_rfl) rfl (fun _ _ _ h => nomatch h.1) (fun wx hS => ?_) (R229) ?_
                      · have E234 : Ext w wx := Mod.trans (E3) (hS)
                        refine WL.lenSt Try.underlying9 rfl rfl ?_
                        exact WL.nil ⟨rfl, rfl, rfl⟩
                      refine WA.take (i := 3) (m' := 15) (v := .bool (decide ((((I.syms[i]).1.length : Nat) : Int) < (1 : Int)))) rfl rfl rfl rfl (by kernel_rfl) rfl (fun _ _ _ h => nomatch h.1) (fun wx hS => ?_) (R229) ?_
                      · have E235 : Ext w wx := Mod.trans (E3) (hS)
                        refine WL.bin rfl rfl rfl (BinR.lss) ?_
                        exact WL.nil ⟨rfl, rfl, rfl⟩
                      refine WA.take (i := 4) (m' := 31) (v := .bool (decide ((((I.syms[i]).1.length : Nat) : Int) < (1 : Int)))) rfl rfl rfl rfl (by kernel_rfl) rfl (fun _ _ _ h => nomatch h.1) (fun wx hS => ?_) (R229) ?_
                      · have E236 : Ext w wx := Mod.trans (E3) (hS)
                        refine WL.move (v := .bool (decide ((((I.syms[i]).1.length : Nat) : Int) < (1 : Int)))) rfl rfl ?_
                        exact WL.nil ⟨rfl, rfl, rfl⟩
                      refine WA.take (i := 5) (m' := 63) (v := ptr b4 0) rfl rfl rfl rfl (by kernel_rfl) rfl (fun _ _ _ h => nomatch h.1) (fun wx hS => ?_) (R229) ?_
                      · have E237 : Ext w wx := Mod.trans (E3) (hS)
                        refine WL.guardT (yf_bool rfl rfl hd7_60) ?_
                        refine WL.fieldAddr rfl fo54_0 rfl ?_
                        exact WL.nil ⟨rfl, rfl, rfl⟩
                      refine WA.take (i := 6) (m' := 127) (v := St (I.syms[i]).1) rfl rfl rfl rfl (by kernel_rfl) rfl (fun _ _ _ h => nomatch h.1) (fun wx hS => ?_) (R229) ?_
                      · have E238 : Ext w wx := Mod.trans (E3) (hS)
                        refine WL.guardT (yf_bool rfl rfl hd7_60) ?_
                        have B239 := (n4.blk).ext (hS)
                        refine WL.load1 rfl ag9 (B239.cell (j := 0) rfl) rfl ?_
                        exact WL.nil ⟨rfl, rfl, rfl⟩
                      refine WA.take (i := 7) (m' := 255) (v := IN ((I.syms[i]).1.length)) rfl rfl rfl rfl (by kernel_rfl) rfl (fun _ _ _ h => nomatch h.1) (fun wx hS => ?_) (R229) ?_
                      · have E240 : Ext w wx := Mod.trans (E3) (hS)
                        refine WL.guardT (yf_bool rfl rfl hd7_60) ?_
                        refine WL.lenSt Try.underlying9 rfl rfl ?_
                        exact WL.nil ⟨rfl, rfl, rfl⟩
                      refine WA.take (i := 8) (m' := 511) (v := .bool (decide ((64 : Int) < (((I.syms[i]).1.length : Nat) : Int)))) rfl rfl rfl rfl (by kernel_rfl) rfl (fun _ _ _ h => nomatch h.1) (fun wx hS => ?_) (R229) ?_
                      · have E241 : Ext w wx := Mod.trans (E3) (hS)
                        refine WL.guardT (yf_bool rfl rfl hd7_60) ?_
                        refine WL.bin rfl rfl rfl (BinR.gtr) ?_
                        exact WL.nil ⟨rfl, rfl, rfl⟩
                      refine WA.take (i := 9) (m' := 1023) (v := .bool (decide ((64 : Int) < (((I.syms[i]).1.length : Nat) : Int)))) rfl rfl rfl rfl (by kernel_rfl) rfl (fun _ _ _ h => nomatch h.1) (fun wx hS => ?_) (R229) ?_
                      · have E242 : Ext w wx := Mod.trans (E3) (hS)
                        refine WL.pick (b := false) (congrArg Value.bool hd7_60) rfl rfl ?_
                        exact WL.nil ⟨rfl, rfl, rfl⟩
                      refine WA.take (i := 10) (m' := 2047) (v := .bool (decide ((64 : Int) < (((I.syms[i]).1.length : Nat) : Int)))) rfl rfl rfl rfl (by kernel_rfl) rfl (fun _ _ _ h => nomatch h.1) (fun wx hS => ?_) (R229) ?_
                      · have E243 : Ext w wx := Mod.trans (E3) (hS)
                        refine WL.move (v := .bool (decide ((64 : Int) < (((I.syms[i]).1.length : Nat) : Int)))) rfl rfl ?_
                        exact WL.nil ⟨rfl, rfl, rfl⟩
                      refine WA.take (i := 11) (m' := 4095) (v := ptr b4 1) rfl rfl rfl rfl (by kernel_rfl) rfl (fun _ _ _ h => nomatch h.1) (fun wx hS => ?_) (R229) ?_
                      · have E244 : Ext w wx := Mod.trans (E3) (hS)
                        refine WL.guardT (yf_bool rfl rfl hd7_66) ?_
                        refine WL.fieldAddr rfl fo54_1 rfl ?_
                        exact WL.nil ⟨rfl, rfl, rfl⟩
                      refine WA.take (i := 12) (m' := 8191) (v := .int .i64 ((I.syms[i]).2)) rfl rfl rfl rfl (by kernel_rfl) rfl (fun _ _ _ h => nomatch h.1) (fun wx hS => ?_) (R229) ?_
                      · have E245 : Ext w wx := Mod.trans (E3) (hS)
                        refine WL.guardT (yf_bool rfl rfl hd7_66) ?_
                        have B246 := (n4.blk).ext (hS)
                        refine WL.load1 rfl ag3 (B246.cell (j := 1) rfl) rfl ?_
                        exact WL.nil ⟨rfl, rfl, rfl⟩
                      refine WA.take (i := 13) (m' := 16383) (v := .int .i64 ((I.syms[i]).2.tmod 4)) rfl rfl rfl rfl (by kernel_rfl) rfl (fun _ _ _ h => nomatch h.1) (fun wx hS => ?_) (R229) ?_
                      · have E247 : Ext w wx := Mod.trans (E3) (hS)
                        refine WL.guardT (yf_bool rfl rfl hd7_66) ?_
                        refine WL.bin rfl rfl rfl (BinR.remT (by decide)) ?_
                        exact WL.nil ⟨rfl, rfl, rfl⟩
                      refine WA.take (i := 14) (m' := 32767) (v := .bool ((((I.syms[i]).2.tmod 4 : Int) != (0 : Int)))) rfl rfl rfl rfl (by kernel_rfl) rfl (fun _ _ _ h => nomatch h.1) (fun wx hS => ?_) (R229) ?_
                      · have E248 : Ext w wx := Mod.trans (E3) (hS)
                        refine WL.guardT (yf_bool rfl rfl hd7_66) ?_
                        refine WL.bin rfl rfl rfl (BinR.neq) ?_
                        exact WL.nil ⟨rfl, rfl, rfl⟩
                      refine WA.take (i := 15) (m' := 65535) (v := .bool ((((I.syms[i]).2.tmod 4 : Int) != (0 : Int)))) rfl rfl rfl rfl (by kernel_rfl) rfl (fun _ _ _ h => nomatch h.1) (fun wx hS => ?_) (R229) ?_
                      · have E249 : Ext w wx := Mod.trans (E3) (hS)
                        refine WL.pick (b := false) (congrArg Value.bool hd7_66) rfl rfl ?_
                        exact WL.nil ⟨rfl, rfl, rfl⟩
                      refine WA.take (i := 16) (m' := 131071) (v := .bool ((((I.syms[i]).2.tmod 4 : Int) != (0 : Int)))) rfl rfl rfl rfl (by kernel_rfl) rfl (fun _ _ _ h => nomatch h.1) (fun wx hS => ?_) (R229) ?_
                      · have E250 : Ext w wx := Mod.trans (E3) (hS)
                        refine WL.move (v := .bool ((((I.syms[i]).2.tmod 4 : Int) != (0 : Int)))) rfl rfl ?_
                        exact WL.nil ⟨rfl, rfl, rfl⟩
                      refine WA.take (i := 17) (m' := 262143) (v := ptr b4 1) rfl rfl rfl rfl (by kernel_rfl) rfl (fun _ _ _ h => nomatch h.1) (fun wx hS => ?_) (R229) ?_
                      · have E251 : Ext w wx := Mod.trans (E3) (hS)
                        refine WL.guardT (yf_bool rfl rfl hd7_72) ?_
                        refine WL.fieldAddr rfl fo54_1 rfl ?_
                        exact WL.nil ⟨rfl, rfl, rfl⟩
                      refine WA.take (i := 18) (m' := 524287) (v := .int .i64 ((I.syms[i]).2)) rfl rfl rfl rfl (by kernel_rfl) rfl (fun _ _ _ h => nomatch h.1) (fun wx hS => ?_) (R229) ?_
                      · have E252 : Ext w wx := Mod.trans (E3) (hS)
                        refine WL.guardT (yf_bool rfl rfl hd7_72) ?_
                        have B253 := (n4.blk).ext (hS)
                        refine WL.load1 rfl ag3 (B253.cell (j := 1) rfl) rfl ?_
                        exact WL.nil ⟨rfl, rfl, rfl⟩
                      refine WA.take (i := 19) (m' := 1048575) (v := ptr b1 2) rfl rfl rfl rfl (by kernel_rfl) rfl (fun _ _ _ h => nomatch h.1) (fun wx hS => ?_) (R229) ?_
                      · have E254 : Ext w wx := Mod.trans (E3) (hS)
                        refine WL.guardT (yf_bool rfl rfl hd7_72) ?_
                        refine WL.fieldAddr h1_1 fo33_2 rfl ?_
                        exact WL.nil ⟨rfl, rfl, rfl⟩
                      refine WA.take (i := 20) (m' := 2097151) (v := wv) rfl rfl rfl rfl (by kernel_rfl) rfl (fun _ _ _ h => nomatch h.1) (fun wx hS => ?_) (R229) ?_
                      · have E255 : Ext w wx := Mod.trans (E3) (hS)
                        refine WL.guardT (yf_bool rfl rfl hd7_72) ?_
                        have B256 := ((hB).ext (n4.ext)).ext (hS)
                        refine WL.load1 rfl ag23 (B256.cell (j := 2) rfl) rfl ?_
                        exact WL.nil ⟨rfl, rfl, rfl⟩
                      refine WA.take (i := 21) (m' := 4194303) (v := IN (I.words.length)) rfl rfl rfl rfl (by kernel_rfl) rfl (fun _ _ _ h => nomatch h.1) (fun wx hS => ?_) (R229) ?_
                      · have E257 : Ext w wx := Mod.trans (E3) (hS)
                        refine WL.guardT (yf_bool rfl rfl hd7_72) ?_
                        refine WL.lenSl (sz := 1) (m := I.words.length) (xs := wordCells I.words) el23 rfl ((hR.w).ext' (E257)) rfl ?_
                        exact WL.nil ⟨rfl, rfl, rfl⟩
                      refine WA.take (i := 22) (m' := 8388607) (v := IN ((4 * I.words.length))) rfl rfl rfl rfl (by kernel_rfl) rfl (fun _ _ _ h => nomatch h.1) (fun wx hS => ?_) (R229) ?_
                      · have E258 : Ext w wx := Mod.trans (E3) (hS)
                        refine WL.guardT (yf_bool rfl rfl hd7_72) ?_
                        refine WL.bin rfl rfl rfl (BinR.mulN (a := 4) (b := I.words.length) (by omega)) ?_
                        exact WL.nil ⟨rfl, rfl, rfl⟩
                      refine WA.take (i := 23) (m' := 16777215) (v := .bool (decide ((((4 * I.words.length) : Nat) : Int) ≤ ((I.syms[i]).2 : Int)))) rfl rfl rfl rfl (by kernel_rfl) rfl (fun _ _ _ h => nomatch h.1) (fun wx hS => ?_) (R229) ?_
                      · have E259 : Ext w wx := Mod.trans (E3) (hS)
                        refine WL.guardT (yf_bool rfl rfl hd7_72) ?_
                        refine WL.bin rfl rfl rfl (BinR.geq) ?_
                        exact WL.nil ⟨rfl, rfl, rfl⟩
                      refine WA.take (i := 24) (m' := 33554431) (v := .bool (decide ((((4 * I.words.length) : Nat) : Int) ≤ ((I.syms[i]).2 : Int)))) rfl rfl rfl rfl (by kernel_rfl) rfl (fun _ _ _ h => nomatch h.1) (fun wx hS => ?_) (R229) ?_
                      · have E260 : Ext w wx := Mod.trans (E3) (hS)
                        refine WL.pick (b := false) (congrArg Value.bool hd7_72) rfl rfl ?_
                        exact WL.nil ⟨rfl, rfl, rfl⟩
                      refine WA.take (i := 25) (m' := 67108863) (v := .bool (decide ((((4 * I.words.length) : Nat) : Int) ≤ ((I.syms[i]).2 : Int)))) rfl rfl rfl rfl (by kernel_rfl) rfl (fun _ _ _ h => nomatch h.1) (fun wx hS => ?_) (R229) ?_
                      · have E261 : Ext w wx := Mod.trans (E3) (hS)
                        refine WL.move (v := .bool (decide ((((4 * I.words.length) : Nat) : Int) ≤ ((I.syms[i]).2 : Int)))) rfl rfl ?_
                        exact WL.nil ⟨rfl, rfl, rfl⟩
                      refine WA.take (i := 26) (m' := 134217727) (v := IN (i)) rfl rfl rfl rfl (by kernel_rfl) rfl (fun _ _ _ h => nomatch h.1) (fun wx hS => ?_) (R229) ?_
                      · have E262 : Ext w wx := Mod.trans (E3) (hS)
                        refine WL.guardT (yf_bool rfl rfl hd7_81) ?_
                        refine WL.move (v := IN (i)) h3_1 rfl ?_
                        exact WL.nil ⟨rfl, rfl, rfl⟩
                      refine WA.take (i := 27) (m' := 268435455) (v := .bool ((((i : Nat) : Int) == (0 : Int)))) rfl rfl rfl rfl (by kernel_rfl) rfl (fun _ _ _ h => nomatch h.1) (fun wx hS => ?_) (R229) ?_
                      · have E263 : Ext w wx := Mod.trans (E3) (hS)
                        refine WL.guardT (yf_bool rfl rfl hd7_81) ?_
                        refine WL.bin rfl rfl rfl (BinR.eql) ?_
                        exact WL.nil ⟨rfl, rfl, rfl⟩
                      refine WA.take (i := 28) (m' := 536870911) (v := .bool ((((i : Nat) : Int) == (0 : Int)))) rfl rfl rfl rfl (by kernel_rfl) rfl (fun _ _ _ h => nomatch h.1) (fun wx hS => ?_) (R229) ?_
                      · have E264 : Ext w wx := Mod.trans (E3) (hS)
                        refine WL.guardT (yf_bool rfl rfl hd7_81) ?_
                        refine WL.move (v := .bool ((((i : Nat) : Int) == (0 : Int)))) rfl rfl ?_
                        exact WL.nil ⟨rfl, rfl, rfl⟩
                      refine WA.take (i := 29) (m' := 1073741823) (v := ptr b4 1) rfl rfl rfl rfl (by kernel_rfl) rfl (fun _ _ _ h => nomatch h.1) (fun wx hS => ?_) (R229) ?_
                      · have E265 : Ext w wx := Mod.trans (E3) (hS)
                        refine WL.guardT (yf_bool rfl rfl hd7_84) ?_
                        refine WL.fieldAddr rfl fo54_1 rfl ?_
                        exact WL.nil ⟨rfl, rfl, rfl⟩
                      refine WA.take (i := 30) (m' := 2147483647) (v := .int .i64 ((I.syms[i]).2)) rfl rfl rfl rfl (by kernel_rfl) rfl (fun _ _ _ h => nomatch h.1) (fun wx hS => ?_) (R229) ?_
                      · have E266 : Ext w wx := Mod.trans (E3) (hS)
                        refine WL.guardT (yf_bool rfl rfl hd7_84) ?_
                        have B267 := (n4.blk).ext (hS)
                        refine WL.load1 rfl ag3 (B267.cell (j := 1) rfl) rfl ?_
                        exact WL.nil ⟨rfl, rfl, rfl⟩
                      refine WA.take (i := 31) (m' := 4294967295) (v := .bool ((((I.syms[i]).2 : Int) != (0 : Int)))) rfl rfl rfl rfl (by kernel_rfl) rfl (fun _ _ _ h => nomatch h.1) (fun wx hS => ?_) (R229) ?_
                      · have E268 : Ext w wx := Mod.trans (E3) (hS)
                        refine WL.guardT (yf_bool rfl rfl hd7_84) ?_
                        refine WL.bin rfl rfl rfl (BinR.neq) ?_
                        exact WL.nil ⟨rfl, rfl, rfl⟩
                      refine WA.take (i := 32) (m' := 8589934591) (v := .bool ((((I.syms[i]).2 : Int) != (0 : Int)))) rfl rfl rfl rfl (by kernel_rfl) rfl (fun _ _ _ h => nomatch h.1) (fun wx hS => ?_) (R229) ?_
                      · have E269 : Ext w wx := Mod.trans (E3) (hS)
                        refine WL.guardT (yf_bool rfl rfl hd7_81) ?_
                        refine WL.pick (b := true) (congrArg Value.bool hd7_84) rfl rfl ?_
                        exact WL.nil ⟨rfl, rfl, rfl⟩
                      refine WA.take (i := 33) (m' := 17179869183) (v := .bool ((((I.syms[i]).2 : Int) != (0 : Int)))) rfl rfl rfl rfl (by kernel_rfl) rfl (fun _ _ _ h => nomatch h.1) (fun wx hS => ?_) (R229) ?_
                      · have E270 : Ext w wx := Mod.trans (E3) (hS)
                        refine WL.pick (b := false) (congrArg Value.bool hd7_81) rfl rfl ?_
                        exact WL.nil ⟨rfl, rfl, rfl⟩
                      refine WA.take (i := 34) (m' := 34359738367) (v := .bool ((((I.syms[i]).2 : Int) != (0 : Int)))) rfl rfl rfl rfl (by kernel_rfl) rfl (fun _ _ _ h => nomatch h.1) (fun wx hS => ?_) (R229) ?_
                      · have E271 : Ext w wx := Mod.trans (E3) (hS)
                        refine WL.move (v := .bool ((((I.syms[i]).2 : Int) != (0 : Int)))) rfl rfl ?_
                        exact WL.nil ⟨rfl, rfl, rfl⟩
                      refine WA.take (i := 35) (m' := 68719476735) (v := IN (i)) rfl rfl rfl rfl (by kernel_rfl) rfl (fun _ _ _ h => nomatch h.1) (fun wx hS => ?_) (R229) ?_
                      · have E272 : Ext w wx := Mod.trans (E3) (hS)
                        refine WL.guardT (yf_bool rfl rfl hd7_90) ?_
                        refine WL.move (v := IN (i)) h3_1 rfl ?_
                        exact WL.nil ⟨rfl, rfl, rfl⟩
                      refine WA.take (i := 36) (m' := 137438953471) (v := .bool (decide ((0 : Int) < ((i : Nat) : Int)))) rfl rfl rfl rfl (by kernel_rfl) rfl (fun _ _ _ h => nomatch h.1) (fun wx hS => ?_) (R229) ?_
                      · have E273 : Ext w wx := Mod.trans (E3) (hS)
                        refine WL.guardT (yf_bool rfl rfl hd7_90) ?_
                        refine WL.bin rfl rfl rfl (BinR.gtr) ?_
                        exact WL.nil ⟨rfl, rfl, rfl⟩
                      refine WA.take (i := 37) (m' := 274877906943) (v := .bool (decide ((0 : Int) < ((i : Nat) : Int)))) rfl rfl rfl rfl (by kernel_rfl) rfl (fun _ _ _ h => nomatch h.1) (fun wx hS => ?_) (R229) ?_
                      · have E274 : Ext w wx := Mod.trans (E3) (hS)
                        refine WL.guardT (yf_bool rfl rfl hd7_90) ?_
                        refine WL.move (v := .bool (decide ((0 : Int) < ((i : Nat) : Int)))) rfl rfl ?_
                        exact WL.nil ⟨rfl, rfl, rfl⟩
                      refine WA.off (i := 38) (m' := 549755813887) (y := some false) rfl rfl rfl rfl (by kernel_rfl) rfl (fun _ _ _ h => nomatch h.1) (yf_bool rfl rfl hd7_93) rfl (R229) ?_
                      refine WA.off (i := 39) (m' := 1099511627775) (y := some false) rfl rfl rfl rfl (by kernel_rfl) rfl (fun _ _ _ h => nomatch h.1) (yf_bool rfl rfl hd7_93) rfl (R229) ?_
                      refine WA.off (i := 40) (m' := 2199023255551) (y := some false) rfl rfl rfl rfl (by kernel_rfl) rfl (fun _ _ _ h => nomatch h.1) (yf_bool rfl rfl hd7_93) rfl (R229) ?_
                      refine WA.off (i := 41) (m' := 4398046511103) (y := some false) rfl rfl rfl rfl (by kernel_rfl) rfl (fun _ _ _ h => nomatch h.1) (yf_bool rfl rfl hd7_93) rfl (R229) ?_
                      refine WA.off (i := 42) (m' := 8796093022207) (y := some false) rfl rfl rfl rfl (by kernel_rfl) rfl (fun _ _ _ h => nomatch h.1) (yf_bool rfl rfl hd7_93) rfl (R229) ?_
                      refine WA.off (i := 43) (m' := 17592186044415) (y := some false) rfl rfl rfl rfl (by kernel_rfl) rfl (fun _ _ _ h => nomatch h.1) (yf_bool rfl rfl hd7_93) rfl (R229) ?_
                      refine WA.off (i := 44) (m' := 35184372088831) (y := some false) rfl rfl rfl rfl (by kernel_rfl) rfl (fun _ _ _ h => nomatch h.1) (yf_bool rfl rfl hd7_93) rfl (R229) ?_
                      refine WA.off (i := 45) (m' := 70368744177663) (y := some false) rfl rfl rfl rfl (by kernel_rfl) rfl (fun _ _ _ h => nomatch h.1) (yf_bool rfl rfl hd7_93) rfl (R229) ?_
                      refine WA.off (i := 46) (m' := 140737488355327) (y := some false) rfl rfl rfl rfl (by kernel_rfl) rfl (fun _ _ _ h => nomatch h.1) (yf_bool rfl rfl hd7_93) rfl (R229) ?_
                      refine WA.off (i := 47) (m' := 281474976710655) (y := some false) rfl rfl rfl rfl (by kernel_rfl) rfl (fun _ _ _ h => nomatch h.1) (yf_bool rfl rfl hd7_93) rfl (R229) ?_
                      refine WA.take (i := 48) (m' := 562949953421311) (v := .bool (false)) rfl rfl rfl rfl (by kernel_rfl) rfl (fun _ _ _ h => nomatch h.1) (fun wx hS => ?_) (R229) ?_
                      · have E275 : Ext w wx := Mod.trans (E3) (hS)
                        refine WL.guardT (yf_bool rfl rfl hd7_90) ?_
                        refine WL.pick (b := false) (congrArg Value.bool hd7_93) rfl rfl ?_
                        exact WL.nil ⟨rfl, rfl, rfl⟩
                      refine WA.take (i := 49) (m' := 1125899906842623) (v := .bool (false)) rfl rfl rfl rfl (by kernel_rfl) rfl (fun _ _ _ h => nomatch h.1) (fun wx hS => ?_) (R229) ?_
                      · have E276 : Ext w wx := Mod.trans (E3) (hS)
                        refine WL.pick (b := false) (congrArg Value.bool hd7_90) rfl rfl ?_
                        exact WL.nil ⟨rfl, rfl, rfl⟩
                      refine WA.done (by kernel_rfl) ?_
                      have hcut : (false) = symBad I.words.length i (lastAt I.syms i) (I.syms[i]) := by simp only [symBad, *, Bool.true_or, Bool.or_true, Bool.false_or, Bool.or_false, Bool.true_and, Bool.and_true, Bool.false_and, Bool.and_false]
                      have B277 := ((hB).ext (n4.ext)).ext (ed_7)
                      have B278 := (n4.blk).ext (ed_7)
                      exact ⟨rfl, h0_1, h1_1, h3_1, rfl, h43_1, rfl, rfl, rfl, rfl, rfl, rfl, rfl, rfl, rfl, rfl, congrArg Value.bool hcut, B277, B278, E230⟩
                · rcases Bool.eq_false_or_eq_true (decide ((0 : Int) < ((i : Nat) : Int))) with hd7_93 | hd7_93
                  · have hi0 : 0 < i := by have := of_decide_eq_true hd7_93; omega
                    have hla := lastAt_pred I.syms i hi0 (by omega)
                    refine WC.draw (fun w_ => Ext w4 w_) 50 rfl mixed ?_
                    intro wd_7 ed_7
                    have R279 : Ext wr wd_7 := Mod.trans (R2) (ed_7)
                    have R280 : Ext w4 wd_7 := Mod.trans (Mod.refl _ _) (ed_7)
                    have E281 : Ext w wd_7 := Mod.trans (E3) (ed_7)
                    refine WA.take (i := 0) (m' := 1) (v := ptr b4 0) rfl rfl rfl rfl (by kernel_rfl) rfl (fun _ _ _ h => nomatch h.1) (fun wx hS => ?_) (R280) ?_
                    · have E282 : Ext w wx := Mod.trans (E3) (hS)
                      refine WL.fieldAddr rfl fo54_0 rfl ?_
                      exact WL.nil ⟨rfl, rfl, rfl⟩
                    refine WA.take (i := 1) (m' := 3) (v := St (I.syms[i]).1) rfl rfl rfl rfl (by kernel_rfl) rfl (fun _ _ _ h => nomatch h.1) (fun wx hS => ?_) (R280) ?_
                    · have E283 : Ext w wx := Mod.trans (E3) (hS)
                      have B284 := (n4.blk).ext (hS)
                      refine WL.load1 rfl ag9 (B284.cell (j := 0) rfl) rfl ?_
                      exact WL.nil ⟨rfl, rfl, rfl⟩
                    refine WA.take (i := 2) (m' := 7) (v := IN ((I.syms[i]).1.length)) rfl rfl rfl rfl (by kernel_rfl) rfl (fun _ _ _ h => nomatch h.1) (fun wx hS => ?_) (R280) ?_
                    · have E285 : Ext w wx := Mod.trans (E3) (hS)
                      refine WL.lenSt Try.underlying9 rfl rfl ?_
                      exact WL.nil ⟨rfl, rfl, rfl⟩
                    refine WA.take (i := 3) (m' := 15) (v := .bool (decide ((((I.syms[i]).1.length : Nat) : Int) < (1 : Int)))) rfl rfl rfl rfl (by kernel_rfl) rfl (fun _ _ _ h => nomatch h.1) (fun wx hS => ?_) (R280) ?_
                    · have E286 : Ext w wx := Mod.trans (E3) (hS)
                      refine WL.bin rfl rfl rfl (BinR.lss) ?_
                      exact WL.nil ⟨rfl, rfl, rfl⟩
                    refine WA.take (i := 4) (m' := 31) (v := .bool (decide ((((I.syms[i]).1.length : Nat) : Int) < (1 : Int)))) rfl rfl rfl rfl (by kernel_rfl) rfl (fun _ _ _ h => nomatch h.1) (fun wx hS => ?_) (R280) ?_
                    · have E287 : Ext w wx := Mod.trans (E3) (hS)
                      refine WL.move (v := .bool (decide ((((I.syms[i]).1.length : Nat) : Int) < (1 : Int)))) rfl rfl ?_
                      exact WL.nil ⟨rfl, rfl, rfl⟩
                    refine WA.take (i := 5) (m' := 63) (v := ptr b4 0) rfl rfl rfl rfl (by kernel_rfl) rfl (fun _ _ _ h => nomatch h.1) (fun wx hS => ?_) (R280) ?_
                    · have E288 : Ext w wx := Mod.trans (E3) (hS)
                      refine WL.guardT (yf_bool rfl rfl hd7_60) ?_
                      refine WL.fieldAddr rfl fo54_0 rfl ?_
                      exact WL.nil ⟨rfl, rfl, rfl⟩
                    refine WA.take (i := 6) (m' := 127) (v := St (I.syms[i]).1) rfl rfl rfl rfl (by kernel_rfl) rfl (fun _ _ _ h => nomatch h.1) (fun wx hS => ?_) (R280) ?_
                    · have E289 : Ext w wx := Mod.trans (E3) (hS)
                      refine WL.guardT (yf_bool rfl rfl hd7_60) ?_
                      have B290 := (n4.blk).ext (hS)
                      refine WL.load1 rfl ag9 (B290.cell (j := 0) rfl) rfl ?_
                      exact WL.nil ⟨rfl, rfl, rfl⟩
                    refine WA.take (i := 7) (m' := 255) (v := IN ((I.syms[i]).1.length)) rfl rfl rfl rfl (by kernel_rfl) rfl (fun _ _ _ h => nomatch h.1) (fun wx hS => ?_) (R280) ?_
                    · have E291 : Ext w wx := Mod.trans (E3) (hS)
                      refine WL.guardT (yf_bool rfl rfl hd7_60) ?_
                      refine WL.lenSt Try.underlying9 rfl rfl ?_
                      exact WL.nil ⟨rfl, rfl, rfl⟩
                    refine WA.take (i := 8) (m' := 511) (v := .bool (decide ((64 : Int) < (((I.syms[i]).1.length : Nat) : Int)))) rfl rfl rfl rfl (by kernel_rfl) rfl (fun _ _ _ h => nomatch h.1) (fun wx hS => ?_) (R280) ?_
                    · have E292 : Ext w wx := Mod.trans (E3) (hS)
                      refine WL.guardT (yf_bool rfl rfl hd7_60) ?_
                      refine WL.bin rfl rfl rfl (BinR.gtr) ?_
                      exact WL.nil ⟨rfl, rfl, rfl⟩
                    refine WA.take (i := 9) (m' := 1023) (v := .bool (decide ((64 : Int) < (((I.syms[i]).1.length : Nat) : Int)))) rfl rfl rfl rfl (by kernel_rfl) rfl (fun _ _ _ h => nomatch h.1) (fun wx hS => ?_) (R280) ?_
                    · have E293 : Ext w wx := Mod.trans (E3) (hS)
                      refine WL.pick (b := false) (congrArg Value.bool hd7_60) rfl rfl ?_
                      exact WL.nil ⟨rfl, rfl, rfl⟩
                    refine WA.take (i := 10) (m' := 2047) (v := .bool (decide ((64 : Int) < (((I.syms[i]).1.length : Nat) : Int)))) rfl rfl rfl rfl (by kernel_rfl) rfl (fun _ _ _ h => nomatch h.1) (fun wx hS => ?_) (R280) ?_
                    · have E294 : Ext w wx := Mod.trans (E3) (hS)
                      refine WL.move (v := .bool (decide ((64 : Int) < (((I.syms[i]).1.length : Nat) : Int)))) rfl rfl ?_
                      exact WL.nil ⟨rfl, rfl, rfl⟩
                    refine WA.take (i := 11) (m' := 4095) (v := ptr b4 1) rfl rfl rfl rfl (by kernel_rfl) rfl (fun _ _ _ h => nomatch h.1) (fun wx hS => ?_) (R280) ?_
                    · have E295 : Ext w wx := Mod.trans (E3) (hS)
                      refine WL.guardT (yf_bool rfl rfl hd7_66) ?_
                      refine WL.fieldAddr rfl fo54_1 rfl ?_
                      exact WL.nil ⟨rfl, rfl, rfl⟩
                    refine WA.take (i := 12) (m' := 8191) (v := .int .i64 ((I.syms[i]).2)) rfl rfl rfl rfl (by kernel_rfl) rfl (fun _ _ _ h => nomatch h.1) (fun wx hS => ?_) (R280) ?_
                    · have E296 : Ext w wx := Mod.trans (E3) (hS)
                      refine WL.guardT (yf_bool rfl rfl hd7_66) ?_
                      have B297 := (n4.blk).ext (hS)
                      refine WL.load1 rfl ag3 (B297.cell (j := 1) rfl) rfl ?_
                      exact WL.nil ⟨rfl, rfl, rfl⟩
                    refine WA.take (i := 13) (m' := 16383) (v := .int .i64 ((I.syms[i]).2.tmod 4)) rfl rfl rfl rfl (by kernel_rfl) rfl (fun _ _ _ h => nomatch h.1) (fun wx hS => ?_) (R280) ?_
                    · have E298 : Ext w wx := Mod.trans (E3) (hS)
                      refine WL.guardT (yf_bool rfl rfl hd7_66) ?_
                      refine WL.bin rfl rfl rfl (BinR.remT (by decide)) ?_
                      exact WL.nil ⟨rfl, rfl, rfl⟩
                    refine WA.take (i := 14) (m' := 32767) (v := .bool ((((I.syms[i]).2.tmod 4 : Int) != (0 : Int)))) rfl rfl rfl rfl (by kernel_rfl) rfl (fun _ _ _ h => nomatch h.1) (fun wx hS => ?_) (R280) ?_
                    · have E299 : Ext w wx := Mod.trans (E3) (hS)
                      refine WL.guardT (yf_bool rfl rfl hd7_66) ?_
                      refine WL.bin rfl rfl rfl (BinR.neq) ?_
                      exact WL.nil ⟨rfl, rfl, rfl⟩
                    refine WA.take (i := 15) (m' := 65535) (v := .bool ((((I.syms[i]).2.tmod 4 : Int) != (0 : Int)))) rfl rfl rfl rfl (by kernel_rfl) rfl (fun _ _ _ h => nomatch h.1) (fun wx hS => ?_) (R280) ?_
                    · have E300 : Ext w wx := Mod.trans (E3) (hS)
                      refine WL.pick (b := false) (congrArg Value.bool hd7_66) rfl rfl ?_
                      exact WL.nil ⟨rfl, rfl, rfl⟩
                    refine WA.take (i := 16) (m' := 131071) (v := .bool ((((I.syms[i]).2.tmod 4 : Int) != (0 : Int)))) rfl rfl rfl rfl (by kernel_rfl) rfl (fun _ _ _ h => nomatch h.1) (fun wx hS => ?_) (R280) ?_
                    · have E301 : Ext w wx := Mod.trans (E3) (hS)
                      refine WL.move (v := .bool ((((I.syms[i]).2.tmod 4 : Int) != (0 : Int)))) rfl rfl ?_
                      exact WL.nil ⟨rfl, rfl, rfl⟩
                    refine WA.take (i := 17) (m' := 262143) (v := ptr b4 1) rfl rfl rfl rfl (by kernel_rfl) rfl (fun _ _ _ h => nomatch h.1) (fun wx hS => ?_) (R280) ?_
                    · have E302 : Ext w wx := Mod.trans (E3) (hS)
                      refine WL.guardT (yf_bool rfl rfl hd7_72) ?_
                      refine WL.fieldAddr rfl fo54_1 rfl ?_
                      exact WL.nil ⟨rfl, rfl, rfl⟩
                    refine WA.take (i := 18) (m' := 524287) (v := .int .i64 ((I.syms[i]).2)) rfl rfl rfl rfl (by kernel_rfl) rfl (fun _ _ _ h => nomatch h.1) (fun wx hS => ?_) (R280) ?_
                    · have E303 : Ext w wx := Mod.trans (E3) (hS)
                      refine WL.guardT (yf_bool rfl rfl hd7_72) ?_
                      have B304 := (n4.blk).ext (hS)
                      refine WL.load1 rfl ag3 (B304.cell (j := 1) rfl) rfl ?_
                      exact WL.nil ⟨rfl, rfl, rfl⟩
                    refine WA.take (i := 19) (m' := 1048575) (v := ptr b1 2) rfl rfl rfl rfl (by kernel_rfl) rfl (fun _ _ _ h => nomatch h.1) (fun wx hS => ?_) (R280) ?_
                    · have E305 : Ext w wx := Mod.trans (E3) (hS)
                      refine WL.guardT (yf_bool rfl rfl hd7_72) ?_
                      refine WL.fieldAddr h1_1 fo33_2 rfl ?_
                      exact WL.nil ⟨rfl, rfl, rfl⟩
                    refine WA.take (i := 20) (m' := 2097151) (v := wv) rfl rfl rfl rfl (by kernel_rfl) rfl (fun _ _ _ h => nomatch h.1) (fun wx hS => ?_) (R280) ?_
                    · have E306 : Ext w wx := Mod.trans (E3) (hS)
                      refine WL.guardT (yf_bool rfl rfl hd7_72) ?_
                      have B307 := ((hB).ext (n4.ext)).ext (hS)
                      refine WL.load1 rfl ag23 (B307.cell (j := 2) rfl) rfl ?_
                      exact WL.nil ⟨rfl, rfl, rfl⟩
                    refine WA.take (i := 21) (m' := 4194303) (v := IN (I.words.length)) rfl rfl rfl rfl (by kernel_rfl) rfl (fun _ _ _ h => nomatch h.1) (fun wx hS => ?_) (R280) ?_
                    · have E308 : Ext w wx := Mod.trans (E3) (hS)
                      refine WL.guardT (yf_bool rfl rfl hd7_72) ?_
                      refine WL.lenSl (sz := 1) (m := I.words.length) (xs := wordCells I.words) el23 rfl ((hR.w).ext' (E308)) rfl ?_
                      exact WL.nil ⟨rfl, rfl, rfl⟩
                    refine WA.take (i := 22) (m' := 8388607) (v := IN ((4 * I.words.length))) rfl rfl rfl rfl (by kernel_rfl) rfl (fun _ _ _ h => nomatch h.1) (fun wx hS => ?_) (R280) ?_
                    · have E309 : Ext w wx := Mod.trans (E3) (hS)
                      refine WL.guardT (yf_bool rfl rfl hd7_72) ?_
                      refine WL.bin rfl rfl rfl (BinR.mulN (a := 4) (b := I.words.length) (by omega)) ?_
                      exact WL.nil ⟨rfl, rfl, rfl⟩
                    refine WA.take (i := 23) (m' := 16777215) (v := .bool (decide ((((4 * I.words.length) : Nat) : Int) ≤ ((I.syms[i]).2 : Int)))) rfl rfl rfl rfl (by kernel_rfl) rfl (fun _ _ _ h => nomatch h.1) (fun wx hS => ?_) (R280) ?_
                    · have E310 : Ext w wx := Mod.trans (E3) (hS)
                      refine WL.guardT (yf_bool rfl rfl hd7_72) ?_
                      refine WL.bin rfl rfl rfl (BinR.geq) ?_
                      exact WL.nil ⟨rfl, rfl, rfl⟩
                    refine WA.take (i := 24) (m' := 33554431) (v := .bool (decide ((((4 * I.words.length) : Nat) : Int) ≤ ((I.syms[i]).2 : Int)))) rfl rfl rfl rfl (by kernel_rfl) rfl (fun _ _ _ h => nomatch h.1) (fun wx hS => ?_) (R280) ?_
                    · have E311 : Ext w wx := Mod.trans (E3) (hS)
                      refine WL.pick (b := false) (congrArg Value.bool hd7_72) rfl rfl ?_
                      exact WL.nil ⟨rfl, rfl, rfl⟩
                    refine WA.take (i := 25) (m' := 67108863) (v := .bool (decide ((((4 * I.words.length) : Nat) : Int) ≤ ((I.syms[i]).2 : Int)))) rfl rfl rfl rfl (by kernel_rfl) rfl (fun _ _ _ h => nomatch h.1) (fun wx hS => ?_) (R280) ?_
                    · have E312 : Ext w wx := Mod.trans (E3) (hS)
                      refine WL.move (v := .bool (decide ((((4 * I.words.length) : Nat) : Int) ≤ ((I.syms[i]).2 : Int)))) rfl rfl ?_
                      exact WL.nil ⟨rfl, rfl, rfl⟩
                    refine WA.take (i := 26) (m' := 134217727) (v := IN (i)) rfl rfl rfl rfl (by kernel_rfl) rfl (fun _ _ _ h => nomatch h.1) (fun wx hS => ?_) (R280) ?_
                    · have E313 : Ext w wx := Mod.trans (E3) (hS)
                      refine WL.guardT (yf_bool rfl rfl hd7_81) ?_
                      refine WL.move (v := IN (i)) h3_1 rfl ?_
                      exact WL.nil ⟨rfl, rfl, rfl⟩
                    refine WA.take (i := 27) (m' := 268435455) (v := .bool ((((i : Nat) : Int) == (0 : Int)))) rfl rfl rfl rfl (by kernel_rfl) rfl (fun _ _ _ h => nomatch h.1) (fun wx hS => ?_) (R280) ?_
                    · have E314 : Ext w wx := Mod.trans (E3) (hS)
                      refine WL.guardT (yf_bool rfl rfl hd7_81) ?_
                      refine WL.bin rfl rfl rfl (BinR.eql) ?_
                      exact WL.nil ⟨rfl, rfl, rfl⟩
                    refine WA.take (i := 28) (m' := 536870911) (v := .bool ((((i : Nat) : Int) == (0 : Int)))) rfl rfl rfl rfl (by kernel_rfl) rfl (fun _ _ _ h => nomatch h.1) (fun wx hS => ?_) (R280) ?_
                    · have E315 : Ext w wx := Mod.trans (E3) (hS)
                      refine WL.guardT (yf_bool rfl rfl hd7_81) ?_
                      refine WL.move (v := .bool ((((i : Nat) : Int) == (0 : Int)))) rfl rfl ?_
                      exact WL.nil ⟨rfl, rfl, rfl⟩
                    refine WA.off (i := 29) (m' := 1073741823) (y := some false) rfl rfl rfl rfl (by kernel_rfl) rfl (fun _ _ _ h => nomatch h.1) (yf_bool rfl rfl hd7_84) rfl (R280) ?_
                    refine WA.off (i := 30) (m' := 2147483647) (y := some false) rfl rfl rfl rfl (by kernel_rfl) rfl (fun _ _ _ h => nomatch h.1) (yf_bool rfl rfl hd7_84) rfl (R280) ?_
                    refine WA.off (i := 31) (m' := 4294967295) (y := some false) rfl rfl rfl rfl (by kernel_rfl) rfl (fun _ _ _ h => nomatch h.1) (yf_bool rfl rfl hd7_84) rfl (R280) ?_
                    refine WA.take (i := 32) (m' := 8589934591) (v := .bool (false)) rfl rfl rfl rfl (by kernel_rfl) rfl (fun _ _ _ h => nomatch h.1) (fun wx hS => ?_) (R280) ?_
                    · have E316 : Ext w wx := Mod.trans (E3) (hS)
                      refine WL.guardT (yf_bool rfl rfl hd7_81) ?_
                      refine WL.pick (b := false) (congrArg Value.bool hd7_84) rfl rfl ?_
                      exact WL.nil ⟨rfl, rfl, rfl⟩
                    refine WA.take (i := 33) (m' := 17179869183) (v := .bool (false)) rfl rfl rfl rfl (by kernel_rfl) rfl (fun _ _ _ h => nomatch h.1) (fun wx hS => ?_) (R280) ?_
                    · have E317 : Ext w wx := Mod.trans (E3) (hS)
                      refine WL.pick (b := false) (congrArg Value.bool hd7_81) rfl rfl ?_
                      exact WL.nil ⟨rfl, rfl, rfl⟩
                    refine WA.take (i := 34) (m' := 34359738367) (v := .bool (false)) rfl rfl rfl rfl (by kernel_rfl) rfl (fun _ _ _ h => nomatch h.1) (fun wx hS => ?_) (R280) ?_
                    · have E318 : Ext w wx := Mod.trans (E3) (hS)
                      refine WL.move (v := .bool (false)) rfl rfl ?_
                      exact WL.nil ⟨rfl, rfl, rfl⟩
                    refine WA.take (i := 35) (m' := 68719476735) (v := IN (i)) rfl rfl rfl rfl (by kernel_rfl) rfl (fun _ _ _ h => nomatch h.1) (fun wx hS => ?_) (R280) ?_
                    · have E319 : Ext w wx := Mod.trans (E3) (hS)
                      refine WL.guardT (rfl) ?_
                      refine WL.move (v := IN (i)) h3_1 rfl ?_
                      exact WL.nil ⟨rfl, rfl, rfl⟩
                    refine WA.take (i := 36) (m' := 137438953471) (v := .bool (decide ((0 : Int) < ((i : Nat) : Int)))) rfl rfl rfl rfl (by kernel_rfl) rfl (fun _ _ _ h => nomatch h.1) (fun wx hS => ?_) (R280) ?_
                    · have E320 : Ext w wx := Mod.trans (E3) (hS)
                      refine WL.guardT (rfl) ?_
                      refine WL.bin rfl rfl rfl (BinR.gtr) ?_
                      exact WL.nil ⟨rfl, rfl, rfl⟩
                    refine WA.take (i := 37) (m' := 274877906943) (v := .bool (decide ((0 : Int) < ((i : Nat) : Int)))) rfl rfl rfl rfl (by kernel_rfl) rfl (fun _ _ _ h => nomatch h.1) (fun wx hS => ?_) (R280) ?_
                    · have E321 : Ext w wx := Mod.trans (E3) (hS)
                      refine WL.guardT (rfl) ?_
                      refine WL.move (v := .bool (decide ((0 : Int) < ((i : Nat) : Int)))) rfl rfl ?_
                      exact WL.nil ⟨rfl, rfl, rfl⟩
                    refine WA.take (i := 38) (m' := 549755813887) (v := ptr b4 1) rfl rfl rfl rfl (by kernel_rfl) rfl (fun _ _ _ h => nomatch h.1) (fun wx hS => ?_) (R280) ?_
                    · have E322 : Ext w wx := Mod.trans (E3) (hS)
                      refine WL.guardT (yf_bool rfl rfl hd7_93) ?_
                      refine WL.fieldAddr rfl fo54_1 rfl ?_
                      exact WL.nil ⟨rfl, rfl, rfl⟩
                    refine WA.take (i := 39) (m' := 1099511627775) (v := .int .i64 ((I.syms[i]).2)) rfl rfl rfl rfl (by kernel_rfl) rfl (fun _ _ _ h => nomatch h.1) (fun wx hS => ?_) (R280) ?_
                    · have E323 : Ext w wx := Mod.trans (E3) (hS)
                      refine WL.guardT (yf_bool rfl rfl hd7_93) ?_
                      have B324 := (n4.blk).ext (hS)
                      refine WL.load1 rfl ag3 (B324.cell (j := 1) rfl) rfl ?_
                      exact WL.nil ⟨rfl, rfl, rfl⟩
                    refine WA.take (i := 40) (m' := 2199023255551) (v := ptr b1 1) rfl rfl rfl rfl (by kernel_rfl) rfl (fun _ _ _ h => nomatch h.1) (fun wx hS => ?_) (R280) ?_
                    · have E325 : Ext w wx := Mod.trans (E3) (hS)
                      refine WL.guardT (yf_bool rfl rfl hd7_93) ?_
                      refine WL.fieldAddr h1_1 fo33_1 rfl ?_
                      exact WL.nil ⟨rfl, rfl, rfl⟩
                    refine WA.take (i := 41) (m' := 4398046511103) (v := sv) rfl rfl rfl rfl (by kernel_rfl) rfl (fun _ _ _ h => nomatch h.1) (fun wx hS => ?_) (R280) ?_
                    · have E326 : Ext w wx := Mod.trans (E3) (hS)
                      refine WL.guardT (yf_bool rfl rfl hd7_93) ?_
                      have B327 := ((hB).ext (n4.ext)).ext (hS)
                      refine WL.load1 rfl ag31 (B327.cell (j := 1) rfl) rfl ?_
                      exact WL.nil ⟨rfl, rfl, rfl⟩
                    refine WA.take (i := 42) (m' := 8796093022207) (v := IN (i)) rfl rfl rfl rfl (by kernel_rfl) rfl (fun _ _ _ h => nomatch h.1) (fun wx hS => ?_) (R280) ?_
                    · have E328 : Ext w wx := Mod.trans (E3) (hS)
                      refine WL.guardT (yf_bool rfl rfl hd7_93) ?_
                      refine WL.move (v := IN (i)) h3_1 rfl ?_
                      exact WL.nil ⟨rfl, rfl, rfl⟩
                    refine WA.take (i := 43) (m' := 17592186044415) (v := IN ((i - 1))) rfl rfl rfl rfl (by kernel_rfl) rfl (fun _ _ _ h => nomatch h.1) (fun wx hS => ?_) (R280) ?_
                    · have E329 : Ext w wx := Mod.trans (E3) (hS)
                      refine WL.guardT (yf_bool rfl rfl hd7_93) ?_
                      refine WL.bin rfl rfl rfl (BinR.subN (a := i) (b := 1) (by omega) (by omega)) ?_
                      exact WL.nil ⟨rfl, rfl, rfl⟩
                    refine WA.take (i := 44) (m' := 35184372088831) (v := ptr bs0 (os0 + ((i - 1)) * 2)) rfl rfl rfl rfl (by kernel_rfl) rfl (fun _ _ _ h => nomatch h.1) (fun wx hS => ?_) (R280) ?_
                    · have E330 : Ext w wx := Mod.trans (E3) (hS)
                      refine WL.guardT (yf_bool rfl rfl hd7_93) ?_
                      refine WL.indexAddr (i := (i - 1)) (b := bs0) (o := os0) el31 sz54 (Eq.trans (rfl) es0) rfl (by omega) rfl ?_
                      exact WL.nil ⟨rfl, rfl, rfl⟩
                    refine WA.take (i := 45) (m' := 70368744177663) (v := ptr bs0 ((os0 + ((i - 1)) * 2) + 1)) rfl rfl rfl rfl (by kernel_rfl) rfl (fun _ _ _ h => nomatch h.1) (fun wx hS => ?_) (R280) ?_
                    · have E331 : Ext w wx := Mod.trans (E3) (hS)
                      refine WL.guardT (yf_bool rfl rfl hd7_93) ?_
                      refine WL.fieldAddr rfl fo54_1 rfl ?_
                      exact WL.nil ⟨rfl, rfl, rfl⟩
                    refine WA.take (i := 46) (m' := 140737488355327) (v := .int .i64 ((I.syms[i - 1]).2)) rfl rfl rfl rfl (by kernel_rfl) rfl (fun _ _ _ h => nomatch h.1) (fun wx hS => ?_) (R280) ?_
                    · have E332 : Ext w wx := Mod.trans (E3) (hS)
                      refine WL.guardT (yf_bool rfl rfl hd7_93) ?_
                      refine WL.load1 rfl ag3 ((hcs0.ext (E332)) ((i - 1) * 2 + 1) _ (symCells_get I.syms (i - 1) (by omega)).2) rfl ?_
                      exact WL.nil ⟨rfl, rfl, rfl⟩
                    refine WA.take (i := 47) (m' := 281474976710655) (v := .bool (decide (((I.syms[i]).2 : Int) ≤ ((I.syms[i - 1]).2 : Int)))) rfl rfl rfl rfl (by kernel_rfl) rfl (fun _ _ _ h => nomatch h.1) (fun wx hS => ?_) (R280) ?_
                    · have E333 : Ext w wx := Mod.trans (E3) (hS)
                      refine WL.guardT (yf_bool rfl rfl hd7_93) ?_
                      refine WL.bin rfl rfl rfl (BinR.leq) ?_
                      exact WL.nil ⟨rfl, rfl, rfl⟩
                    refine WA.take (i := 48) (m' := 562949953421311) (v := .bool (decide (((I.syms[i]).2 : Int) ≤ ((I.syms[i - 1]).2 : Int)))) rfl rfl rfl rfl (by kernel_rfl) rfl (fun _ _ _ h => nomatch h.1) (fun wx hS => ?_) (R280) ?_
                    · have E334 : Ext w wx := Mod.trans (E3) (hS)
                      refine WL.guardT (rfl) ?_
                      refine WL.pick (b := true) (congrArg Value.bool hd7_93) rfl rfl ?_
                      exact WL.nil ⟨rfl, rfl, rfl⟩
                    refine WA.take (i := 49) (m' := 1125899906842623) (v := .bool (decide (((I.syms[i]).2 : Int) ≤ ((I.syms[i - 1]).2 : Int)))) rfl rfl rfl rfl (by kernel_rfl) rfl (fun _ _ _ h => nomatch h.1) (fun wx hS => ?_) (R280) ?_
                    · have E335 : Ext w wx := Mod.trans (E3) (hS)
                      refine WL.pick (b := false) rfl rfl rfl ?_
                      exact WL.nil ⟨rfl, rfl, rfl⟩
                    refine WA.done (by kernel_rfl) ?_
                    have hcut : (decide (((I.syms[i]).2 : Int) ≤ ((I.syms[i - 1]).2 : Int))) = symBad I.words.length i (lastAt I.syms i) (I.syms[i]) := by simp only [symBad, *, Bool.true_or, Bool.or_true, Bool.false_or, Bool.or_false, Bool.true_and, Bool.and_true, Bool.false_and, Bool.and_false]
                    have B336 := ((hB).ext (n4.ext)).ext (ed_7)
                    have B337 := (n4.blk).ext (ed_7)
                    exact ⟨rfl, h0_1, h1_1, h3_1, rfl, h43_1, rfl, rfl, rfl, rfl, rfl, rfl, rfl, rfl, rfl, rfl, congrArg Value.bool hcut, B336, B337, E281⟩
                  · refine WC.draw (fun w_ => Ext w4 w_) 50 rfl mixed ?_
                    intro wd_7 ed_7
                    have R338 : Ext wr wd_7 := Mod.trans (R2) (ed_7)
                    have R339 : Ext w4 wd_7 := Mod.trans (Mod.refl _ _) (ed_7)
                    have E340 : Ext w wd_7 := Mod.trans (E3) (ed_7)
                    refine WA.take (i := 0) (m' := 1) (v := ptr b4 0) rfl rfl rfl rfl (by kernel_rfl) rfl (fun _ _ _ h => nomatch h.1) (fun wx hS => ?_) (R339) ?_
                    · have E341 : Ext w wx := Mod.trans (E3) (hS)
                      refine WL.fieldAddr rfl fo54_0 rfl ?_
                      exact WL.nil ⟨rfl, rfl, rfl⟩
                    refine WA.take (i := 1) (m' := 3) (v := St (I.syms[i]).1) rfl rfl rfl rfl (by kernel_rfl) rfl (fun _ _ _ h => nomatch h.1) (fun wx hS => ?_) (R339) ?_
                    · have E342 : Ext w wx := Mod.trans (E3) (hS)
                      have B343 := (n4.blk).ext (hS)
                      refine WL.load1 rfl ag9 (B343.cell (j := 0) rfl) rfl ?_
                      exact WL.nil ⟨rfl, rfl, rfl⟩
                    refine WA.take (i := 2) (m' := 7) (v := IN ((I.syms[i]).1.length)) rfl rfl rfl rfl (by kernel_rfl) rfl (fun _ _ _ h => nomatch h.1) (fun wx hS => ?_) (R339) ?_
                    · have E344 : Ext w wx := Mod.trans (E3) (hS)
                      refine WL.lenSt Try.underlying9 rfl rfl ?_
                      exact WL.nil ⟨rfl, rfl, rfl⟩
                    refine WA.take (i := 3) (m' := 15) (v := .bool (decide ((((I.syms[i]).1.length : Nat) : Int) < (1 : Int)))) rfl rfl rfl rfl (by kernel_rfl) rfl (fun _ _ _ h => nomatch h.1) (fun wx hS => ?_) (R339) ?_
                    · have E345 : Ext w wx := Mod.trans (E3) (hS)
                      refine WL.bin rfl rfl rfl (BinR.lss) ?_
                      exact WL.nil ⟨rfl, rfl, rfl⟩
                    refine WA.take (i := 4) (m' := 31) (v := .bool (decide ((((I.syms[i]).1.length : Nat) : Int) < (1 : Int)))) rfl rfl rfl rfl (by kernel_rfl) rfl (fun _ _ _ h => nomatch h.1) (fun wx hS => ?_) (R339) ?_
                    · have E346 : Ext w wx := Mod.trans (E3) (hS)
                      refine WL.move (v := .bool (decide ((((I.syms[i]).1.length : Nat) : Int) < (1 : Int)))) rfl rfl ?_
                      exact WL.nil ⟨rfl, rfl, rfl⟩
                    refine WA.take (i := 5) (m' := 63) (v := ptr b4 0) rfl rfl rfl rfl (by kernel_rfl) rfl (fun _ _ _ h => nomatch h.1) (fun wx hS => ?_) (R339) ?_
                    · have E347 : Ext w wx := Mod.trans (E3) (hS)
                      refine WL.guardT (yf_bool rfl rfl hd7_60) ?_
                      refine WL.fieldAddr rfl fo54_0 rfl ?_
                      exact WL.nil ⟨rfl, rfl, rfl⟩
                    refine WA.take (i := 6) (m' := 127) (v := St (I.syms[i]).1) rfl rfl rfl rfl (by kernel_rfl) rfl (fun _ _ _ h => nomatch h.1) (fun wx hS => ?_) (R339) ?_
                    · have E348 : Ext w wx := Mod.trans (E3) (hS)
                      refine WL.guardT (yf_bool rfl rfl hd7_60) ?_
                      have B349 := (n4.blk).ext (hS)
                      refine WL.load1 rfl ag9 (B349.cell (j := 0) rfl) rfl ?_
                      exact WL.nil ⟨rfl, rfl, rfl⟩
                    refine WA.take (i := 7) (m' := 255) (v := IN ((I.syms[i]).1.length)) rfl rfl rfl rfl (by kernel_rfl) rfl (fun _ _ _ h => nomatch h.1) (fun wx hS => ?_) (R339) ?_
                    · have E350 : Ext w wx := Mod.trans (E3) (hS)
                      refine WL.guardT (yf_bool rfl rfl hd7_60) ?_
                      refine WL.lenSt Try.underlying9 rfl rfl ?_
                      exact WL.nil ⟨rfl, rfl, rfl⟩
                    refine WA.take (i := 8) (m' := 511) (v := .bool (decide ((64 : Int) < (((I.syms[i]).1.length : Nat) : Int)))) rfl rfl rfl rfl (by kernel_rfl) rfl (fun _ _ _ h => nomatch h.1) (fun wx hS => ?_) (R339) ?_
                    · have E351 : Ext w wx := Mod.trans (E3) (hS)
                      refine WL.guardT (yf_bool rfl rfl hd7_60) ?_
                      refine WL.bin rfl rfl rfl (BinR.gtr) ?_
                      exact WL.nil ⟨rfl, rfl, rfl⟩
                    refine WA.take (i := 9) (m' := 1023) (v := .bool (decide ((64 : Int) < (((I.syms[i]).1.length : Nat) : Int)))) rfl rfl rfl rfl (by kernel_rfl) rfl (fun _ _ _ h => nomatch h.1) (fun wx hS => ?_) (R339) ?_
                    · have E352 : Ext w wx := Mod.trans (E3) (hS)
                      refine WL.pick (b := false) (congrArg Value.bool hd7_60) rfl rfl ?_
                      exact WL.nil ⟨rfl, rfl, rfl⟩
                    refine WA.take (i := 10) (m' := 2047) (v := .bool (decide ((64 : Int) < (((I.syms[i]).1.length : Nat) : Int)))) rfl rfl rfl rfl (by kernel_rfl) rfl (fun _ _ _ h => nomatch h.1) (fun wx hS => ?_) (R339) ?_
                    · have E353 : Ext w wx := Mod.trans (E3) (hS)
                      refine WL.move (v := .bool (decide ((64 : Int) < (((I.syms[i]).1.length : Nat) : Int)))) rfl rfl ?_
                      exact WL.nil ⟨rfl, rfl, rfl⟩
                    refine WA.take (i := 11) (m' := 4095) (v := ptr b4 1) rfl rfl rfl rfl (by kernel_rfl) rfl (fun _ _ _ h => nomatch h.1) (fun wx hS => ?_) (R339) ?_
                    · have E354 : Ext w wx := Mod.trans (E3) (hS)
                      refine WL.guardT (yf_bool rfl rfl hd7_66) ?_
                      refine WL.fieldAddr rfl fo54_1 rfl ?_
                      exact WL.nil ⟨rfl, rfl, rfl⟩
                    refine WA.take (i := 12) (m' := 8191) (v := .int .i64 ((I.syms[i]).2)) rfl rfl rfl rfl (by kernel_rfl) rfl (fun _ _ _ h => nomatch h.1) (fun wx hS => ?_) (R339) ?_
                    · have E355 : Ext w wx := Mod.trans (E3) (hS)
                      refine WL.guardT (yf_bool rfl rfl hd7_66) ?_
                      have B356 := (n4.blk).ext (hS)
                      refine WL.load1 rfl ag3 (B356.cell (j := 1) rfl) rfl ?_
                      exact WL.nil ⟨rfl, rfl, rfl⟩
                    refine WA.take (i := 13) (m' := 16383) (v := .int .i64 ((I.syms[i]).2.tmod 4)) rfl rfl rfl rfl (by kernel_rfl) rfl (fun _ _ _ h => nomatch h.1) (fun wx hS => ?_) (R339) ?_
                    · have E357 : Ext w wx := Mod.trans (E3) (hS)
                      refine WL.guardT (yf_bool rfl rfl hd7_66) ?_
                      refine WL.bin rfl rfl rfl (BinR.remT (by decide)) ?_
                      exact WL.nil ⟨rfl, rfl, rfl⟩
                    refine WA.take (i := 14) (m' := 32767) (v := .bool ((((I.syms[i]).2.tmod 4 : Int) != (0 : Int)))) rfl rfl rfl rfl (by kernel_rfl) rfl (fun _ _ _ h => nomatch h.1) (fun wx hS => ?_) (R339) ?_
                    · have E358 : Ext w wx := Mod.trans (E3) (hS)
                      refine WL.guardT (yf_bool rfl rfl hd7_66) ?_
                      refine WL.bin rfl rfl rfl (BinR.neq) ?_
                      exact WL.nil ⟨rfl, rfl, rfl⟩
                    refine WA.take (i := 15) (m' := 65535) (v := .bool ((((I.syms[i]).2.tmod 4 : Int) != (0 : Int)))) rfl rfl rfl rfl (by kernel_rfl) rfl (fun _ _ _ h => nomatch h.1) (fun wx hS => ?_) (R339) ?_
                    · have E359 : Ext w wx := Mod.trans (E3) (hS)
                      refine WL.pick (b := false) (congrArg Value.bool hd7_66) rfl rfl ?_
                      exact WL.nil ⟨rfl, rfl, rfl⟩
                    refine WA.take (i := 16) (m' := 131071) (v := .bool ((((I.syms[i]).2.tmod 4 : Int) != (0 : Int)))) rfl rfl rfl rfl (by kernel_rfl) rfl (fun _ _ _ h => nomatch h.1) (fun wx hS => ?_) (R339) ?_
                    · have E360 : Ext w wx := Mod.trans (E3) (hS)
                      refine WL.move (v := .bool ((((I.syms[i]).2.tmod 4 : Int) != (0 : Int)))) rfl rfl ?_
                      exact WL.nil ⟨rfl, rfl, rfl⟩
                    refine WA.take (i := 17) (m' := 262143) (v := ptr b4 1) rfl rfl rfl rfl (by kernel_rfl) rfl (fun _ _ _ h => nomatch h.1) (fun wx hS => ?_) (R339) ?_
                    · have E361 : Ext w wx := Mod.trans (E3) (hS)
                      refine WL.guardT (yf_bool rfl rfl hd7_72) ?_
                      refine WL.fieldAddr rfl fo54_1 rfl ?_
                      exact WL.nil ⟨rfl, rfl, rfl⟩
                    refine WA.take (i := 18) (m' := 524287) (v := .int .i64 ((I.syms[i]).2)) rfl rfl rfl rfl (by kernel_rfl) rfl (fun _ _ _ h => nomatch h.1) (fun wx hS => ?_) (R339) ?_
                    · have E362 : Ext w wx := Mod.trans (E3) (hS)
                      refine WL.guardT (yf_bool rfl rfl hd7_72) ?_
                      have B363 := (n4.blk).ext (hS)
                      refine WL.load1 rfl ag3 (B363.cell (j := 1) rfl) rfl ?_
                      exact WL.nil ⟨rfl, rfl, rfl⟩
                    refine WA.take (i := 19) (m' := 1048575) (v := ptr b1 2) rfl rfl rfl rfl (by kernel_rfl) rfl (fun _ _ _ h => nomatch h.1) (fun wx hS => ?_) (R339) ?_
                    · have E364 : Ext w wx := Mod.trans (E3) (hS)
                      refine WL.guardT (yf_bool rfl rfl hd7_72) ?_
                      refine WL.fieldAddr h1_1 fo33_2 rfl ?_
                      exact WL.nil ⟨rfl, rfl, rfl⟩
                    refine WA.take (i := 20) (m' := 2097151) (v := wv) rfl rfl rfl rfl (by kernel_rfl) rfl (fun _ _ _ h => nomatch h.1) (fun wx hS => ?_) (R339) ?_
                    · have E365 : Ext w wx := Mod.trans (E3) (hS)
                      refine WL.guardT (yf_bool rfl rfl hd7_72) ?_
                      have B366 := ((hB).ext (n4.ext)).ext (hS)
                      refine WL.load1 rfl ag23 (B366.cell (j := 2) rfl) rfl ?_
                      exact WL.nil ⟨rfl, rfl, rfl⟩
                    refine WA.take (i := 21) (m' := 4194303) (v := IN (I.words.length)) rfl rfl rfl rfl (by kernel_rfl) rfl (fun _ _ _ h => nomatch h.1) (fun wx hS => ?_) (R339) ?_
                    · have E367 : Ext w wx := Mod.trans (E3) (hS)
                      refine WL.guardT (yf_bool rfl rfl hd7_72) ?_
                      refine WL.lenSl (sz := 1) (m := I.words.length) (xs := wordCells I.words) el23 rfl ((hR.w).ext' (E367)) rfl ?_
                      exact WL.nil ⟨rfl, rfl, rfl⟩
                    refine WA.take (i := 22) (m' := 8388607) (v := IN ((4 * I.words.length))) rfl rfl rfl rfl (by kernel_rfl) rfl (fun _ _ _ h => nomatch h.1) (fun wx hS => ?_) (R339) ?_
                    · have E368 : Ext w wx := Mod.trans (E3) (hS)
                      refine WL.guardT (yf_bool rfl rfl hd7_72) ?_
                      refine WL.bin rfl rfl rfl (BinR.mulN (a := 4) (b := I.words.length) (by omega)) ?_
                      exact WL.nil ⟨rfl, rfl, rfl⟩
                    refine WA.take (i := 23) (m' := 16777215) (v := .bool (decide ((((4 * I.words.length) : Nat) : Int) ≤ ((I.syms[i]).2 : Int)))) rfl rfl rfl rfl (by kernel_rfl) rfl (fun _ _ _ h => nomatch h.1) (fun wx hS => ?_) (R339) ?_
                    · have E369 : Ext w wx := Mod.trans (E3) (hS)
                      refine WL.guardT (yf_bool rfl rfl hd7_72) ?_
                      refine WL.bin rfl rfl rfl (BinR.geq) ?_
                      exact WL.nil ⟨rfl, rfl, rfl⟩
                    refine WA.take (i := 24) (m' := 33554431) (v := .bool (decide ((((4 * I.words.length) : Nat) : Int) ≤ ((I.syms[i]).2 : Int)))) rfl rfl rfl rfl (by kernel_rfl) rfl (fun _ _ _ h => nomatch h.1) (fun wx hS => ?_) (R339) ?_
                    · have E370 : Ext w wx := Mod.trans (E3) (hS)
                      refine WL.pick (b := false) (congrArg Value.bool hd7_72) rfl rfl ?_
                      exact WL.nil ⟨rfl, rfl, rfl⟩
                    refine WA.take (i := 25) (m' := 67108863) (v := .bool (decide ((((4 * I.words.length) : Nat) : Int) ≤ ((I.syms[i]).2 : Int)))) rfl rfl rfl rfl (by kernel_rfl) rfl (fun _ _ _ h => nomatch h.1) (fun wx hS => ?_) (R339) ?_
                    · have E371 : Ext w wx := Mod.trans (E3) (hS)
                      refine WL.move (v := .bool (decide ((((4 * I.words.length) : Nat) : Int) ≤ ((I.syms[i]).2 : Int)))) rfl rfl ?_
                      exact WL.nil ⟨rfl, rfl, rfl⟩
                    refine WA.take (i := 26) (m' := 134217727) (v := IN (i)) rfl rfl rfl rfl (by kernel_rfl) rfl (fun _ _ _ h => nomatch h.1) (fun wx hS => ?_) (R339) ?_
                    · have E372 : Ext w wx := Mod.trans (E3) (hS)
                      refine WL.guardT (yf_bool rfl rfl hd7_81) ?_
                      refine WL.move (v := IN (i)) h3_1 rfl ?_
                      exact WL.nil ⟨rfl, rfl, rfl⟩
                    refine WA.take (i := 27) (m' := 268435455) (v := .bool ((((i : Nat) : Int) == (0 : Int)))) rfl rfl rfl rfl (by kernel_rfl) rfl (fun _ _ _ h => nomatch h.1) (fun wx hS => ?_) (R339) ?_
                    · have E373 : Ext w wx := Mod.trans (E3) (hS)
                      refine WL.guardT (yf_bool rfl rfl hd7_81) ?_
                      refine WL.bin rfl rfl rfl (BinR.eql) ?_
                      exact WL.nil ⟨rfl, rfl, rfl⟩
                    refine WA.take (i := 28) (m' := 536870911) (v := .bool ((((i : Nat) : Int) == (0 : Int)))) rfl rfl rfl rfl (by kernel_rfl) rfl (fun _ _ _ h => nomatch h.1) (fun wx hS => ?_) (R339) ?_
                    · have E374 : Ext w wx := Mod.trans (E3) (hS)
                      refine WL.guardT (yf_bool rfl rfl hd7_81) ?_
                      refine WL.move (v := .bool ((((i : Nat) : Int) == (0 : Int)))) rfl rfl ?_
                      exact WL.nil ⟨rfl, rfl, rfl⟩
                    refine WA.off (i := 29) (m' := 1073741823) (y := some false) rfl rfl rfl rfl (by kernel_rfl) rfl (fun _ _ _ h => nomatch h.1) (yf_bool rfl rfl hd7_84) rfl (R339) ?_
                    refine WA.off (i := 30) (m' := 2147483647) (y := some false) rfl rfl rfl rfl (by kernel_rfl) rfl (fun _ _ _ h => nomatch h.1) (yf_bool rfl rfl hd7_84) rfl (R339) ?_
                    refine WA.off (i := 31) (m' := 4294967295) (y := some false) rfl rfl rfl rfl (by kernel_rfl) rfl (fun _ _ _ h => nomatch h.1) (yf_bool rfl rfl hd7_84) rfl (R339) ?_
                    refine WA.take (i := 32) (m' := 8589934591) (v := .bool (false)) rfl rfl rfl rfl (by kernel_rfl) rfl (fun _ _ _ h => nomatch h.1) (fun wx hS => ?_) (R339) ?_
                    · have E375 : Ext w wx := Mod.trans (E3) (hS)
                      refine WL.guardT (yf_bool rfl rfl hd7_81) ?_
                      refine WL.pick (b := false) (congrArg Value.bool hd7_84) rfl rfl ?_
                      exact WL.nil ⟨rfl, rfl, rfl⟩
                    refine WA.take (i := 33) (m' := 17179869183) (v := .bool (false)) rfl rfl rfl rfl (by kernel_rfl) rfl (fun _ _ _ h => nomatch h.1) (fun wx hS => ?_) (R339) ?_
                    · have E376 : Ext w wx := Mod.trans (E3) (hS)
                      refine WL.pick (b := false) (congrArg Value.bool hd7_81) rfl rfl ?_
                      exact WL.nil ⟨rfl, rfl, rfl⟩
                    refine WA.take (i := 34) (m' := 34359738367) (v := .bool (false)) rfl rfl rfl rfl (by kernel_rfl) rfl (fun _ _ _ h => nomatch h.1) (fun wx hS => ?_) (R339) ?_
                    · have E377 : Ext w wx := Mod.trans (E3) (hS)
                      refine WL.move (v := .bool (false)) rfl rfl ?_
                      exact WL.nil ⟨rfl, rfl, rfl⟩
                    refine WA.take (i := 35) (m' := 68719476735) (v := IN (i)) rfl rfl rfl rfl (by kernel_rfl) rfl (fun _ _ _ h => nomatch h.1) (fun wx hS => ?_) (R339) ?_
                    · have E378 : Ext w wx := Mod.trans (E3) (hS)
                      refine WL.guardT (rfl) ?_
                      refine WL.move (v := IN (i)) h3_1 rfl ?_
                      exact WL.nil ⟨rfl, rfl, rfl⟩
                    refine WA.take (i := 36) (m' := 137438953471) (v := .bool (decide ((0 : Int) < ((i : Nat) : Int)))) rfl rfl rfl rfl (by kernel_rfl) rfl (fun _ _ _ h => nomatch h.1) (fun wx hS => ?_) (R339) ?_
                    · have E379 : Ext w wx := Mod.trans (E3) (hS)
                      refine WL.guardT (rfl) ?_
                      refine WL.bin rfl rfl rfl (BinR.gtr) ?_
                      exact WL.nil ⟨rfl, rfl, rfl⟩
                    refine WA.take (i := 37) (m' := 274877906943) (v := .bool (decide ((0 : Int) < ((i : Nat) : Int)))) rfl rfl rfl rfl (by kernel_rfl) rfl (fun _ _ _ h => nomatch h.1) (fun wx hS => ?_) (R339) ?_
                    · have E380 : Ext w wx := Mod.trans (E3) (hS)
                      refine WL.guardT (rfl) ?_
                      refine WL.move (v := .bool (decide ((0 : Int) < ((i : Nat) : Int)))) rfl rfl ?_
                      exact WL.nil ⟨rfl, rfl, rfl⟩
                    refine WA.off (i := 38) (m' := 549755813887) (y := some false) rfl rfl rfl rfl (by kernel_rfl) rfl (fun _ _ _ h => nomatch h.1) (yf_bool rfl rfl hd7_93) rfl (R339) ?_
                    refine WA.off (i := 39) (m' := 1099511627775) (y := some false) rfl rfl rfl rfl (by kernel_rfl) rfl (fun _ _ _ h => nomatch h.1) (yf_bool rfl rfl hd7_93) rfl (R339) ?_
                    refine WA.off (i := 40) (m' := 2199023255551) (y := some false) rfl rfl rfl rfl (by kernel_rfl) rfl (fun _ _ _ h => nomatch h.1) (yf_bool rfl rfl hd7_93) rfl (R339) ?_
                    refine WA.off (i := 41) (m' := 4398046511103) (y := some false) rfl rfl rfl rfl (by kernel_rfl) rfl (fun _ _ _ h => nomatch h.1) (yf_bool rfl rfl hd7_93) rfl (R339) ?_
                    refine WA.off (i := 42) (m' := 8796093022207) (y := some false) rfl rfl rfl rfl (by kernel_rfl) rfl (fun _ _ _ h => nomatch h.1) (yf_bool rfl rfl hd7_93) rfl (R339) ?_
                    refine WA.off (i := 43) (m' := 17592186044415) (y := some false) rfl rfl rfl rfl (by kernel_rfl) rfl (fun _ _ _ h => nomatch h.1) (yf_bool rfl rfl hd7_93) rfl (R339) ?_
                    refine WA.off (i := 44) (m' := 35184372088831) (y := some false) rfl rfl rfl rfl (by kernel_rfl) rfl (fun _ _ _ h => nomatch h.1) (yf_bool rfl rfl hd7_93) rfl (R339) ?_
                    refine WA.off (i := 45) (m' := 70368744177663) (y := some false) rfl rfl rfl rfl (by kernel_rfl) rfl (fun _ _ _ h => nomatch h.1) (yf_bool rfl rfl hd7_93) rfl (R339) ?_
                    refine WA.off (i := 46) (m' := 140737488355327) (y := some false) rfl rfl rfl rfl (by kernel_rfl) rfl (fun _ _ _ h => nomatch h.1) (yf_bool rfl rfl hd7_93) rfl (R339) ?_
                    refine WA.off (i := 47) (m' := 281474976710655) (y := some false) rfl rfl rfl rfl (by kernel_rfl) rfl (fun _ _ _ h => nomatch h.1) (yf_bool rfl rfl hd7_93) rfl (R339) ?_
                    refine WA.take (i := 48) (m' := 562949953421311) (v := .bool (false)) rfl rfl rfl rfl (by kernel_rfl) rfl (fun _ _ _ h => nomatch h.1) (fun wx hS => ?_) (R339) ?_
                    · have E381 : Ext w wx := Mod.trans (E3) (hS)
                      refine WL.guardT (rfl) ?_
                      refine WL.pick (b := false) (congrArg Value.bool hd7_93) rfl rfl ?_
                      exact WL.nil ⟨rfl, rfl, rfl⟩
                    refine WA.take (i := 49) (m' := 1125899906842623) (v := .bool (false)) rfl rfl rfl rfl (by kernel_rfl) rfl (fun _ _ _ h => nomatch h.1) (fun wx hS => ?_) (R339) ?_
                    · have E382 : Ext w wx := Mod.trans (E3) (hS)
                      refine WL.pick (b := false) rfl rfl rfl ?_
                      exact WL.nil ⟨rfl, rfl, rfl⟩
                    refine WA.done (by kernel_rfl) ?_
                    have hcut : (false) = symBad I.words.length i (lastAt I.syms i) (I.syms[i]) := by simp only [symBad, *, Bool.true_or, Bool.or_true, Bool.false_or, Bool.or_false, Bool.true_and, Bool.and_true, Bool.false_and, Bool.and_false]
                    have B383 := ((hB).ext (n4.ext)).ext (ed_7)
                    have B384 := (n4.blk).ext (ed_7)
                    exact ⟨rfl, h0_1, h1_1, h3_1, rfl, h43_1, rfl, rfl, rfl, rfl, rfl, rfl, rfl, rfl, rfl, rfl, congrArg Value.bool hcut, B383, B384, E340⟩
      rintro fc7 wc7 ⟨hc7_0, hc7_1, hc7_3, hc7_4, hc7_43, hc7_44, hc7_45, hc7_46, hc7_47, hc7_48, hc7_51, hc7_52, hc7_53, hc7_54, hc7_55, hc7_105, hB7, hB47, hE7⟩
      refine WC.cond hc7_105 (fun hc105 => ?_) (fun hc105 => ?_)
      · have hbad := todo_bad hi hc105
        refine WC.seq ?_
        refine WC.region ?_
        refine WL.assign (v := .bool (false)) rfl rfl ?_
        refine WL.nil ?_
        refine WC.ret ?_
        have hfin : ((.bool (false)) : Value) = Value.bool (rightB I) := congrArg Value.bool (by first | exact hrf.symm | exact (ht.trans hbad).symm | exact (ht.trans hdup).symm | exact (ht.trans (todo_end I i (by omega) hi)).symm)
        exact ⟨_, Res.one (v := .bool (false)) rfl rfl, hfin, hE7⟩
      · refine WC.skip ?_
        refine WC.seq ?_
        refine WC.region ?_
        refine WL.assign (v := IN (0)) rfl rfl ?_
        refine WL.nil ?_
        refine WC.block ?_
        refine WC.loop (fun k f w_ => ∃ q, (k + q = i) ∧ (∀ m (hm : m < q) (hm2 : m < I.syms.length), (I.syms[m]).1 ≠ (I.syms[i]).1) ∧ f 0 = .agg #[.int .i64 (I.entry), sv, wv] ∧ f 1 = ptr b1 0 ∧ f 3 = IN (i) ∧ f 4 = ptr b4 0 ∧ f 5 = IN (q) ∧ f 43 = .bool (headBad I) ∧ f 44 = IN (i) ∧ f 45 = ptr b1 1 ∧ f 46 = sv ∧ f 47 = IN (I.syms.length) ∧ f 48 = .bool (decide (((i : Nat) : Int) < ((I.syms.length : Nat) : Int))) ∧ f 51 = ptr b1 1 ∧ f 52 = sv ∧ f 53 = IN (i) ∧ f 54 = ptr bs0 (os0 + (i) * 2) ∧ f 55 = .agg #[St (I.syms[i]).1, .int .i64 ((I.syms[i]).2)] ∧ f 105 = .bool (symBad I.words.length i (lastAt I.syms i) (I.syms[i])) ∧ (Ext w w_) ∧ (Blk w_ b1 #[.int .i64 I.entry, sv, wv] 33) ∧ (Blk w_ b4 #[St (I.syms[i]).1, .int .i64 (I.syms[i]).2] 54)) (i) ?_ ?_
        · exact ⟨(0), by omega, fun m hm => absurd hm (by omega), hc7_0, hc7_1, hc7_3, hc7_4, rfl, hc7_43, hc7_44, hc7_45, hc7_46, hc7_47, hc7_48, hc7_51, hc7_52, hc7_53, hc7_54, hc7_55, hc7_105, hE7, hB7, hB47⟩
        rintro kb f2 wr2 ⟨q, hk2, hnd, h0_2, h1_2, h3_2, h4_2, h5_2, h43_2, h44_2, h45_2, h46_2, h47_2, h48_2, h51_2, h52_2, h53_2, h54_2, h55_2, h105_2, hE2, hB2, hB42⟩
        refine WC.seq ?_
        refine WC.seq ?_
        refine WC.region ?_
        refine WL.move (v := IN (q)) h5_2 rfl ?_
        refine WL.move (v := IN (i)) h3_2 rfl ?_
        refine WL.bin rfl rfl rfl (BinR.lss) ?_
        refine WL.nil ?_
        refine WC.cond rfl (fun hc108 => ?_) (fun hc108 => ?_)
        · have hq : q < i := by have := of_decide_eq_true hc108; omega
          refine WC.skip ?_
          refine WC.seq ?_
          refine WC.block ?_
          refine WC.seq ?_
          refine WC.draw (fun w_ => Ext wr2 w_) 9 rfl mixed ?_
          intro wd_12 ed_12
          have R385 : Ext wr2 wd_12 := Mod.trans (Mod.refl _ _) (ed_12)
          have R386 : Ext wr2 wd_12 := Mod.trans (Mod.refl _ _) (ed_12)
          have E387 : Ext w wd_12 := Mod.trans (hE2) (ed_12)
          refine WA.take (i := 0) (m' := 1) (v := ptr b1 1) rfl rfl rfl rfl (by kernel_rfl) rfl (fun _ _ _ h => h) (fun wx hS => ?_) (R386) ?_
          · have E388 : Ext w wx := Mod.trans (hE2) (hS)
            refine WL.fieldAddr h1_2 fo33_1 rfl ?_
            exact WL.nil ⟨rfl, rfl, rfl⟩
          refine WA.take (i := 1) (m' := 3) (v := sv) rfl rfl rfl rfl (by kernel_rfl) rfl (fun _ _ _ h => h) (fun wx hS => ?_) (R386) ?_
          · have E389 : Ext w wx := Mod.trans (hE2) (hS)
            have B390 := (hB2).ext (hS)
            refine WL.load1 rfl ag31 (B390.cell (j := 1) rfl) rfl ?_
            exact WL.nil ⟨rfl, rfl, rfl⟩
          refine WA.take (i := 2) (m' := 7) (v := IN (q)) rfl rfl rfl rfl (by kernel_rfl) rfl (fun _ _ _ h => h) (fun wx hS => ?_) (R386) ?_
          · have E391 : Ext w wx := Mod.trans (hE2) (hS)
            refine WL.move (v := IN (q)) h5_2 rfl ?_
            exact WL.nil ⟨rfl, rfl, rfl⟩
          refine WA.take (i := 3) (m' := 15) (v := ptr bs0 (os0 + (q) * 2)) rfl rfl rfl rfl (by kernel_rfl) rfl (fun _ _ _ h => h) (fun wx hS => ?_) (R386) ?_
          · have E392 : Ext w wx := Mod.trans (hE2) (hS)
            refine WL.indexAddr (i := q) (b := bs0) (o := os0) el31 sz54 (Eq.trans (rfl) es0) rfl (by omega) rfl ?_
            exact WL.nil ⟨rfl, rfl, rfl⟩
          refine WA.take (i := 4) (m' := 31) (v := ptr bs0 (os0 + (q) * 2)) rfl rfl rfl rfl (by kernel_rfl) rfl (fun _ _ _ h => h) (fun wx hS => ?_) (R386) ?_
          · have E393 : Ext w wx := Mod.trans (hE2) (hS)
            refine WL.fieldAddr rfl fo54_0 rfl ?_
            exact WL.nil ⟨rfl, rfl, rfl⟩
          refine WA.take (i := 5) (m' := 63) (v := St (I.syms[q]).1) rfl rfl rfl rfl (by kernel_rfl) rfl (fun _ _ _ h => h) (fun wx hS => ?_) (R386) ?_
          · have E394 : Ext w wx := Mod.trans (hE2) (hS)
            refine WL.load1 rfl ag9 ((hcs0.ext (E394)) (q * 2) _ (symCells_get I.syms q (by omega)).1) rfl ?_
            exact WL.nil ⟨rfl, rfl, rfl⟩
          refine WA.take (i := 6) (m' := 127) (v := ptr b4 0) rfl rfl rfl rfl (by kernel_rfl) rfl (fun _ _ _ h => h) (fun wx hS => ?_) (R386) ?_
          · have E395 : Ext w wx := Mod.trans (hE2) (hS)
            refine WL.fieldAddr h4_2 fo54_0 rfl ?_
            exact WL.nil ⟨rfl, rfl, rfl⟩
          refine WA.take (i := 7) (m' := 255) (v := St (I.syms[i]).1) rfl rfl rfl rfl (by kernel_rfl) rfl (fun _ _ _ h => h) (fun wx hS => ?_) (R386) ?_
          · have E396 : Ext w wx := Mod.trans (hE2) (hS)
            have B397 := (hB42).ext (hS)
            refine WL.load1 rfl ag9 (B397.cell (j := 0) rfl) rfl ?_
            exact WL.nil ⟨rfl, rfl, rfl⟩
          refine WA.take (i := 8) (m' := 511) (v := .bool (((I.syms[q]).1 == (I.syms[i]).1))) rfl rfl rfl rfl (by kernel_rfl) rfl (fun _ _ _ h => h) (fun wx hS => ?_) (R386) ?_
          · have E398 : Ext w wx := Mod.trans (hE2) (hS)
            refine WL.bin rfl rfl rfl (BinR.eqlS) ?_
            exact WL.nil ⟨rfl, rfl, rfl⟩
          refine WA.done (by kernel_rfl) ?_
          refine WC.cond rfl (fun hc119 => ?_) (fun hc119 => ?_)
          · have hdup := todo_dup hi (dup_of hi hq (by simpa using hc119))
            refine WC.seq ?_
            refine WC.region ?_
            refine WL.assign (v := .bool (false)) rfl rfl ?_
            refine WL.nil ?_
            refine WC.ret ?_
            have hfin : ((.bool (false)) : Value) = Value.bool (rightB I) := congrArg Value.bool (by first | exact hrf.symm | exact (ht.trans hbad).symm | exact (ht.trans hdup).symm | exact (ht.trans (todo_end I i (by omega) hi)).symm)
            exact ⟨_, Res.one (v := .bool (false)) rfl rfl, hfin, E387⟩
          · have hne : (I.syms[q]).1 ≠ (I.syms[i]).1 := by simpa using hc119
            refine WC.skip ?_
            refine WC.region ?_
            refine WL.move (v := IN (q)) h5_2 rfl ?_
            refine WL.bin rfl rfl rfl (BinR.succN (by omega)) ?_
            refine WL.assign (v := IN (q + 1)) rfl rfl ?_
            refine WL.nil ?_
            have B399 := (hB2).ext (ed_12)
            have B400 := (hB42).ext (ed_12)
            exact ⟨kb - 1, by omega, (q + 1), by omega, fun m hm hm2 => by by_cases e : m = q; (subst e; exact hne); exact hnd m (by omega) hm2, h0_2, h1_2, h3_2, h4_2, rfl, h43_2, h44_2, h45_2, h46_2, h47_2, h48_2, h51_2, h52_2, h53_2, h54_2, h55_2, h105_2, E387, B399, B400⟩
        · have hq : i ≤ q := by have := of_decide_eq_false hc108; omega
          have hnx := todo_next hi hl hc105 (nodup_of hi (fun m hm => hnd m (by omega) (by omega)))
          refine WC.exit ?_
          refine WC.region ?_
          refine WL.move (v := IN (i)) h3_2 rfl ?_
          refine WL.bin rfl rfl rfl (BinR.succN (by omega)) ?_
          refine WL.assign (v := IN (i + 1)) rfl rfl ?_
          refine WL.nil ?_
          exact ⟨ka - 1, by omega, (i + 1), by omega, ht.trans hnx.1, fun _ => hnx.2, h0_2, h1_2, rfl, h43_2, hE2, hB2⟩
    · have hi : I.syms.length ≤ i := by have := of_decide_eq_false hc48; omega
      refine WC.exit ?_
      refine WC.seq ?_
      refine WC.region ?_
      refine WL.assign (v := .bool (true)) rfl rfl ?_
      refine WL.nil ?_
      refine WC.ret ?_
      have hfin : ((.bool (true)) : Value) = Value.bool (rightB I) := congrArg Value.bool (by first | exact hrf.symm | exact (ht.trans hbad).symm | exact (ht.trans hdup).symm | exact (ht.trans (todo_end I i (by omega) hi)).symm)
      exact ⟨_, Res.one (v := .bool (true)) rfl rfl, hfin, hE⟩
end Go.Proofs.I
