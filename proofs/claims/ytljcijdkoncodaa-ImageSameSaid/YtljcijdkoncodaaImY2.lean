import Derived.Test.YtljcijdkoncodaaImgBig
import Derived.Test.YtljcijdkoncodaaRows
import Derived.Test.YtljcijdkoncodaaImY1
set_option linter.unusedSimpArgs false
set_option linter.unusedVariables false
namespace Go.Proofs.I
open Go Go.Ux Go.Ux.Image Go.Proofs


theorem large_spec (sv wv : Value) (I : Img) (w : World) (hs : Sl w sv 2 I.syms.length (symCells I.syms)) (hw : Sl w wv 1 I.words.length (wordCells I.words)) : CallsR Try.prog 7 #[.agg #[.int .i64 (I.entry), sv, wv]] w (fun v w' => v = .bool (largeB I) ∧ Ext w w') := by
  refine callsR_of Try.func7 rfl rfl rfl ?_
  refine WC.seq ?_
  refine WC.region ?_
  refine WL.box (v := .agg #[.int .i64 (I.entry), sv, wv]) rfl rfl ?_
  intro b1 w1 n1
  have E1 : Ext w w1 := Mod.trans (Mod.refl _ _) (n1.ext)
  refine WL.assign (v := .bool (false)) rfl rfl ?_
  refine WL.nil ?_
  refine WC.seq ?_
  refine WC.seq ?_
  refine WC.region ?_
  refine WL.fieldAddr rfl fo25_1 rfl ?_
  refine WL.load1 rfl ag22 (n1.blk.cell (j := 1) rfl) rfl ?_
  refine WL.lenSl (sz := 2) (m := I.syms.length) (xs := symCells I.syms) el22 rfl ((hs).ext' (E1)) rfl ?_
  refine WL.bin rfl rfl rfl (BinR.gtr) ?_
  refine WL.move (v := .bool (decide ((70 : Int) < ((I.syms.length : Nat) : Int)))) rfl rfl ?_
  rcases Bool.eq_false_or_eq_true (decide ((70 : Int) < ((I.syms.length : Nat) : Int))) with hg8 | hg8
  · refine WL.guardF (b' := true) (yf_bool rfl rfl hg8) rfl rfl ?_
    refine WL.guardF (b' := true) (yf_bool rfl rfl hg8) rfl rfl ?_
    refine WL.guardF (b' := true) (yf_bool rfl rfl hg8) rfl rfl ?_
    refine WL.guardF (b' := true) (yf_bool rfl rfl hg8) rfl rfl ?_
    refine WL.pick (b := true) (congrArg Value.bool hg8) rfl rfl ?_
    refine WL.nil ?_
    refine WC.condT rfl ?_
    refine WC.seq ?_
    refine WC.region ?_
    refine WL.assign (v := .bool (true)) rfl rfl ?_
    refine WL.nil ?_
    refine WC.ret ?_
    have hfin : ((.bool (true)) : Value) = Value.bool (largeB I) := congrArg Value.bool (by first | exact hlb.symm | simp only [largeB, *, Bool.true_or, Bool.or_true, Bool.false_or, Bool.or_false, Bool.true_and, Bool.and_true, Bool.false_and, Bool.and_false])
    exact ⟨_, Res.one (v := .bool (true)) rfl rfl, hfin, E1⟩
  · refine WL.guardT (yf_bool rfl rfl hg8) ?_
    refine WL.fieldAddr rfl fo25_2 rfl ?_
    refine WL.guardT (yf_bool rfl rfl hg8) ?_
    refine WL.load1 rfl ag23 (n1.blk.cell (j := 2) rfl) rfl ?_
    refine WL.guardT (yf_bool rfl rfl hg8) ?_
    refine WL.lenSl (sz := 1) (m := I.words.length) (xs := wordCells I.words) el23 rfl ((hw).ext' (E1)) rfl ?_
    refine WL.guardT (yf_bool rfl rfl hg8) ?_
    refine WL.bin rfl rfl rfl (BinR.gtr) ?_
    refine WL.pick (b := false) (congrArg Value.bool hg8) rfl rfl ?_
    refine WL.nil ?_
    refine WC.cond rfl (fun hc13 => ?_) (fun hc13 => ?_)
    · refine WC.seq ?_
      refine WC.region ?_
      refine WL.assign (v := .bool (true)) rfl rfl ?_
      refine WL.nil ?_
      refine WC.ret ?_
      have hfin : ((.bool (true)) : Value) = Value.bool (largeB I) := congrArg Value.bool (by first | exact hlb.symm | simp only [largeB, *, Bool.true_or, Bool.or_true, Bool.false_or, Bool.or_false, Bool.true_and, Bool.and_true, Bool.false_and, Bool.and_false])
      exact ⟨_, Res.one (v := .bool (true)) rfl rfl, hfin, E1⟩
    · have h70 := of_decide_eq_false hg8
      refine WC.skip ?_
      refine WC.seq ?_
      refine WC.seq ?_
      refine WC.region ?_
      refine WL.assign (v := IN (0)) rfl rfl ?_
      refine WL.nil ?_
      refine WC.block ?_
      refine WC.loop (fun k f w_ => ∃ i, (k + i = I.syms.length) ∧ (∀ m (_ : m < i) (h2 : m < I.syms.length), decide (100 < ((I.syms[m]).1.length : Int)) = false) ∧ f 0 = .agg #[.int .i64 (I.entry), sv, wv] ∧ f 1 = ptr b1 0 ∧ f 3 = IN (i) ∧ f 4 = ptr b1 1 ∧ f 5 = sv ∧ f 6 = IN (I.syms.length) ∧ f 7 = .bool (decide ((70 : Int) < ((I.syms.length : Nat) : Int))) ∧ f 8 = .bool (decide ((70 : Int) < ((I.syms.length : Nat) : Int))) ∧ f 9 = ptr b1 2 ∧ f 10 = wv ∧ f 11 = IN (I.words.length) ∧ f 12 = .bool (decide ((500 : Int) < ((I.words.length : Nat) : Int))) ∧ f 13 = .bool (decide ((500 : Int) < ((I.words.length : Nat) : Int))) ∧ (Ext w w_) ∧ (Blk w_ b1 #[.int .i64 I.entry, sv, wv] 25)) (I.syms.length) ?_ ?_
      · exact ⟨(0), by omega, fun m hm => absurd hm (by omega), rfl, rfl, rfl, rfl, rfl, rfl, rfl, rfl, rfl, rfl, rfl, rfl, rfl, E1, n1.blk⟩
      rintro k f1 wr ⟨i, hk1, hany, h0_1, h1_1, h3_1, h4_1, h5_1, h6_1, h7_1, h8_1, h9_1, h10_1, h11_1, h12_1, h13_1, hE, hB⟩
      refine WC.seq ?_
      refine WC.seq ?_
      refine WC.region ?_
      refine WL.move (v := IN (i)) h3_1 rfl ?_
      refine WL.fieldAddr h1_1 fo25_1 rfl ?_
      refine WL.load1 rfl ag22 (hB.cell (j := 1) rfl) rfl ?_
      refine WL.lenSl (sz := 2) (m := I.syms.length) (xs := symCells I.syms) el22 rfl ((hs).ext' (hE)) rfl ?_
      refine WL.bin rfl rfl rfl (BinR.lss) ?_
      refine WL.nil ?_
      refine WC.cond rfl (fun hc18 => ?_) (fun hc18 => ?_)
      · have hi : i < I.syms.length := by have := of_decide_eq_true hc18; omega
        obtain ⟨bs0, os0, cs0, es0, hcs0⟩ := hs.at (by omega)
        refine WC.skip ?_
        refine WC.seq ?_
        refine WC.block ?_
        refine WC.seq ?_
        refine WC.region ?_
        refine WL.fieldAddr h1_1 fo25_1 rfl ?_
        refine WL.load1 rfl ag22 (hB.cell (j := 1) rfl) rfl ?_
        refine WL.move (v := IN (i)) h3_1 rfl ?_
        refine WL.indexAddr (i := i) (b := bs0) (o := os0) el22 sz49 (Eq.trans (rfl) es0) rfl (by omega) rfl ?_
        refine WL.fieldAddr rfl fo49_0 rfl ?_
        refine WL.load1 rfl ag9 ((hcs0.ext (hE)) (i * 2) _ (symCells_get I.syms i (by omega)).1) rfl ?_
        refine WL.lenSt Try.underlying9 rfl rfl ?_
        refine WL.bin rfl rfl rfl (BinR.gtr) ?_
        refine WL.nil ?_
        refine WC.cond rfl (fun hc28 => ?_) (fun hc28 => ?_)
        · have hlb := largeB_at hi hc28
          refine WC.seq ?_
          refine WC.region ?_
          refine WL.assign (v := .bool (true)) rfl rfl ?_
          refine WL.nil ?_
          refine WC.ret ?_
          have hfin : ((.bool (true)) : Value) = Value.bool (largeB I) := congrArg Value.bool (by first | exact hlb.symm | simp only [largeB, *, Bool.true_or, Bool.or_true, Bool.false_or, Bool.or_false, Bool.true_and, Bool.and_true, Bool.false_and, Bool.and_false])
          exact ⟨_, Res.one (v := .bool (true)) rfl rfl, hfin, hE⟩
        · refine WC.skip ?_
          refine WC.region ?_
          refine WL.move (v := IN (i)) h3_1 rfl ?_
          refine WL.bin rfl rfl rfl (BinR.succN (by omega)) ?_
          refine WL.assign (v := IN (i + 1)) rfl rfl ?_
          refine WL.nil ?_
          exact ⟨k - 1, by omega, (i + 1), by omega, fun m hm hm2 => by by_cases e : m = i; (subst e; exact hc28); exact hany m (by omega) hm2, h0_1, h1_1, rfl, h4_1, h5_1, h6_1, h7_1, h8_1, h9_1, h10_1, h11_1, h12_1, h13_1, hE, hB⟩
      · have hi : I.syms.length ≤ i := by have := of_decide_eq_false hc18; omega
        have hlb := largeB_none hi hg8 hc13 hany
        refine WC.exit ?_
        refine WC.seq ?_
        refine WC.region ?_
        refine WL.assign (v := .bool (false)) rfl rfl ?_
        refine WL.nil ?_
        refine WC.ret ?_
        have hfin : ((.bool (false)) : Value) = Value.bool (largeB I) := congrArg Value.bool (by first | exact hlb.symm | simp only [largeB, *, Bool.true_or, Bool.or_true, Bool.false_or, Bool.or_false, Bool.true_and, Bool.and_true, Bool.false_and, Bool.and_false])
        exact ⟨_, Res.one (v := .bool (false)) rfl rfl, hfin, hE⟩
end Go.Proofs.I
