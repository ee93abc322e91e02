import Derived.Test.YtljcijdkoncodaaImgBig
import Derived.Test.YtljcijdkoncodaaRows
import Derived.Test.YtljcijdkoncodaaImY2
set_option linter.unusedSimpArgs false
set_option linter.unusedVariables false
namespace Go.Proofs.I
open Go Go.Ux Go.Ux.Image Go.Proofs
theorem ca36 : callable Try.prog 36 = true := by kernel_rfl

theorem named_spec (bn : Nat) (nm : List UInt8) (s : List UInt8 × Int) (w : World) (hN : Blk w bn #[St nm] 9) : CallsR Try.prog 36 #[.agg #[St (s.1), .int .i64 (s.2)], ptr bn 0] w (fun v w' => v = .bool (s.1 == nm) ∧ Ext w w') := by
  refine callsR_of Try.func36 rfl rfl rfl ?_
  refine WC.seq ?_
  refine WC.region ?_
  refine WL.box (v := .agg #[St (s.1), .int .i64 (s.2)]) rfl rfl ?_
  intro b2 w2 n2
  have E1 : Ext w w2 := Mod.trans (Mod.refl _ _) (n2.ext)
  refine WL.assign (v := .bool (false)) rfl rfl ?_
  refine WL.nil ?_
  refine WC.seq ?_
  refine WC.region ?_
  refine WL.fieldAddr rfl fo49_0 rfl ?_
  refine WL.load1 rfl ag9 (n2.blk.cell (j := 0) rfl) rfl ?_
  have B2 := (hN).ext (n2.ext)
  refine WL.load1 rfl ag9 (B2.cell (j := 0) rfl) rfl ?_
  refine WL.bin rfl rfl rfl (BinR.eqlS) ?_
  refine WL.assign (v := .bool (((s.1) == nm))) rfl rfl ?_
  refine WL.nil ?_
  refine WC.ret ?_
  exact ⟨_, Res.one (v := .bool (((s.1) == nm))) rfl rfl, rfl, E1⟩

theorem index_first (bn : Nat) (nm : List UInt8) (sv : Value) (l : List (List UInt8 × Int)) (w : World) (hN : Blk w bn #[St nm] 9) (hS : Sl w sv 2 l.length (symCells l)) (h0 : 0 < l.length) (he : (l[0]).1 = nm) : CallsR Try.prog 35 #[sv, .func (.func 36) #[] #[ptr bn 0]] w (fun v w' => v = IN 0 ∧ Ext w w') := by
  refine callsR_of Try.func35 rfl rfl rfl ?_
  refine WC.seq ?_
  refine WC.region ?_
  refine WL.assign (v := IN (0)) rfl rfl ?_
  refine WL.nil ?_
  refine WC.seq ?_
  refine WC.seq ?_
  refine WC.region ?_
  refine WL.move (v := sv) rfl rfl ?_
  refine WL.lenSl (sz := 2) (m := l.length) (xs := symCells l) el22 rfl (hS) rfl ?_
  refine WL.move (v := IN (0)) rfl rfl ?_
  refine WL.nil ?_
  refine WC.block ?_
  refine WC.loop (fun k f w_ => ∃ j, (j = 0) ∧ f 0 = sv ∧ f 1 = .func (.func 36) #[] #[ptr bn 0] ∧ f 6 = sv ∧ f 7 = IN (l.length) ∧ f 8 = IN (j) ∧ (Ext w w_)) (1) ?_ ?_
  · exact ⟨(0), rfl, rfl, rfl, rfl, rfl, rfl, Mod.refl _ _⟩
  rintro k f1 wr ⟨j, hj, h0_1, h1_1, h6_1, h7_1, h8_1, hE⟩
  refine WC.seq ?_
  refine WC.region ?_
  refine WL.bin h8_1 h7_1 rfl (BinR.lss) ?_
  refine WL.nil ?_
  refine WC.seq ?_
  refine WC.cond rfl (fun hc9 => ?_) (fun hc9 => ?_)
  · have hjl : j < l.length := by omega
    obtain ⟨bs0, os0, cs0, es0, hcs0⟩ := hS.at (by omega)
    refine WC.skip ?_
    refine WC.seq ?_
    refine WC.block ?_
    refine WC.seq ?_
    refine WC.region ?_
    refine WL.move (v := IN (j)) h8_1 rfl ?_
    refine WL.assign (v := IN (j)) rfl rfl ?_
    refine WL.nil ?_
    refine WC.seq ?_
    refine WC.region ?_
    refine WL.move (v := .func (.func 36) #[] #[ptr bn 0]) h1_1 rfl ?_
    refine WL.move (v := sv) h0_1 rfl ?_
    refine WL.move (v := IN (j)) rfl rfl ?_
    refine WL.indexAddr (i := j) (b := bs0) (o := os0) el22 sz49 (Eq.trans (rfl) es0) rfl (by omega) rfl ?_
    refine WL.loadS [St (l[j]).1, .int .i64 ((l[j]).2)] rfl ag49 sz49 rfl (cells2 (hcs0.ext (hE)) ((symCells_get l j (by omega))).1 ((symCells_get l j (by omega))).2) rfl ?_
    refine WL.callV (fs := #[]) (cs := #[ptr bn 0]) rfl ca36 rfl rfl (named_spec bn nm (l[j]) _ (hN.ext (hE))) ?_
    rintro _ wd ⟨rfl, ed⟩
    have R1 : Ext wr wd := Mod.trans (Mod.refl _ _) (ed)
    have E2 : Ext w wd := Mod.trans (hE) (ed)
    refine WL.nil ?_
    refine WC.cond rfl (fun hc16 => ?_) (fun hc16 => ?_)
    · refine WC.seq ?_
      refine WC.region ?_
      refine WL.move (v := IN (j)) rfl rfl ?_
      refine WL.assign (v := IN (j)) rfl rfl ?_
      refine WL.nil ?_
      refine WC.ret ?_
      exact ⟨_, Res.one (v := IN (j)) rfl rfl, congrArg IN hj, E2⟩
    · refine WC.skip ?_
      refine WC.region ?_
      refine WL.bin h8_1 rfl rfl (BinR.succN (by omega)) ?_
      refine WL.move (v := IN (j + 1)) rfl rfl ?_
      refine WL.nil ?_
      exact ⟨k - 1, absurd hc16 (by subst hj; simp [he]), (j + 1), absurd hc16 (by subst hj; simp [he]), h0_1, h1_1, h6_1, h7_1, rfl, E2⟩
  · exact absurd (of_decide_eq_false hc9) (by omega)

theorem find_first (nm : List UInt8) (sv wv : Value) (I : Img) (w : World) (hR : Rep w sv wv I) (h0 : 0 < I.syms.length) (he : (I.syms[0]).1 = nm) : CallsR Try.prog 17 #[.agg #[.int .i64 (I.entry), sv, wv], St nm] w (fun v w' => v = .tuple #[IN 0, .bool true] ∧ Ext w w') := by
  refine callsR_of Try.func17 rfl rfl rfl ?_
  refine WC.seq ?_
  refine WC.region ?_
  refine WL.box (v := .agg #[.int .i64 (I.entry), sv, wv]) rfl rfl ?_
  intro b2 w2 n2
  have E1 : Ext w w2 := Mod.trans (Mod.refl _ _) (n2.ext)
  refine WL.box (v := St nm) rfl rfl ?_
  intro b3 w3 n3
  have E2 : Ext w w3 := Mod.trans (E1) (n3.ext)
  refine WL.assign (v := IN (0)) rfl rfl ?_
  refine WL.assign (v := .bool (false)) rfl rfl ?_
  refine WL.nil ?_
  refine WC.seq ?_
  refine WC.region ?_
  refine WL.fieldAddr rfl fo25_1 rfl ?_
  have B3 := (n2.blk).ext (n3.ext)
  refine WL.load1 rfl ag22 (B3.cell (j := 1) rfl) rfl ?_
  refine WL.makeFunc (vs := []) (us := [ptr b3 0]) rfl rfl rfl ?_
  refine WL.call ca35 (rfl) rfl (index_first b3 nm sv I.syms _ n3.blk ((hR.s).ext' (E2)) h0 he) ?_
  rintro _ wd ⟨rfl, ed⟩
  have E4 : Ext w wd := Mod.trans (E2) (ed)
  refine WL.assign (v := IN (0)) rfl rfl ?_
  refine WL.nil ?_
  refine WC.seq ?_
  refine WC.region ?_
  refine WL.move (v := IN (0)) rfl rfl ?_
  refine WL.max2 (a := 0) (b := 0) rfl rfl rfl ?_
  refine WL.move (v := IN (0)) rfl rfl ?_
  refine WL.bin (v := .bool (true)) rfl rfl rfl (BinR.toB (BinR.geq) (rfl)) ?_
  refine WL.assign (v := IN (0)) rfl rfl ?_
  refine WL.assign (v := .bool (true)) rfl rfl ?_
  refine WL.nil ?_
  refine WC.ret ?_
  exact ⟨_, Res.two (v := IN (0)) (v' := .bool (true)) rfl rfl rfl, rfl, E4⟩
end Go.Proofs.I
