import Derived.Test.YtljcijdkoncodaaImgBig
import Derived.Test.YtljcijdkoncodaaRows
import Derived.Test.YtljcijdkoncodaaImW6
set_option linter.unusedSimpArgs false
set_option linter.unusedVariables false
namespace Go.Proofs.I
open Go Go.Ux Go.Ux.Image Go.Proofs
theorem el22 : elemT Try.prog 22 = some 49 := by kernel_rfl
theorem sz49 : sizeT Try.prog 49 = some 2 := by kernel_rfl
theorem ag49 : isAggT Try.prog 49 = some true := by kernel_rfl
theorem fo25_0 : fieldOff Try.prog 25 0 = some 0 := by kernel_rfl
theorem fo25_1 : fieldOff Try.prog 25 1 = some 1 := by kernel_rfl
theorem ag22 : isAggT Try.prog 22 = some false := by kernel_rfl
theorem ca32 : callable Try.prog 32 = true := by kernel_rfl
theorem fo25_2 : fieldOff Try.prog 25 2 = some 2 := by kernel_rfl
theorem ag23 : isAggT Try.prog 23 = some false := by kernel_rfl
theorem ca33 : callable Try.prog 33 = true := by kernel_rfl

theorem sym49 : symT Try.prog 49 = true := by kernel_rfl
theorem symg49 : Try.prog.eqGuardType Try.prog.depth 49 = false := by kernel_rfl

theorem sym54 : symT Try.prog 54 = true := by kernel_rfl
theorem symg54 : Try.prog.eqGuardType Try.prog.depth 54 = false := by kernel_rfl

theorem equalS (u z : Value) (x y : List (List UInt8 × Int)) (w : World) (hu : Sl w u 2 x.length (symCells x)) (hz : Sl w z 2 y.length (symCells y)) (hx : x.length ≤ 1000000000) (hy : y.length ≤ 1000000000) : CallsR Try.prog 32 #[u, z] w (fun v w' => v = .bool (x == y) ∧ Ext w w') := by
  refine callsR_of Try.func32 rfl rfl rfl ?_
  refine WC.seq ?_
  refine WC.region ?_
  refine WL.assign (v := .bool (false)) rfl rfl ?_
  refine WL.nil ?_
  refine WC.seq ?_
  refine WC.seq ?_
  refine WC.region ?_
  refine WL.move (v := u) rfl rfl ?_
  refine WL.lenSl (sz := 2) (m := x.length) (xs := symCells x) el22 rfl (hu) rfl ?_
  refine WL.move (v := z) rfl rfl ?_
  refine WL.lenSl (sz := 2) (m := y.length) (xs := symCells y) el22 rfl (hz) rfl ?_
  refine WL.bin rfl rfl rfl (BinR.neq) ?_
  refine WL.nil ?_
  refine WC.cond rfl (fun hc10 => ?_) (fun hc10 => ?_)
  · have hne : x ≠ y := by intro e; subst e; exact absurd hc10 (by simp)
    refine WC.seq ?_
    refine WC.region ?_
    refine WL.assign (v := .bool (false)) rfl rfl ?_
    refine WL.nil ?_
    refine WC.ret ?_
    exact ⟨_, Res.one (v := .bool (false)) rfl rfl, congrArg Value.bool (by first | exact (beq_eq_false_iff_ne.2 hne).symm | exact (beq_iff_eq.2 hall).symm), Mod.refl _ _⟩
  · have hlen : x.length = y.length := by have := hc10; simp at this; omega
    refine WC.skip ?_
    refine WC.seq ?_
    refine WC.seq ?_
    refine WC.region ?_
    refine WL.move (v := u) rfl rfl ?_
    refine WL.lenSl (sz := 2) (m := x.length) (xs := symCells x) el22 rfl (hu) rfl ?_
    refine WL.move (v := IN (0)) rfl rfl ?_
    refine WL.nil ?_
    refine WC.block ?_
    refine WC.loop (fun k f w_ => ∃ j, (k + j = x.length) ∧ (x.take j = y.take j) ∧ f 0 = u ∧ f 1 = z ∧ f 6 = u ∧ f 7 = IN (x.length) ∧ f 8 = z ∧ f 9 = IN (y.length) ∧ f 10 = .bool ((((x.length : Nat) : Int) != ((y.length : Nat) : Int))) ∧ f 11 = u ∧ f 12 = IN (x.length) ∧ f 13 = IN (j) ∧ (Ext w w_)) (x.length) ?_ ?_
    · exact ⟨(0), by omega, rfl, rfl, rfl, rfl, rfl, rfl, rfl, rfl, rfl, rfl, rfl, Mod.refl _ _⟩
    rintro k f1 wr ⟨j, hk1, ht, h0_1, h1_1, h6_1, h7_1, h8_1, h9_1, h10_1, h11_1, h12_1, h13_1, hE⟩
    refine WC.seq ?_
    refine WC.region ?_
    refine WL.bin h13_1 h12_1 rfl (BinR.lss) ?_
    refine WL.nil ?_
    refine WC.seq ?_
    refine WC.cond rfl (fun hc14 => ?_) (fun hc14 => ?_)
    · have hj : j < x.length := by have := of_decide_eq_true hc14; omega
      have hj2 : j < y.length := by omega
      obtain ⟨bu, ou, cu, eu, hcu⟩ := hu.at (by omega)
      obtain ⟨bz, oz, cz, ez, hcv⟩ := hz.at (by omega)
      refine WC.skip ?_
      refine WC.seq ?_
      refine WC.block ?_
      refine WC.seq ?_
      refine WC.region ?_
      refine WL.move (v := IN (j)) h13_1 rfl ?_
      refine WL.assign (v := IN (j)) rfl rfl ?_
      refine WL.nil ?_
      refine WC.seq ?_
      refine WC.draw (fun w_ => Ext wr w_) 9 rfl mixed ?_
      intro wd_6 ed_6
      have R1 : Ext wr wd_6 := Mod.trans (Mod.refl _ _) (ed_6)
      have R2 : Ext wr wd_6 := Mod.trans (Mod.refl _ _) (ed_6)
      have E3 : Ext w wd_6 := Mod.trans (hE) (ed_6)
      refine WA.take (i := 0) (m' := 1) (v := u) rfl rfl rfl rfl (by kernel_rfl) rfl (fun _ _ _ h => h) (fun wx hS => ?_) (R2) ?_
      · have E4 : Ext w wx := Mod.trans (hE) (hS)
        refine WL.move (v := u) h0_1 rfl ?_
        exact WL.nil ⟨rfl, rfl, rfl⟩
      refine WA.take (i := 1) (m' := 3) (v := IN (j)) rfl rfl rfl rfl (by kernel_rfl) rfl (fun _ _ _ h => h) (fun wx hS => ?_) (R2) ?_
      · have E5 : Ext w wx := Mod.trans (hE) (hS)
        refine WL.move (v := IN (j)) rfl rfl ?_
        exact WL.nil ⟨rfl, rfl, rfl⟩
      refine WA.take (i := 2) (m' := 7) (v := ptr bu (ou + (j) * 2)) rfl rfl rfl rfl (by kernel_rfl) rfl (fun _ _ _ h => h) (fun wx hS => ?_) (R2) ?_
      · have E6 : Ext w wx := Mod.trans (hE) (hS)
        refine WL.indexAddr (i := j) (b := bu) (o := ou) el22 sz49 (Eq.trans (rfl) eu) rfl (by omega) rfl ?_
        exact WL.nil ⟨rfl, rfl, rfl⟩
      refine WA.take (i := 3) (m' := 15) (v := .agg #[St (x[j]).1, .int .i64 ((x[j]).2)]) rfl rfl rfl rfl (by kernel_rfl) rfl (fun _ _ _ h => h) (fun wx hS => ?_) (R2) ?_
      · have E7 : Ext w wx := Mod.trans (hE) (hS)
        refine WL.loadS [St (x[j]).1, .int .i64 ((x[j]).2)] rfl ag49 sz49 rfl (cells2 (hcu.ext (E7)) ((symCells_get x j (by omega))).1 ((symCells_get x j (by omega))).2) rfl ?_
        exact WL.nil ⟨rfl, rfl, rfl⟩
      refine WA.take (i := 4) (m' := 31) (v := z) rfl rfl rfl rfl (by kernel_rfl) rfl (fun _ _ _ h => h) (fun wx hS => ?_) (R2) ?_
      · have E8 : Ext w wx := Mod.trans (hE) (hS)
        refine WL.move (v := z) h1_1 rfl ?_
        exact WL.nil ⟨rfl, rfl, rfl⟩
      refine WA.take (i := 5) (m' := 63) (v := IN (j)) rfl rfl rfl rfl (by kernel_rfl) rfl (fun _ _ _ h => h) (fun wx hS => ?_) (R2) ?_
      · have E9 : Ext w wx := Mod.trans (hE) (hS)
        refine WL.move (v := IN (j)) rfl rfl ?_
        exact WL.nil ⟨rfl, rfl, rfl⟩
      refine WA.take (i := 6) (m' := 127) (v := ptr bz (oz + (j) * 2)) rfl rfl rfl rfl (by kernel_rfl) rfl (fun _ _ _ h => h) (fun wx hS => ?_) (R2) ?_
      · have E10 : Ext w wx := Mod.trans (hE) (hS)
        refine WL.indexAddr (i := j) (b := bz) (o := oz) el22 sz49 (Eq.trans (rfl) ez) rfl (by omega) rfl ?_
        exact WL.nil ⟨rfl, rfl, rfl⟩
      refine WA.take (i := 7) (m' := 255) (v := .agg #[St (y[j]).1, .int .i64 ((y[j]).2)]) rfl rfl rfl rfl (by kernel_rfl) rfl (fun _ _ _ h => h) (fun wx hS => ?_) (R2) ?_
      · have E11 : Ext w wx := Mod.trans (hE) (hS)
        refine WL.loadS [St (y[j]).1, .int .i64 ((y[j]).2)] rfl ag49 sz49 rfl (cells2 (hcv.ext (E11)) ((symCells_get y j (by omega))).1 ((symCells_get y j (by omega))).2) rfl ?_
        exact WL.nil ⟨rfl, rfl, rfl⟩
      refine WA.take (i := 8) (m' := 511) (v := .bool (!((x[j]).1 == (y[j]).1 && (x[j]).2 == (y[j]).2))) rfl rfl rfl rfl (by kernel_rfl) rfl (fun _ _ _ h => h) (fun wx hS => ?_) (R2) ?_
      · have E12 : Ext w wx := Mod.trans (hE) (hS)
        refine WL.bin rfl rfl rfl (BinR.neqSym sym49 symg49) ?_
        exact WL.nil ⟨rfl, rfl, rfl⟩
      refine WA.done (by kernel_rfl) ?_
      refine WC.cond rfl (fun hc24 => ?_) (fun hc24 => ?_)
      · have hne : x ≠ y := by intro e; subst e; simp at hc24
        refine WC.seq ?_
        refine WC.region ?_
        refine WL.assign (v := .bool (false)) rfl rfl ?_
        refine WL.nil ?_
        refine WC.ret ?_
        exact ⟨_, Res.one (v := .bool (false)) rfl rfl, congrArg Value.bool (by first | exact (beq_eq_false_iff_ne.2 hne).symm | exact (beq_iff_eq.2 hall).symm), E3⟩
      · have heq : x[j] = y[j] := by simp at hc24; exact Prod.ext hc24.1 hc24.2
        refine WC.skip ?_
        refine WC.region ?_
        refine WL.bin h13_1 rfl rfl (BinR.succN (by omega)) ?_
        refine WL.move (v := IN (j + 1)) rfl rfl ?_
        refine WL.nil ?_
        exact ⟨k - 1, by omega, (j + 1), by omega, eq_step x y j (by omega) (by omega) ht heq, h0_1, h1_1, h6_1, h7_1, h8_1, h9_1, h10_1, h11_1, h12_1, rfl, E3⟩
    · have hj : x.length ≤ j := by have := of_decide_eq_false hc14; omega
      have hall : x = y := by rwa [List.take_of_length_le (by omega), List.take_of_length_le (by omega)] at ht
      refine WC.exit ?_
      refine WC.seq ?_
      refine WC.region ?_
      refine WL.assign (v := .bool (true)) rfl rfl ?_
      refine WL.nil ?_
      refine WC.ret ?_
      exact ⟨_, Res.one (v := .bool (true)) rfl rfl, congrArg Value.bool (by first | exact (beq_eq_false_iff_ne.2 hne).symm | exact (beq_iff_eq.2 hall).symm), hE⟩

theorem same_spec (sa wa sb wb : Value) (A K : Img) (w : World) (hA : Rep w sa wa A) (hK : Rep w sb wb K) : CallsR Try.prog 14 #[.agg #[.int .i64 (A.entry), sa, wa], .agg #[.int .i64 (K.entry), sb, wb]] w (fun v w' => v = .bool (A == K) ∧ Ext w w') := by
  refine callsR_of Try.func14 rfl rfl rfl ?_
  refine WC.seq ?_
  refine WC.region ?_
  refine WL.box (v := .agg #[.int .i64 (A.entry), sa, wa]) rfl rfl ?_
  intro b2 w2 n2
  have E1 : Ext w w2 := Mod.trans (Mod.refl _ _) (n2.ext)
  refine WL.box (v := .agg #[.int .i64 (K.entry), sb, wb]) rfl rfl ?_
  intro b3 w3 n3
  have E2 : Ext w w3 := Mod.trans (E1) (n3.ext)
  refine WL.assign (v := .bool (false)) rfl rfl ?_
  refine WL.nil ?_
  refine WC.seq ?_
  refine WC.region ?_
  refine WL.fieldAddr rfl fo25_0 rfl ?_
  have B3 := (n2.blk).ext (n3.ext)
  refine WL.load1 rfl ag3 (B3.cell (j := 0) rfl) rfl ?_
  refine WL.fieldAddr rfl fo25_0 rfl ?_
  refine WL.load1 rfl ag3 (n3.blk.cell (j := 0) rfl) rfl ?_
  refine WL.bin rfl rfl rfl (BinR.eql) ?_
  refine WL.move (v := .bool (((A.entry : Int) == (K.entry : Int)))) rfl rfl ?_
  rcases Bool.eq_false_or_eq_true (((A.entry : Int) == (K.entry : Int))) with hg10 | hg10
  · refine WL.guardT (yf_bool rfl rfl hg10) ?_
    refine WL.fieldAddr rfl fo25_1 rfl ?_
    refine WL.guardT (yf_bool rfl rfl hg10) ?_
    refine WL.load1 rfl ag22 (B3.cell (j := 1) rfl) rfl ?_
    refine WL.guardT (yf_bool rfl rfl hg10) ?_
    refine WL.fieldAddr rfl fo25_1 rfl ?_
    refine WL.guardT (yf_bool rfl rfl hg10) ?_
    refine WL.load1 rfl ag22 (n3.blk.cell (j := 1) rfl) rfl ?_
    refine WL.guardT (yf_bool rfl rfl hg10) ?_
    refine WL.call ca32 (rfl) rfl (equalS sa sb A.syms K.syms _ ((hA.s).ext' (E2)) ((hK.s).ext' (E2)) hA.ls hK.ls) ?_
    rintro _ wd15 ⟨rfl, ed15⟩
    have E4 : Ext w wd15 := Mod.trans (E2) (ed15)
    refine WL.pick (b := true) (congrArg Value.bool hg10) rfl rfl ?_
    refine WL.move (v := .bool ((A.syms == K.syms))) rfl rfl ?_
    rcases Bool.eq_false_or_eq_true ((A.syms == K.syms)) with hg17 | hg17
    · refine WL.guardT (yf_bool rfl rfl hg17) ?_
      refine WL.fieldAddr rfl fo25_2 rfl ?_
      refine WL.guardT (yf_bool rfl rfl hg17) ?_
      have B5 := (B3).ext (ed15)
      refine WL.load1 rfl ag23 (B5.cell (j := 2) rfl) rfl ?_
      refine WL.guardT (yf_bool rfl rfl hg17) ?_
      refine WL.fieldAddr rfl fo25_2 rfl ?_
      refine WL.guardT (yf_bool rfl rfl hg17) ?_
      have B6 := (n3.blk).ext (ed15)
      refine WL.load1 rfl ag23 (B6.cell (j := 2) rfl) rfl ?_
      refine WL.guardT (yf_bool rfl rfl hg17) ?_
      refine WL.call ca33 (rfl) rfl (equalW wa wb A.words K.words _ ((hA.w).ext' (E4)) ((hK.w).ext' (E4)) hA.lw hK.lw) ?_
      rintro _ wd22 ⟨rfl, ed22⟩
      have E7 : Ext w wd22 := Mod.trans (E4) (ed22)
      refine WL.pick (b := true) (congrArg Value.bool hg17) rfl rfl ?_
      refine WL.assign (v := .bool ((A.words == K.words))) rfl rfl ?_
      refine WL.nil ?_
      refine WC.ret ?_
      have hfin : ((.bool ((A.words == K.words))) : Value) = Value.bool (A == K) := congrArg Value.bool (by rw [img_beq]; simp [*])
      exact ⟨_, Res.one (v := .bool ((A.words == K.words))) rfl rfl, hfin, E7⟩
    · refine WL.guardF (b' := false) (yf_bool rfl rfl hg17) rfl rfl ?_
      refine WL.guardF (b' := false) (yf_bool rfl rfl hg17) rfl rfl ?_
      refine WL.guardF (b' := false) (yf_bool rfl rfl hg17) rfl rfl ?_
      refine WL.guardF (b' := false) (yf_bool rfl rfl hg17) rfl rfl ?_
      refine WL.guardF (b' := false) (yf_bool rfl rfl hg17) rfl rfl ?_
      refine WL.pick (b := false) (congrArg Value.bool hg17) rfl rfl ?_
      refine WL.assign (v := .bool (false)) rfl rfl ?_
      refine WL.nil ?_
      refine WC.ret ?_
      have hfin : ((.bool (false)) : Value) = Value.bool (A == K) := congrArg Value.bool (by rw [img_beq]; simp [*])
      exact ⟨_, Res.one (v := .bool (false)) rfl rfl, hfin, E4⟩
  · refine WL.guardF (b' := false) (yf_bool rfl rfl hg10) rfl rfl ?_
    refine WL.guardF (b' := false) (yf_bool rfl rfl hg10) rfl rfl ?_
    refine WL.guardF (b' := false) (yf_bool rfl rfl hg10) rfl rfl ?_
    refine WL.guardF (b' := false) (yf_bool rfl rfl hg10) rfl rfl ?_
    refine WL.guardF (b' := false) (yf_bool rfl rfl hg10) rfl rfl ?_
    refine WL.pick (b := false) (congrArg Value.bool hg10) rfl rfl ?_
    refine WL.move (v := .bool (false)) rfl rfl ?_
    refine WL.guardF (b' := false) (rfl) rfl rfl ?_
    refine WL.guardF (b' := false) (rfl) rfl rfl ?_
    refine WL.guardF (b' := false) (rfl) rfl rfl ?_
    refine WL.guardF (b' := false) (rfl) rfl rfl ?_
    refine WL.guardF (b' := false) (rfl) rfl rfl ?_
    refine WL.pick (b := false) rfl rfl rfl ?_
    refine WL.assign (v := .bool (false)) rfl rfl ?_
    refine WL.nil ?_
    refine WC.ret ?_
    have hfin : ((.bool (false)) : Value) = Value.bool (A == K) := congrArg Value.bool (by rw [img_beq]; simp [*])
    exact ⟨_, Res.one (v := .bool (false)) rfl rfl, hfin, E2⟩
end Go.Proofs.I
