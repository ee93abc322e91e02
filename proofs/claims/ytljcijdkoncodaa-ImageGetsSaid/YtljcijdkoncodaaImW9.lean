import Derived.Test.YtljcijdkoncodaaImgBig
import Derived.Test.YtljcijdkoncodaaRows
import Derived.Test.YtljcijdkoncodaaImW8
set_option linter.unusedSimpArgs false
set_option linter.unusedVariables false
namespace Go.Proofs.I
open Go Go.Ux Go.Ux.Image Go.Proofs
theorem fo33_0 : fieldOff Try.prog 33 0 = some 0 := by kernel_rfl
theorem fo33_1 : fieldOff Try.prog 33 1 = some 1 := by kernel_rfl
theorem ag31 : isAggT Try.prog 31 = some false := by kernel_rfl
theorem el31 : elemT Try.prog 31 = some 54 := by kernel_rfl
theorem fo33_2 : fieldOff Try.prog 33 2 = some 2 := by kernel_rfl
theorem sz54 : sizeT Try.prog 54 = some 2 := by kernel_rfl
theorem ag54 : isAggT Try.prog 54 = some true := by kernel_rfl

theorem rsame_spec (sa wa sb wb : Value) (A K : Img) (w : World) (hA : Rep w sa wa A) (hK : Rep w sb wb K) : CallsR Try.prog 15 #[.agg #[.int .i64 (A.entry), sa, wa], .agg #[.int .i64 (K.entry), sb, wb]] w (fun v w' => v = .bool (A == K) ∧ Ext w w') := by
  have hA1 := hA.ls
  have hA2 := hA.lw
  refine callsR_of Try.func15 rfl rfl rfl ?_
  refine WC.seq ?_
  refine WC.region ?_
  refine WL.box (v := .agg #[.int .i64 (A.entry), sa, wa]) rfl rfl ?_
  intro b2 w2 n2
  have E1 : Ext w w2 := Mod.trans (Mod.refl _ _) (n2.ext)
  refine WL.box (v := .agg #[.int .i64 (K.entry), sb, wb]) rfl rfl ?_
  intro b3 w3 n3
  have E2 : Ext w w3 := Mod.trans (E1) (n3.ext)
  refine WL.assign (v := .bool (false)) rfl rfl ?_
  refine WL.nil ?_
  refine WC.seq ?_
  refine WC.seq ?_
  refine WC.region ?_
  refine WL.fieldAddr rfl fo33_0 rfl ?_
  have B3 := (n2.blk).ext (n3.ext)
  refine WL.load1 rfl ag3 (B3.cell (j := 0) rfl) rfl ?_
  refine WL.fieldAddr rfl fo33_0 rfl ?_
  refine WL.load1 rfl ag3 (n3.blk.cell (j := 0) rfl) rfl ?_
  refine WL.bin rfl rfl rfl (BinR.neq) ?_
  refine WL.move (v := .bool (((A.entry : Int) != (K.entry : Int)))) rfl rfl ?_
  rcases Bool.eq_false_or_eq_true (((A.entry : Int) != (K.entry : Int))) with hg12 | hg12
  · have hne : A ≠ K := by intro e; subst e; simp at hg12
    refine WL.guardF (b' := true) (yf_bool rfl rfl hg12) rfl rfl ?_
    refine WL.guardF (b' := true) (yf_bool rfl rfl hg12) rfl rfl ?_
    refine WL.guardF (b' := true) (yf_bool rfl rfl hg12) rfl rfl ?_
    refine WL.guardF (b' := true) (yf_bool rfl rfl hg12) rfl rfl ?_
    refine WL.guardF (b' := true) (yf_bool rfl rfl hg12) rfl rfl ?_
    refine WL.guardF (b' := true) (yf_bool rfl rfl hg12) rfl rfl ?_
    refine WL.guardF (b' := true) (yf_bool rfl rfl hg12) rfl rfl ?_
    refine WL.pick (b := true) (congrArg Value.bool hg12) rfl rfl ?_
    refine WL.move (v := .bool (true)) rfl rfl ?_
    refine WL.guardF (b' := true) (rfl) rfl rfl ?_
    refine WL.guardF (b' := true) (rfl) rfl rfl ?_
    refine WL.guardF (b' := true) (rfl) rfl rfl ?_
    refine WL.guardF (b' := true) (rfl) rfl rfl ?_
    refine WL.guardF (b' := true) (rfl) rfl rfl ?_
    refine WL.guardF (b' := true) (rfl) rfl rfl ?_
    refine WL.guardF (b' := true) (rfl) rfl rfl ?_
    refine WL.pick (b := true) rfl rfl rfl ?_
    refine WL.nil ?_
    refine WC.condT rfl ?_
    refine WC.seq ?_
    refine WC.region ?_
    refine WL.assign (v := .bool (false)) rfl rfl ?_
    refine WL.nil ?_
    refine WC.ret ?_
    exact ⟨_, Res.one (v := .bool (false)) rfl rfl, congrArg Value.bool (by first | exact (beq_eq_false_iff_ne.2 hne).symm | exact (beq_iff_eq.2 hall).symm), E2⟩
  · have hen : A.entry = K.entry := by simpa using hg12
    refine WL.guardT (yf_bool rfl rfl hg12) ?_
    refine WL.fieldAddr rfl fo33_1 rfl ?_
    refine WL.guardT (yf_bool rfl rfl hg12) ?_
    refine WL.load1 rfl ag31 (B3.cell (j := 1) rfl) rfl ?_
    refine WL.guardT (yf_bool rfl rfl hg12) ?_
    refine WL.lenSl (sz := 2) (m := A.syms.length) (xs := symCells A.syms) el31 rfl ((hA.s).ext' (E2)) rfl ?_
    refine WL.guardT (yf_bool rfl rfl hg12) ?_
    refine WL.fieldAddr rfl fo33_1 rfl ?_
    refine WL.guardT (yf_bool rfl rfl hg12) ?_
    refine WL.load1 rfl ag31 (n3.blk.cell (j := 1) rfl) rfl ?_
    refine WL.guardT (yf_bool rfl rfl hg12) ?_
    refine WL.lenSl (sz := 2) (m := K.syms.length) (xs := symCells K.syms) el31 rfl ((hK.s).ext' (E2)) rfl ?_
    refine WL.guardT (yf_bool rfl rfl hg12) ?_
    refine WL.bin rfl rfl rfl (BinR.neq) ?_
    refine WL.pick (b := false) (congrArg Value.bool hg12) rfl rfl ?_
    refine WL.move (v := .bool ((((A.syms.length : Nat) : Int) != ((K.syms.length : Nat) : Int)))) rfl rfl ?_
    rcases Bool.eq_false_or_eq_true ((((A.syms.length : Nat) : Int) != ((K.syms.length : Nat) : Int))) with hg21 | hg21
    · have hne : A ≠ K := by intro e; subst e; simp at hg21
      refine WL.guardF (b' := true) (yf_bool rfl rfl hg21) rfl rfl ?_
      refine WL.guardF (b' := true) (yf_bool rfl rfl hg21) rfl rfl ?_
      refine WL.guardF (b' := true) (yf_bool rfl rfl hg21) rfl rfl ?_
      refine WL.guardF (b' := true) (yf_bool rfl rfl hg21) rfl rfl ?_
      refine WL.guardF (b' := true) (yf_bool rfl rfl hg21) rfl rfl ?_
      refine WL.guardF (b' := true) (yf_bool rfl rfl hg21) rfl rfl ?_
      refine WL.guardF (b' := true) (yf_bool rfl rfl hg21) rfl rfl ?_
      refine WL.pick (b := true) (congrArg Value.bool hg21) rfl rfl ?_
      refine WL.nil ?_
      refine WC.condT rfl ?_
      refine WC.seq ?_
      refine WC.region ?_
      refine WL.assign (v := .bool (false)) rfl rfl ?_
      refine WL.nil ?_
      refine WC.ret ?_
      exact ⟨_, Res.one (v := .bool (false)) rfl rfl, congrArg Value.bool (by first | exact (beq_eq_false_iff_ne.2 hne).symm | exact (beq_iff_eq.2 hall).symm), E2⟩
    · have hls : A.syms.length = K.syms.length := by have := hg21; simp at this; omega
      refine WL.guardT (yf_bool rfl rfl hg21) ?_
      refine WL.fieldAddr rfl fo33_2 rfl ?_
      refine WL.guardT (yf_bool rfl rfl hg21) ?_
      refine WL.load1 rfl ag23 (B3.cell (j := 2) rfl) rfl ?_
      refine WL.guardT (yf_bool rfl rfl hg21) ?_
      refine WL.lenSl (sz := 1) (m := A.words.length) (xs := wordCells A.words) el23 rfl ((hA.w).ext' (E2)) rfl ?_
      refine WL.guardT (yf_bool rfl rfl hg21) ?_
      refine WL.fieldAddr rfl fo33_2 rfl ?_
      refine WL.guardT (yf_bool rfl rfl hg21) ?_
      refine WL.load1 rfl ag23 (n3.blk.cell (j := 2) rfl) rfl ?_
      refine WL.guardT (yf_bool rfl rfl hg21) ?_
      refine WL.lenSl (sz := 1) (m := K.words.length) (xs := wordCells K.words) el23 rfl ((hK.w).ext' (E2)) rfl ?_
      refine WL.guardT (yf_bool rfl rfl hg21) ?_
      refine WL.bin rfl rfl rfl (BinR.neq) ?_
      refine WL.pick (b := false) (congrArg Value.bool hg21) rfl rfl ?_
      refine WL.nil ?_
      refine WC.cond rfl (fun hc29 => ?_) (fun hc29 => ?_)
      · have hne : A ≠ K := by intro e; subst e; simp at hc29
        refine WC.seq ?_
        refine WC.region ?_
        refine WL.assign (v := .bool (false)) rfl rfl ?_
        refine WL.nil ?_
        refine WC.ret ?_
        exact ⟨_, Res.one (v := .bool (false)) rfl rfl, congrArg Value.bool (by first | exact (beq_eq_false_iff_ne.2 hne).symm | exact (beq_iff_eq.2 hall).symm), E2⟩
      · have hlw : A.words.length = K.words.length := by have := hc29; simp at this; omega
        refine WC.skip ?_
        refine WC.seq ?_
        refine WC.seq ?_
        refine WC.region ?_
        refine WL.assign (v := IN (0)) rfl rfl ?_
        refine WL.nil ?_
        refine WC.block ?_
        refine WC.loop (fun k f w_ => ∃ j, (k + j = A.syms.length) ∧ (A.syms.take j = K.syms.take j) ∧ f 0 = .agg #[.int .i64 (A.entry), sa, wa] ∧ f 1 = .agg #[.int .i64 (K.entry), sb, wb] ∧ f 2 = ptr b2 0 ∧ f 3 = ptr b3 0 ∧ f 5 = IN (j) ∧ f 7 = ptr b2 0 ∧ f 8 = .int .i64 (A.entry) ∧ f 9 = ptr b3 0 ∧ f 10 = .int .i64 (K.entry) ∧ f 11 = .bool (((A.entry : Int) != (K.entry : Int))) ∧ f 12 = .bool (((A.entry : Int) != (K.entry : Int))) ∧ f 13 = ptr b2 1 ∧ f 14 = sa ∧ f 15 = IN (A.syms.length) ∧ f 16 = ptr b3 1 ∧ f 17 = sb ∧ f 18 = IN (K.syms.length) ∧ f 19 = .bool ((((A.syms.length : Nat) : Int) != ((K.syms.length : Nat) : Int))) ∧ f 20 = .bool ((((A.syms.length : Nat) : Int) != ((K.syms.length : Nat) : Int))) ∧ f 21 = .bool ((((A.syms.length : Nat) : Int) != ((K.syms.length : Nat) : Int))) ∧ f 22 = ptr b2 2 ∧ f 23 = wa ∧ f 24 = IN (A.words.length) ∧ f 25 = ptr b3 2 ∧ f 26 = wb ∧ f 27 = IN (K.words.length) ∧ f 28 = .bool ((((A.words.length : Nat) : Int) != ((K.words.length : Nat) : Int))) ∧ f 29 = .bool ((((A.words.length : Nat) : Int) != ((K.words.length : Nat) : Int))) ∧ (Ext w w_) ∧ (Blk w_ b2 #[.int .i64 A.entry, sa, wa] 33) ∧ (Blk w_ b3 #[.int .i64 K.entry, sb, wb] 33)) (A.syms.length) ?_ ?_
        · exact ⟨(0), by omega, rfl, rfl, rfl, rfl, rfl, rfl, rfl, rfl, rfl, rfl, rfl, rfl, rfl, rfl, rfl, rfl, rfl, rfl, rfl, rfl, rfl, rfl, rfl, rfl, rfl, rfl, rfl, rfl, rfl, E2, B3, n3.blk⟩
        rintro k f1 wr ⟨j, hk1, ht, h0_1, h1_1, h2_1, h3_1, h5_1, h7_1, h8_1, h9_1, h10_1, h11_1, h12_1, h13_1, h14_1, h15_1, h16_1, h17_1, h18_1, h19_1, h20_1, h21_1, h22_1, h23_1, h24_1, h25_1, h26_1, h27_1, h28_1, h29_1, hE1, hB2, hB3⟩
        refine WC.seq ?_
        refine WC.seq ?_
        refine WC.region ?_
        refine WL.move (v := IN (j)) h5_1 rfl ?_
        refine WL.fieldAddr h2_1 fo33_1 rfl ?_
        refine WL.load1 rfl ag31 (hB2.cell (j := 1) rfl) rfl ?_
        refine WL.lenSl (sz := 2) (m := A.syms.length) (xs := symCells A.syms) el31 rfl ((hA.s).ext' (hE1)) rfl ?_
        refine WL.bin rfl rfl rfl (BinR.lss) ?_
        refine WL.nil ?_
        refine WC.cond rfl (fun hc34 => ?_) (fun hc34 => ?_)
        · have hj : j < A.syms.length := by have := of_decide_eq_true hc34; omega
          have hj2 : j < K.syms.length := by omega
          obtain ⟨bsa, osa, csa, esa, hcsa⟩ := hA.s.at (by omega)
          obtain ⟨bsb, osb, csb, esb, hcsb⟩ := hK.s.at (by omega)
          refine WC.skip ?_
          refine WC.seq ?_
          refine WC.block ?_
          refine WC.seq ?_
          refine WC.draw (fun w_ => Ext wr w_) 11 rfl mixed ?_
          intro wd_6 ed_6
          have R4 : Ext wr wd_6 := Mod.trans (Mod.refl _ _) (ed_6)
          have R5 : Ext wr wd_6 := Mod.trans (Mod.refl _ _) (ed_6)
          have E6 : Ext w wd_6 := Mod.trans (hE1) (ed_6)
          refine WA.take (i := 0) (m' := 1) (v := ptr b2 1) rfl rfl rfl rfl (by kernel_rfl) rfl (fun _ _ _ h => h) (fun wx hS => ?_) (R5) ?_
          · have E7 : Ext w wx := Mod.trans (hE1) (hS)
            refine WL.fieldAddr h2_1 fo33_1 rfl ?_
            exact WL.nil ⟨rfl, rfl, rfl⟩
          refine WA.take (i := 1) (m' := 3) (v := sa) rfl rfl rfl rfl (by kernel_rfl) rfl (fun _ _ _ h => h) (fun wx hS => ?_) (R5) ?_
          · have E8 : Ext w wx := Mod.trans (hE1) (hS)
            have B9 := (hB2).ext (hS)
            refine WL.load1 rfl ag31 (B9.cell (j := 1) rfl) rfl ?_
            exact WL.nil ⟨rfl, rfl, rfl⟩
          refine WA.take (i := 2) (m' := 7) (v := IN (j)) rfl rfl rfl rfl (by kernel_rfl) rfl (fun _ _ _ h => h) (fun wx hS => ?_) (R5) ?_
          · have E10 : Ext w wx := Mod.trans (hE1) (hS)
            refine WL.move (v := IN (j)) h5_1 rfl ?_
            exact WL.nil ⟨rfl, rfl, rfl⟩
          refine WA.take (i := 3) (m' := 15) (v := ptr bsa (osa + (j) * 2)) rfl rfl rfl rfl (by kernel_rfl) rfl (fun _ _ _ h => h) (fun wx hS => ?_) (R5) ?_
          · have E11 : Ext w wx := Mod.trans (hE1) (hS)
            refine WL.indexAddr (i := j) (b := bsa) (o := osa) el31 sz54 (Eq.trans (rfl) esa) rfl (by omega) rfl ?_
            exact WL.nil ⟨rfl, rfl, rfl⟩
          refine WA.take (i := 4) (m' := 31) (v := .agg #[St (A.syms[j]).1, .int .i64 ((A.syms[j]).2)]) rfl rfl rfl rfl (by kernel_rfl) rfl (fun _ _ _ h => h) (fun wx hS => ?_) (R5) ?_
          · have E12 : Ext w wx := Mod.trans (hE1) (hS)
            refine WL.loadS [St (A.syms[j]).1, .int .i64 ((A.syms[j]).2)] rfl ag54 sz54 rfl (cells2 (hcsa.ext (E12)) ((symCells_get A.syms j (by omega))).1 ((symCells_get A.syms j (by omega))).2) rfl ?_
            exact WL.nil ⟨rfl, rfl, rfl⟩
          refine WA.take (i := 5) (m' := 63) (v := ptr b3 1) rfl rfl rfl rfl (by kernel_rfl) rfl (fun _ _ _ h => h) (fun wx hS => ?_) (R5) ?_
          · have E13 : Ext w wx := Mod.trans (hE1) (hS)
            refine WL.fieldAddr h3_1 fo33_1 rfl ?_
            exact WL.nil ⟨rfl, rfl, rfl⟩
          refine WA.take (i := 6) (m' := 127) (v := sb) rfl rfl rfl rfl (by kernel_rfl) rfl (fun _ _ _ h => h) (fun wx hS => ?_) (R5) ?_
          · have E14 : Ext w wx := Mod.trans (hE1) (hS)
            have B15 := (hB3).ext (hS)
            refine WL.load1 rfl ag31 (B15.cell (j := 1) rfl) rfl ?_
            exact WL.nil ⟨rfl, rfl, rfl⟩
          refine WA.take (i := 7) (m' := 255) (v := IN (j)) rfl rfl rfl rfl (by kernel_rfl) rfl (fun _ _ _ h => h) (fun wx hS => ?_) (R5) ?_
          · have E16 : Ext w wx := Mod.trans (hE1) (hS)
            refine WL.move (v := IN (j)) h5_1 rfl ?_
            exact WL.nil ⟨rfl, rfl, rfl⟩
          refine WA.take (i := 8) (m' := 511) (v := ptr bsb (osb + (j) * 2)) rfl rfl rfl rfl (by kernel_rfl) rfl (fun _ _ _ h => h) (fun wx hS => ?_) (R5) ?_
          · have E17 : Ext w wx := Mod.trans (hE1) (hS)
            refine WL.indexAddr (i := j) (b := bsb) (o := osb) el31 sz54 (Eq.trans (rfl) esb) rfl (by omega) rfl ?_
            exact WL.nil ⟨rfl, rfl, rfl⟩
          refine WA.take (i := 9) (m' := 1023) (v := .agg #[St (K.syms[j]).1, .int .i64 ((K.syms[j]).2)]) rfl rfl rfl rfl (by kernel_rfl) rfl (fun _ _ _ h => h) (fun wx hS => ?_) (R5) ?_
          · have E18 : Ext w wx := Mod.trans (hE1) (hS)
            refine WL.loadS [St (K.syms[j]).1, .int .i64 ((K.syms[j]).2)] rfl ag54 sz54 rfl (cells2 (hcsb.ext (E18)) ((symCells_get K.syms j (by omega))).1 ((symCells_get K.syms j (by omega))).2) rfl ?_
            exact WL.nil ⟨rfl, rfl, rfl⟩
          refine WA.take (i := 10) (m' := 2047) (v := .bool (!((A.syms[j]).1 == (K.syms[j]).1 && (A.syms[j]).2 == (K.syms[j]).2))) rfl rfl rfl rfl (by kernel_rfl) rfl (fun _ _ _ h => h) (fun wx hS => ?_) (R5) ?_
          · have E19 : Ext w wx := Mod.trans (hE1) (hS)
            refine WL.bin rfl rfl rfl (BinR.neqSym sym54 symg54) ?_
            exact WL.nil ⟨rfl, rfl, rfl⟩
          refine WA.done (by kernel_rfl) ?_
          refine WC.cond rfl (fun hc47 => ?_) (fun hc47 => ?_)
          · have hne : A ≠ K := by intro e; subst e; simp at hc47
            refine WC.seq ?_
            refine WC.region ?_
            refine WL.assign (v := .bool (false)) rfl rfl ?_
            refine WL.nil ?_
            refine WC.ret ?_
            exact ⟨_, Res.one (v := .bool (false)) rfl rfl, congrArg Value.bool (by first | exact (beq_eq_false_iff_ne.2 hne).symm | exact (beq_iff_eq.2 hall).symm), E6⟩
          · have heq : A.syms[j] = K.syms[j] := by simp at hc47; exact Prod.ext hc47.1 hc47.2
            refine WC.skip ?_
            refine WC.region ?_
            refine WL.move (v := IN (j)) h5_1 rfl ?_
            refine WL.bin rfl rfl rfl (BinR.succN (by omega)) ?_
            refine WL.assign (v := IN (j + 1)) rfl rfl ?_
            refine WL.nil ?_
            have B20 := (hB2).ext (ed_6)
            have B21 := (hB3).ext (ed_6)
            exact ⟨k - 1, by omega, (j + 1), by omega, eq_step _ _ j (by omega) (by omega) ht heq, h0_1, h1_1, h2_1, h3_1, rfl, h7_1, h8_1, h9_1, h10_1, h11_1, h12_1, h13_1, h14_1, h15_1, h16_1, h17_1, h18_1, h19_1, h20_1, h21_1, h22_1, h23_1, h24_1, h25_1, h26_1, h27_1, h28_1, h29_1, E6, B20, B21⟩
        · have hj : A.syms.length ≤ j := by have := of_decide_eq_false hc34; omega
          have hsy : A.syms = K.syms := by rwa [List.take_of_length_le (by omega), List.take_of_length_le (by omega)] at ht
          refine WC.exit ?_
          refine WC.seq ?_
          refine WC.seq ?_
          refine WC.region ?_
          refine WL.assign (v := IN (0)) rfl rfl ?_
          refine WL.nil ?_
          refine WC.block ?_
          refine WC.loop (fun k f w_ => ∃ i, (k + i = A.words.length) ∧ (A.words.take i = K.words.take i) ∧ f 0 = .agg #[.int .i64 (A.entry), sa, wa] ∧ f 1 = .agg #[.int .i64 (K.entry), sb, wb] ∧ f 2 = ptr b2 0 ∧ f 3 = ptr b3 0 ∧ f 5 = IN (j) ∧ f 6 = IN (i) ∧ f 7 = ptr b2 0 ∧ f 8 = .int .i64 (A.entry) ∧ f 9 = ptr b3 0 ∧ f 10 = .int .i64 (K.entry) ∧ f 11 = .bool (((A.entry : Int) != (K.entry : Int))) ∧ f 12 = .bool (((A.entry : Int) != (K.entry : Int))) ∧ f 13 = ptr b2 1 ∧ f 14 = sa ∧ f 15 = IN (A.syms.length) ∧ f 16 = ptr b3 1 ∧ f 17 = sb ∧ f 18 = IN (K.syms.length) ∧ f 19 = .bool ((((A.syms.length : Nat) : Int) != ((K.syms.length : Nat) : Int))) ∧ f 20 = .bool ((((A.syms.length : Nat) : Int) != ((K.syms.length : Nat) : Int))) ∧ f 21 = .bool ((((A.syms.length : Nat) : Int) != ((K.syms.length : Nat) : Int))) ∧ f 22 = ptr b2 2 ∧ f 23 = wa ∧ f 24 = IN (A.words.length) ∧ f 25 = ptr b3 2 ∧ f 26 = wb ∧ f 27 = IN (K.words.length) ∧ f 28 = .bool ((((A.words.length : Nat) : Int) != ((K.words.length : Nat) : Int))) ∧ f 29 = .bool ((((A.words.length : Nat) : Int) != ((K.words.length : Nat) : Int))) ∧ f 30 = IN (j) ∧ f 31 = ptr b2 1 ∧ f 32 = sa ∧ f 33 = IN (A.syms.length) ∧ f 34 = .bool (decide (((j : Nat) : Int) < ((A.syms.length : Nat) : Int))) ∧ (Ext w w_) ∧ (Blk w_ b2 #[.int .i64 A.entry, sa, wa] 33) ∧ (Blk w_ b3 #[.int .i64 K.entry, sb, wb] 33)) (A.words.length) ?_ ?_
          · exact ⟨(0), by omega, rfl, h0_1, h1_1, h2_1, h3_1, h5_1, rfl, h7_1, h8_1, h9_1, h10_1, h11_1, h12_1, h13_1, h14_1, h15_1, h16_1, h17_1, h18_1, h19_1, h20_1, h21_1, h22_1, h23_1, h24_1, h25_1, h26_1, h27_1, h28_1, h29_1, rfl, rfl, rfl, rfl, rfl, hE1, hB2, hB3⟩
          rintro k f2 wr2 ⟨i, hk2, ht2, h0_2, h1_2, h2_2, h3_2, h5_2, h6_2, h7_2, h8_2, h9_2, h10_2, h11_2, h12_2, h13_2, h14_2, h15_2, h16_2, h17_2, h18_2, h19_2, h20_2, h21_2, h22_2, h23_2, h24_2, h25_2, h26_2, h27_2, h28_2, h29_2, h30_2, h31_2, h32_2, h33_2, h34_2, hE2, hB2, hB3⟩
          refine WC.seq ?_
          refine WC.seq ?_
          refine WC.region ?_
          refine WL.move (v := IN (i)) h6_2 rfl ?_
          refine WL.fieldAddr h2_2 fo33_2 rfl ?_
          refine WL.load1 rfl ag23 (hB2.cell (j := 2) rfl) rfl ?_
          refine WL.lenSl (sz := 1) (m := A.words.length) (xs := wordCells A.words) el23 rfl ((hA.w).ext' (hE2)) rfl ?_
          refine WL.bin rfl rfl rfl (BinR.lss) ?_
          refine WL.nil ?_
          refine WC.cond rfl (fun hc52 => ?_) (fun hc52 => ?_)
          · have hi : i < A.words.length := by have := of_decide_eq_true hc52; omega
            have hi2 : i < K.words.length := by omega
            obtain ⟨bwa, owa, cwa, ewa, hcwa⟩ := hA.w.at (by omega)
            obtain ⟨bwb, owb, cwb, ewb, hcwb⟩ := hK.w.at (by omega)
            refine WC.skip ?_
            refine WC.seq ?_
            refine WC.block ?_
            refine WC.seq ?_
            refine WC.draw (fun w_ => Ext wr2 w_) 11 rfl mixed ?_
            intro wd_11 ed_11
            have R22 : Ext wr2 wd_11 := Mod.trans (Mod.refl _ _) (ed_11)
            have R23 : Ext wr2 wd_11 := Mod.trans (Mod.refl _ _) (ed_11)
            have E24 : Ext w wd_11 := Mod.trans (hE2) (ed_11)
            refine WA.take (i := 0) (m' := 1) (v := ptr b2 2) rfl rfl rfl rfl (by kernel_rfl) rfl (fun _ _ _ h => h) (fun wx hS => ?_) (R23) ?_
            · have E25 : Ext w wx := Mod.trans (hE2) (hS)
              refine WL.fieldAddr h2_2 fo33_2 rfl ?_
              exact WL.nil ⟨rfl, rfl, rfl⟩
            refine WA.take (i := 1) (m' := 3) (v := wa) rfl rfl rfl rfl (by kernel_rfl) rfl (fun _ _ _ h => h) (fun wx hS => ?_) (R23) ?_
            · have E26 : Ext w wx := Mod.trans (hE2) (hS)
              have B27 := (hB2).ext (hS)
              refine WL.load1 rfl ag23 (B27.cell (j := 2) rfl) rfl ?_
              exact WL.nil ⟨rfl, rfl, rfl⟩
            refine WA.take (i := 2) (m' := 7) (v := IN (i)) rfl rfl rfl rfl (by kernel_rfl) rfl (fun _ _ _ h => h) (fun wx hS => ?_) (R23) ?_
            · have E28 : Ext w wx := Mod.trans (hE2) (hS)
              refine WL.move (v := IN (i)) h6_2 rfl ?_
              exact WL.nil ⟨rfl, rfl, rfl⟩
            refine WA.take (i := 3) (m' := 15) (v := ptr bwa (owa + (i) * 1)) rfl rfl rfl rfl (by kernel_rfl) rfl (fun _ _ _ h => h) (fun wx hS => ?_) (R23) ?_
            · have E29 : Ext w wx := Mod.trans (hE2) (hS)
              refine WL.indexAddr (i := i) (b := bwa) (o := owa) el23 sz42 (Eq.trans (rfl) ewa) rfl (by omega) rfl ?_
              exact WL.nil ⟨rfl, rfl, rfl⟩
            refine WA.take (i := 4) (m' := 31) (v := .int .u32 ((A.words[i]).toNat)) rfl rfl rfl rfl (by kernel_rfl) rfl (fun _ _ _ h => h) (fun wx hS => ?_) (R23) ?_
            · have E30 : Ext w wx := Mod.trans (hE2) (hS)
              refine WL.load1 rfl ag42 ((hcwa.ext (E30)) (i * 1) _ (by rw [Nat.mul_one]; exact word_get A.words i (by omega))) rfl ?_
              exact WL.nil ⟨rfl, rfl, rfl⟩
            refine WA.take (i := 5) (m' := 63) (v := ptr b3 2) rfl rfl rfl rfl (by kernel_rfl) rfl (fun _ _ _ h => h) (fun wx hS => ?_) (R23) ?_
            · have E31 : Ext w wx := Mod.trans (hE2) (hS)
              refine WL.fieldAddr h3_2 fo33_2 rfl ?_
              exact WL.nil ⟨rfl, rfl, rfl⟩
            refine WA.take (i := 6) (m' := 127) (v := wb) rfl rfl rfl rfl (by kernel_rfl) rfl (fun _ _ _ h => h) (fun wx hS => ?_) (R23) ?_
            · have E32 : Ext w wx := Mod.trans (hE2) (hS)
              have B33 := (hB3).ext (hS)
              refine WL.load1 rfl ag23 (B33.cell (j := 2) rfl) rfl ?_
              exact WL.nil ⟨rfl, rfl, rfl⟩
            refine WA.take (i := 7) (m' := 255) (v := IN (i)) rfl rfl rfl rfl (by kernel_rfl) rfl (fun _ _ _ h => h) (fun wx hS => ?_) (R23) ?_
            · have E34 : Ext w wx := Mod.trans (hE2) (hS)
              refine WL.move (v := IN (i)) h6_2 rfl ?_
              exact WL.nil ⟨rfl, rfl, rfl⟩
            refine WA.take (i := 8) (m' := 511) (v := ptr bwb (owb + (i) * 1)) rfl rfl rfl rfl (by kernel_rfl) rfl (fun _ _ _ h => h) (fun wx hS => ?_) (R23) ?_
            · have E35 : Ext w wx := Mod.trans (hE2) (hS)
              refine WL.indexAddr (i := i) (b := bwb) (o := owb) el23 sz42 (Eq.trans (rfl) ewb) rfl (by omega) rfl ?_
              exact WL.nil ⟨rfl, rfl, rfl⟩
            refine WA.take (i := 9) (m' := 1023) (v := .int .u32 ((K.words[i]).toNat)) rfl rfl rfl rfl (by kernel_rfl) rfl (fun _ _ _ h => h) (fun wx hS => ?_) (R23) ?_
            · have E36 : Ext w wx := Mod.trans (hE2) (hS)
              refine WL.load1 rfl ag42 ((hcwb.ext (E36)) (i * 1) _ (by rw [Nat.mul_one]; exact word_get K.words i (by omega))) rfl ?_
              exact WL.nil ⟨rfl, rfl, rfl⟩
            refine WA.take (i := 10) (m' := 2047) (v := .bool ((((A.words[i]).toNat : Int) != ((K.words[i]).toNat : Int)))) rfl rfl rfl rfl (by kernel_rfl) rfl (fun _ _ _ h => h) (fun wx hS => ?_) (R23) ?_
            · have E37 : Ext w wx := Mod.trans (hE2) (hS)
              refine WL.bin rfl rfl rfl (BinR.neq) ?_
              exact WL.nil ⟨rfl, rfl, rfl⟩
            refine WA.done (by kernel_rfl) ?_
            refine WC.cond rfl (fun hc65 => ?_) (fun hc65 => ?_)
            · have hne : A ≠ K := by intro e; subst e; simp at hc65
              refine WC.seq ?_
              refine WC.region ?_
              refine WL.assign (v := .bool (false)) rfl rfl ?_
              refine WL.nil ?_
              refine WC.ret ?_
              exact ⟨_, Res.one (v := .bool (false)) rfl rfl, congrArg Value.bool (by first | exact (beq_eq_false_iff_ne.2 hne).symm | exact (beq_iff_eq.2 hall).symm), E24⟩
            · have heq : A.words[i] = K.words[i] := eq_of_u32 hc65
              refine WC.skip ?_
              refine WC.region ?_
              refine WL.move (v := IN (i)) h6_2 rfl ?_
              refine WL.bin rfl rfl rfl (BinR.succN (by omega)) ?_
              refine WL.assign (v := IN (i + 1)) rfl rfl ?_
              refine WL.nil ?_
              have B38 := (hB2).ext (ed_11)
              have B39 := (hB3).ext (ed_11)
              exact ⟨k - 1, by omega, (i + 1), by omega, eq_step _ _ i (by omega) (by omega) ht2 heq, h0_2, h1_2, h2_2, h3_2, h5_2, rfl, h7_2, h8_2, h9_2, h10_2, h11_2, h12_2, h13_2, h14_2, h15_2, h16_2, h17_2, h18_2, h19_2, h20_2, h21_2, h22_2, h23_2, h24_2, h25_2, h26_2, h27_2, h28_2, h29_2, h30_2, h31_2, h32_2, h33_2, h34_2, E24, B38, B39⟩
          · have hi : A.words.length ≤ i := by have := of_decide_eq_false hc52; omega
            have hwo : A.words = K.words := by rwa [List.take_of_length_le (by omega), List.take_of_length_le (by omega)] at ht2
            have hall : A = K := by cases A; cases K; simp_all
            refine WC.exit ?_
            refine WC.seq ?_
            refine WC.region ?_
            refine WL.assign (v := .bool (true)) rfl rfl ?_
            refine WL.nil ?_
            refine WC.ret ?_
            exact ⟨_, Res.one (v := .bool (true)) rfl rfl, congrArg Value.bool (by first | exact (beq_eq_false_iff_ne.2 hne).symm | exact (beq_iff_eq.2 hall).symm), hE2⟩
end Go.Proofs.I
