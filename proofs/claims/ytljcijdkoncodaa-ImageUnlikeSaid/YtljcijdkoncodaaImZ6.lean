import Derived.Test.YtljcijdkoncodaaImgBig
import Derived.Test.YtljcijdkoncodaaRows
import Derived.Test.YtljcijdkoncodaaImZ5
set_option linter.unusedSimpArgs false
set_option linter.unusedVariables false
namespace Go.Proofs.I
open Go Go.Ux Go.Ux.Image Go.Proofs
theorem ca9 : callable Try.prog 9 = true := by kernel_rfl

theorem puts_big (sv wv : Value) (I : Img) (w : World) (hs : Sl w sv 2 I.syms.length (symCells I.syms)) (hw : Sl w wv 1 I.words.length (wordCells I.words)) (hI : largeB I = true) : CallsR Try.prog 3 #[.agg #[.int .i64 (I.entry), sv, wv]] w (fun v w' => v = .bool true ∧ Ext w w') := by
  refine callsR_of Try.func3 rfl rfl rfl ?_
  refine WC.seq ?_
  refine WC.region ?_
  refine WL.box (v := .agg #[.int .i64 (I.entry), sv, wv]) rfl rfl ?_
  intro b1 w1 n1
  have E1 : Ext w w1 := Mod.trans (Mod.refl _ _) (n1.ext)
  refine WL.assign (v := .bool (false)) rfl rfl ?_
  refine WL.nil ?_
  refine WC.seq ?_
  refine WC.seq ?_
  refine WC.region ?_
  refine WL.loadS [.int .i64 (I.entry), sv, wv] rfl ag25 sz25 rfl (n1.blk.sub (o := 0) (vs := [.int .i64 (I.entry), sv, wv]) rfl) rfl ?_
  refine WL.call ca7 (rfl) rfl (large_spec sv wv I _ ((hs).ext' (E1)) ((hw).ext' (E1))) ?_
  rintro _ wlI ⟨rfl, elI⟩
  rw [hI]
  have E2 : Ext w wlI := Mod.trans (E1) (elI)
  refine WL.nil ?_
  refine WC.condT rfl ?_
  refine WC.seq ?_
  refine WC.region ?_
  refine WL.call ca8 (rfl) rfl (works_spec _) ?_
  rintro _ wk13 ⟨rfl, ek13⟩
  have E3 : Ext w wk13 := Mod.trans (E2) (ek13)
  refine WL.assign (v := .bool (true)) rfl rfl ?_
  refine WL.nil ?_
  refine WC.ret ?_
  exact ⟨_, Res.one (v := .bool (true)) rfl rfl, rfl, E3⟩

theorem puts_no (sv wv : Value) (I : Img) (w : World) (hs : Sl w sv 2 I.syms.length (symCells I.syms)) (hw : Sl w wv 1 I.words.length (wordCells I.words)) (hI : largeB I = false) (hatI : ∀ s ∈ I.syms, s.2 ≤ 9223372036854775807) (hrI : rightB I = false) : CallsR Try.prog 3 #[.agg #[.int .i64 (I.entry), sv, wv]] w (fun v w' => v = .bool true ∧ Ext w w') := by
  obtain ⟨hlI1, hlI2, hlI3⟩ := largeB_no hI
  have hNI : ∀ s ∈ I.syms, s.1.length ≤ 1000000000 ∧ s.2 ≤ 9223372036854775807 := fun s hs => ⟨by have := hlI3 s hs; omega, hatI s hs⟩
  refine callsR_of Try.func3 rfl rfl rfl ?_
  refine WC.seq ?_
  refine WC.region ?_
  refine WL.box (v := .agg #[.int .i64 (I.entry), sv, wv]) rfl rfl ?_
  intro b1 w1 n1
  have E1 : Ext w w1 := Mod.trans (Mod.refl _ _) (n1.ext)
  refine WL.assign (v := .bool (false)) rfl rfl ?_
  refine WL.nil ?_
  refine WC.seq ?_
  refine WC.seq ?_
  refine WC.region ?_
  refine WL.loadS [.int .i64 (I.entry), sv, wv] rfl ag25 sz25 rfl (n1.blk.sub (o := 0) (vs := [.int .i64 (I.entry), sv, wv]) rfl) rfl ?_
  refine WL.call ca7 (rfl) rfl (large_spec sv wv I _ ((hs).ext' (E1)) ((hw).ext' (E1))) ?_
  rintro _ wlI ⟨rfl, elI⟩
  rw [hI]
  have E2 : Ext w wlI := Mod.trans (E1) (elI)
  refine WL.nil ?_
  refine WC.condF rfl ?_
  refine WC.skip ?_
  refine WC.seq ?_
  refine WC.region ?_
  have B3 := (n1.blk).ext (elI)
  refine WL.loadS [.int .i64 (I.entry), sv, wv] rfl ag25 sz25 rfl (B3.sub (o := 0) (vs := [.int .i64 (I.entry), sv, wv]) rfl) rfl ?_
  refine WL.call ca10 (rfl) rfl (plain_spec sv wv I _ ⟨(hs).ext' (E2), (hw).ext' (E2), by omega, by omega⟩) ?_
  rintro _ wp16 ⟨u16, rfl, op16, fp16, ep16⟩
  have E4 : Ext w wp16 := Mod.trans (E2) (ep16)
  refine WL.call ca9 (rfl) rfl (rput_no u16 wv I _ ⟨op16.sl, (hw).ext' (E4), by omega, by omega⟩ hrI) ?_
  rintro _ wx17 ⟨rfl, ex17⟩
  have E5 : Ext w wx17 := Mod.trans (E4) (ex17)
  refine WL.move (v := .tuple #[.slice none 0 0, .bool false]) rfl rfl ?_
  refine WL.extract rfl rfl rfl ?_
  refine WL.extract rfl rfl rfl ?_
  refine WL.assign (v := .slice none 0 0) rfl rfl ?_
  refine WL.assign (v := .bool (false)) rfl rfl ?_
  refine WL.nil ?_
  refine WC.seq ?_
  refine WC.region ?_
  have B6 := ((B3).ext (ep16)).ext (ex17)
  refine WL.loadS [.int .i64 (I.entry), sv, wv] rfl ag25 sz25 rfl (B6.sub (o := 0) (vs := [.int .i64 (I.entry), sv, wv]) rfl) rfl ?_
  refine WL.call ca11 (rfl) rfl (put_no sv wv I _ ⟨(hs).ext' (E5), (hw).ext' (E5), by omega, by omega⟩ hNI hrI) ?_
  rintro _ wq22 ⟨rfl, eq22⟩
  have E7 : Ext w wq22 := Mod.trans (E5) (eq22)
  refine WL.move (v := .tuple #[.slice none 0 0, .int .i64 2]) rfl rfl ?_
  refine WL.extract rfl rfl rfl ?_
  refine WL.extract rfl rfl rfl ?_
  refine WL.assign (v := .slice none 0 0) rfl rfl ?_
  refine WL.assign (v := .int .i64 (2)) rfl rfl ?_
  refine WL.nil ?_
  refine WC.seq ?_
  refine WC.seq ?_
  refine WC.region ?_
  have B8 := (B6).ext (eq22)
  refine WL.loadS [.int .i64 (I.entry), sv, wv] rfl ag25 sz25 rfl (B8.sub (o := 0) (vs := [.int .i64 (I.entry), sv, wv]) rfl) rfl ?_
  refine WL.call ca12 (rfl) rfl (right_spec sv wv I _ ⟨(hs).ext' (E7), (hw).ext' (E7), by omega, by omega⟩ hNI) ?_
  rintro _ wr26 ⟨rfl, er26⟩
  rw [hrI]
  have E9 : Ext w wr26 := Mod.trans (E7) (er26)
  refine WL.move (v := .bool (false)) rfl rfl ?_
  refine WL.bin (v := .bool (false)) rfl rfl rfl (BinR.toB (BinR.neqB Try.underlying4) (rfl)) ?_
  refine WL.move (v := .bool (false)) rfl rfl ?_
  refine WL.guardT (rfl) ?_
  refine WL.move (v := .int .i64 (2)) rfl rfl ?_
  refine WL.guardT (rfl) ?_
  refine WL.bin (v := .bool (false)) rfl rfl rfl (BinR.toB (BinR.eql) (rfl)) ?_
  refine WL.guardT (rfl) ?_
  refine WL.move (v := .bool (false)) rfl rfl ?_
  refine WL.guardT (rfl) ?_
  refine WL.bin (v := .bool (false)) rfl rfl rfl (BinR.toB (BinR.neqB Try.underlying4) (rfl)) ?_
  refine WL.pick (b := false) rfl rfl rfl ?_
  refine WL.move (v := .bool (false)) rfl rfl ?_
  refine WL.guardT (rfl) ?_
  refine WL.move (v := .bool (false)) rfl rfl ?_
  refine WL.guardT (rfl) ?_
  refine WL.un rfl rfl UnR.not ?_
  refine WL.guardT (rfl) ?_
  refine WL.move (v := .bool (true)) rfl rfl ?_
  refine WL.guardT (rfl) ?_
  refine WL.move (v := .int .i64 (2)) rfl rfl ?_
  refine WL.guardT (rfl) ?_
  refine WL.bin (v := .bool (false)) rfl rfl rfl (BinR.toB (BinR.neq) (rfl)) ?_
  refine WL.guardT (rfl) ?_
  refine WL.pick (b := true) rfl rfl rfl ?_
  refine WL.pick (b := false) rfl rfl rfl ?_
  refine WL.move (v := .bool (false)) rfl rfl ?_
  refine WL.guardT (rfl) ?_
  refine WL.move (v := .slice none 0 0) rfl rfl ?_
  refine WL.guardT (rfl) ?_
  refine WL.toString (m := 0) (bl := []) Try.underlying28 Try.underlying5 Try.underlying9 rfl ((Sl.nil w 1 0).ext' (E9)) rfl ?_
  refine WL.guardT (rfl) ?_
  refine WL.move (v := .slice none 0 0) rfl rfl ?_
  refine WL.guardT (rfl) ?_
  refine WL.toString (m := 0) (bl := []) Try.underlying28 Try.underlying5 Try.underlying9 rfl ((Sl.nil w 1 0).ext' (E9)) rfl ?_
  refine WL.guardT (rfl) ?_
  refine WL.bin (v := .bool (false)) rfl rfl rfl (BinR.toB (BinR.neqS) (rfl)) ?_
  refine WL.pick (b := false) rfl rfl rfl ?_
  refine WL.nil ?_
  refine WC.condF rfl ?_
  refine WC.skip ?_
  refine WC.seq ?_
  refine WC.seq ?_
  refine WC.region ?_
  refine WL.move (v := .bool (false)) rfl rfl ?_
  refine WL.un rfl rfl UnR.not ?_
  refine WL.nil ?_
  refine WC.condT rfl ?_
  refine WC.seq ?_
  refine WC.region ?_
  refine WL.call ca8 (rfl) rfl (works_spec _) ?_
  rintro _ wk52 ⟨rfl, ek52⟩
  have E10 : Ext w wk52 := Mod.trans (E9) (ek52)
  refine WL.assign (v := .bool (true)) rfl rfl ?_
  refine WL.nil ?_
  refine WC.ret ?_
  exact ⟨_, Res.one (v := .bool (true)) rfl rfl, rfl, E10⟩

theorem puts_ok (sv wv : Value) (I : Img) (w : World) (hs : Sl w sv 2 I.syms.length (symCells I.syms)) (hw : Sl w wv 1 I.words.length (wordCells I.words)) (hI : largeB I = false) (hatI : ∀ s ∈ I.syms, s.2 ≤ 9223372036854775807) (hrI : rightB I = true) : CallsR Try.prog 3 #[.agg #[.int .i64 (I.entry), sv, wv]] w (fun v w' => v = .bool true ∧ Ext w w') := by
  obtain ⟨hlI1, hlI2, hlI3⟩ := largeB_no hI
  have hNI : ∀ s ∈ I.syms, s.1.length ≤ 1000000000 ∧ s.2 ≤ 9223372036854775807 := fun s hs => ⟨by have := hlI3 s hs; omega, hatI s hs⟩
  obtain ⟨gb1, gb2, gb3, gb4, gb5, gb6, gb7, gb8⟩ := right_bounds hrI
  obtain ⟨hz1, hz2⟩ := bytesOf_le hrI
  have hIX : ((⟨I.entry, I.syms, (I.words.set 0 (I.words[0] + 1#32))⟩ : Img) == I) = false := beq_eq_false_iff_ne.2 (fun e => bump_ne I.words (by omega) (congrArg Img.words e))
  refine callsR_of Try.func3 rfl rfl rfl ?_
  refine WC.seq ?_
  refine WC.region ?_
  refine WL.box (v := .agg #[.int .i64 (I.entry), sv, wv]) rfl rfl ?_
  intro b1 w1 n1
  have E1 : Ext w w1 := Mod.trans (Mod.refl _ _) (n1.ext)
  refine WL.assign (v := .bool (false)) rfl rfl ?_
  refine WL.nil ?_
  refine WC.seq ?_
  refine WC.seq ?_
  refine WC.region ?_
  refine WL.loadS [.int .i64 (I.entry), sv, wv] rfl ag25 sz25 rfl (n1.blk.sub (o := 0) (vs := [.int .i64 (I.entry), sv, wv]) rfl) rfl ?_
  refine WL.call ca7 (rfl) rfl (large_spec sv wv I _ ((hs).ext' (E1)) ((hw).ext' (E1))) ?_
  rintro _ wlI ⟨rfl, elI⟩
  rw [hI]
  have E2 : Ext w wlI := Mod.trans (E1) (elI)
  refine WL.nil ?_
  refine WC.condF rfl ?_
  refine WC.skip ?_
  refine WC.seq ?_
  refine WC.region ?_
  have B3 := (n1.blk).ext (elI)
  refine WL.loadS [.int .i64 (I.entry), sv, wv] rfl ag25 sz25 rfl (B3.sub (o := 0) (vs := [.int .i64 (I.entry), sv, wv]) rfl) rfl ?_
  refine WL.call ca10 (rfl) rfl (plain_spec sv wv I _ ⟨(hs).ext' (E2), (hw).ext' (E2), by omega, by omega⟩) ?_
  rintro _ wp16 ⟨u16, rfl, op16, fp16, ep16⟩
  have E4 : Ext w wp16 := Mod.trans (E2) (ep16)
  refine WL.call ca9 (rfl) rfl (rput_ok u16 wv I _ ⟨op16.sl, (hw).ext' (E4), by omega, by omega⟩ hrI) ?_
  rintro _ wx17 ⟨u17, rfl, ox17, fx17, ex17⟩
  have E5 : Ext w wx17 := Mod.trans (E4) (ex17)
  refine WL.move (v := .tuple #[u17, .bool true]) rfl rfl ?_
  refine WL.extract rfl rfl rfl ?_
  refine WL.extract rfl rfl rfl ?_
  refine WL.assign (v := u17) rfl rfl ?_
  refine WL.assign (v := .bool (true)) rfl rfl ?_
  refine WL.nil ?_
  refine WC.seq ?_
  refine WC.region ?_
  have B6 := ((B3).ext (ep16)).ext (ex17)
  refine WL.loadS [.int .i64 (I.entry), sv, wv] rfl ag25 sz25 rfl (B6.sub (o := 0) (vs := [.int .i64 (I.entry), sv, wv]) rfl) rfl ?_
  refine WL.call ca11 (rfl) rfl (put_ok sv wv I _ ⟨(hs).ext' (E5), (hw).ext' (E5), by omega, by omega⟩ hNI hrI) ?_
  rintro _ wq22 ⟨u22, rfl, oq22, fq22, eq22⟩
  have E7 : Ext w wq22 := Mod.trans (E5) (eq22)
  refine WL.move (v := .tuple #[u22, .int .i64 0]) rfl rfl ?_
  refine WL.extract rfl rfl rfl ?_
  refine WL.extract rfl rfl rfl ?_
  refine WL.assign (v := u22) rfl rfl ?_
  refine WL.assign (v := .int .i64 (0)) rfl rfl ?_
  refine WL.nil ?_
  refine WC.seq ?_
  refine WC.seq ?_
  refine WC.region ?_
  have B8 := (B6).ext (eq22)
  refine WL.loadS [.int .i64 (I.entry), sv, wv] rfl ag25 sz25 rfl (B8.sub (o := 0) (vs := [.int .i64 (I.entry), sv, wv]) rfl) rfl ?_
  refine WL.call ca12 (rfl) rfl (right_spec sv wv I _ ⟨(hs).ext' (E7), (hw).ext' (E7), by omega, by omega⟩ hNI) ?_
  rintro _ wr26 ⟨rfl, er26⟩
  rw [hrI]
  have E9 : Ext w wr26 := Mod.trans (E7) (er26)
  refine WL.move (v := .bool (true)) rfl rfl ?_
  refine WL.bin (v := .bool (false)) rfl rfl rfl (BinR.toB (BinR.neqB Try.underlying4) (rfl)) ?_
  refine WL.move (v := .bool (false)) rfl rfl ?_
  refine WL.guardT (rfl) ?_
  refine WL.move (v := .int .i64 (0)) rfl rfl ?_
  refine WL.guardT (rfl) ?_
  refine WL.bin (v := .bool (true)) rfl rfl rfl (BinR.toB (BinR.eql) (rfl)) ?_
  refine WL.guardT (rfl) ?_
  refine WL.move (v := .bool (true)) rfl rfl ?_
  refine WL.guardT (rfl) ?_
  refine WL.bin (v := .bool (false)) rfl rfl rfl (BinR.toB (BinR.neqB Try.underlying4) (rfl)) ?_
  refine WL.pick (b := false) rfl rfl rfl ?_
  refine WL.move (v := .bool (false)) rfl rfl ?_
  refine WL.guardT (rfl) ?_
  refine WL.move (v := .bool (true)) rfl rfl ?_
  refine WL.guardT (rfl) ?_
  refine WL.un rfl rfl UnR.not ?_
  refine WL.guardT (rfl) ?_
  refine WL.move (v := .bool (false)) rfl rfl ?_
  refine WL.guardF (b' := false) (rfl) rfl rfl ?_
  refine WL.guardF (b' := false) (rfl) rfl rfl ?_
  refine WL.guardT (rfl) ?_
  refine WL.pick (b := false) rfl rfl rfl ?_
  refine WL.pick (b := false) rfl rfl rfl ?_
  refine WL.move (v := .bool (false)) rfl rfl ?_
  refine WL.guardT (rfl) ?_
  refine WL.move (v := u22) rfl rfl ?_
  refine WL.guardT (rfl) ?_
  have O10 := (oq22).ext (er26)
  refine WL.toString (m := (bytesOf I).length) (bl := (bytesOf I)) Try.underlying28 Try.underlying5 Try.underlying9 rfl ((O10).sl) rfl ?_
  refine WL.guardT (rfl) ?_
  refine WL.move (v := u17) rfl rfl ?_
  refine WL.guardT (rfl) ?_
  have O11 := ((ox17).ext (eq22)).ext (er26)
  refine WL.toString (m := (bytesOf I).length) (bl := (bytesOf I)) Try.underlying28 Try.underlying5 Try.underlying9 rfl ((O11).sl) rfl ?_
  refine WL.guardT (rfl) ?_
  refine WL.bin (v := .bool (false)) rfl rfl rfl (BinR.toB (BinR.neqS) (by simp)) ?_
  refine WL.pick (b := false) rfl rfl rfl ?_
  refine WL.nil ?_
  refine WC.condF rfl ?_
  refine WC.skip ?_
  refine WC.seq ?_
  refine WC.seq ?_
  refine WC.region ?_
  refine WL.move (v := .bool (true)) rfl rfl ?_
  refine WL.un rfl rfl UnR.not ?_
  refine WL.nil ?_
  refine WC.condF rfl ?_
  refine WC.skip ?_
  refine WC.seq ?_
  refine WC.region ?_
  refine WL.move (v := u22) rfl rfl ?_
  refine WL.call ca13 (rfl) rfl (iget_ok u22 (bytesOf I) _ (O10).sl (fun g hg => (O10).lt (by omega) (by decide) hg) (by omega) I hrI rfl) ?_
  rintro _ w55 ⟨gu, gx, rfl, su55, ox55, fu55, fx55, hne55, e55⟩
  have fxw : From w.heap.size gx := fun g hg => Nat.le_trans (Mod.size (E9)) (fx55 g hg)
  have hug : ∀ g, u22.ownBlock = some g → gx.ownBlock ≠ some g := fun g hg e => by have h1 := (O10).lt (by omega) (by decide) hg; have h2 := fx55 g e; omega
  have B12 := (B8).ext (er26)
  have hxb1 : gx.ownBlock ≠ some b1 := fx55.ne (B12).lt
  obtain ⟨gb, gcap, egx⟩ := ox55.isAt (by omega)
  have E13 : Ext w w55 := Mod.trans (E9) (e55)
  refine WL.move (v := .tuple #[.agg #[.int .i64 I.entry, gu, gx], .int .i64 0]) rfl rfl ?_
  refine WL.extract rfl rfl rfl ?_
  refine WL.extract rfl rfl rfl ?_
  refine WL.allocStore (v := .agg #[.int .i64 (I.entry), gu, gx]) zt25 rfl sz25 rfl rfl (ones3 rfl (su55).one ((ox55).sl).one) rfl ?_
  intro b7 w7 n7
  have N14 : (gx : Value).ownBlock ≠ some b7 := fun e => by have := (ox55).lt0 (fun h => absurd h (by first | omega | (rw [List.length_set]; omega))) (by decide) e; have := n7.num; omega
  have E15 : Ext w w7 := Mod.trans (E13) (n7.ext)
  refine WL.assign (v := .int .i64 (0)) rfl rfl ?_
  refine WL.nil ?_
  refine WC.seq ?_
  refine WC.seq ?_
  refine WC.draw (fun w_ => Ext w7 w_) 16 rfl mixed ?_
  intro wd_10 ed_10
  have R16 : Ext w7 wd_10 := Mod.trans (Mod.refl _ _) (ed_10)
  have E17 : Ext w wd_10 := Mod.trans (E15) (ed_10)
  refine WA.take (i := 0) (m' := 1) (v := .int .i64 (0)) rfl rfl rfl rfl (by kernel_rfl) rfl (fun _ _ _ h => h) (fun wx hS => ?_) (R16) ?_
  · have E18 : Ext w wx := Mod.trans (E15) (hS)
    refine WL.move (v := .int .i64 (0)) rfl rfl ?_
    exact WL.nil ⟨rfl, rfl, rfl⟩
  refine WA.take (i := 1) (m' := 3) (v := .bool (false)) rfl rfl rfl rfl (by kernel_rfl) rfl (fun _ _ _ h => h) (fun wx hS => ?_) (R16) ?_
  · have E19 : Ext w wx := Mod.trans (E15) (hS)
    refine WL.bin (v := .bool (false)) rfl rfl rfl (BinR.toB (BinR.neq) (rfl)) ?_
    exact WL.nil ⟨rfl, rfl, rfl⟩
  refine WA.take (i := 2) (m' := 7) (v := .bool (false)) rfl rfl rfl rfl (by kernel_rfl) rfl (fun _ _ _ h => h) (fun wx hS => ?_) (R16) ?_
  · have E20 : Ext w wx := Mod.trans (E15) (hS)
    refine WL.move (v := .bool (false)) rfl rfl ?_
    exact WL.nil ⟨rfl, rfl, rfl⟩
  refine WA.take (i := 3) (m' := 15) (v := .agg #[.int .i64 (I.entry), gu, gx]) rfl rfl rfl rfl (by kernel_rfl) rfl (fun _ _ _ h => h) (fun wx hS => ?_) (R16) ?_
  · have E21 : Ext w wx := Mod.trans (E15) (hS)
    refine WL.guardT (rfl) ?_
    have B22 := (n7.blk).ext (hS)
    refine WL.loadS [.int .i64 (I.entry), gu, gx] rfl ag25 sz25 rfl (B22.sub (o := 0) (vs := [.int .i64 (I.entry), gu, gx]) rfl) rfl ?_
    exact WL.nil ⟨rfl, rfl, rfl⟩
  refine WA.take (i := 4) (m' := 31) (v := .agg #[.int .i64 (I.entry), sv, wv]) rfl rfl rfl rfl (by kernel_rfl) rfl (fun _ _ _ h => h) (fun wx hS => ?_) (R16) ?_
  · have E23 : Ext w wx := Mod.trans (E15) (hS)
    refine WL.guardT (rfl) ?_
    have B24 := (((B12).ext (e55)).ext (n7.ext)).ext (hS)
    refine WL.loadS [.int .i64 (I.entry), sv, wv] rfl ag25 sz25 rfl (B24.sub (o := 0) (vs := [.int .i64 (I.entry), sv, wv]) rfl) rfl ?_
    exact WL.nil ⟨rfl, rfl, rfl⟩
  refine WA.one (i := 5) (m' := 63) (by kernel_rfl) rfl rfl ?_
  refine WL.guardT (rfl) ?_
  have S25 := ((su55).ext' (n7.ext)).ext' (ed_10)
  have O26 := ((ox55).ext (n7.ext)).ext (ed_10)
  refine WL.call ca14 (rfl) rfl (same_spec gu gx sv wv I I _ ⟨S25, (O26).sl, by omega, by omega⟩ ⟨(hs).ext' (E17), (hw).ext' (E17), by omega, by omega⟩) ?_
  rintro _ ws63 ⟨rfl, es63⟩
  rw [beq_self_eq_true]
  have R27 : Ext w7 ws63 := Mod.trans (R16) (es63)
  have E28 : Ext w ws63 := Mod.trans (E17) (es63)
  refine WL.behind (R27) ?_
  refine WA.take (i := 6) (m' := 127) (v := .bool (false)) rfl rfl rfl rfl (by kernel_rfl) rfl (fun _ _ _ h => h) (fun wx hS => ?_) (R27) ?_
  · have E29 : Ext w wx := Mod.trans (E15) (hS)
    refine WL.guardT (rfl) ?_
    refine WL.un rfl rfl UnR.not ?_
    exact WL.nil ⟨rfl, rfl, rfl⟩
  refine WA.take (i := 7) (m' := 255) (v := .bool (false)) rfl rfl rfl rfl (by kernel_rfl) rfl (fun _ _ _ h => h) (fun wx hS => ?_) (R27) ?_
  · have E30 : Ext w wx := Mod.trans (E15) (hS)
    refine WL.pick (b := false) rfl rfl rfl ?_
    exact WL.nil ⟨rfl, rfl, rfl⟩
  refine WA.take (i := 8) (m' := 511) (v := .bool (false)) rfl rfl rfl rfl (by kernel_rfl) rfl (fun _ _ _ h => h) (fun wx hS => ?_) (R27) ?_
  · have E31 : Ext w wx := Mod.trans (E15) (hS)
    refine WL.move (v := .bool (false)) rfl rfl ?_
    exact WL.nil ⟨rfl, rfl, rfl⟩
  refine WA.take (i := 9) (m' := 1023) (v := .agg #[.int .i64 (I.entry), gu, gx]) rfl rfl rfl rfl (by kernel_rfl) rfl (fun _ _ _ h => h) (fun wx hS => ?_) (R27) ?_
  · have E32 : Ext w wx := Mod.trans (E15) (hS)
    refine WL.guardT (rfl) ?_
    have B33 := (n7.blk).ext (hS)
    refine WL.loadS [.int .i64 (I.entry), gu, gx] rfl ag25 sz25 rfl (B33.sub (o := 0) (vs := [.int .i64 (I.entry), gu, gx]) rfl) rfl ?_
    exact WL.nil ⟨rfl, rfl, rfl⟩
  refine WA.take (i := 11) (m' := 3071) (v := .agg #[.int .i64 (I.entry), sv, wv]) rfl rfl rfl rfl (by kernel_rfl) rfl (fun _ _ _ h => h) (fun wx hS => ?_) (R27) ?_
  · have E34 : Ext w wx := Mod.trans (E15) (hS)
    refine WL.guardT (rfl) ?_
    have B35 := (((B12).ext (e55)).ext (n7.ext)).ext (hS)
    refine WL.loadS [.int .i64 (I.entry), sv, wv] rfl ag25 sz25 rfl (B35.sub (o := 0) (vs := [.int .i64 (I.entry), sv, wv]) rfl) rfl ?_
    exact WL.nil ⟨rfl, rfl, rfl⟩
  refine WA.one (i := 10) (m' := 4095) (by kernel_rfl) rfl rfl ?_
  refine WL.guardT (rfl) ?_
  have S36 := (S25).ext' (es63)
  have O37 := (O26).ext (es63)
  refine WL.call ca10 (rfl) rfl (plain_spec gu gx I _ ⟨S36, (O37).sl, by omega, by omega⟩) ?_
  rintro _ wp68 ⟨u68, rfl, op68, fp68, ep68⟩
  have R38 : Ext w7 wp68 := Mod.trans (R27) (ep68)
  have E39 : Ext w wp68 := Mod.trans (E28) (ep68)
  refine WL.behind (R38) ?_
  refine WA.one (i := 12) (m' := 8191) (by kernel_rfl) rfl rfl ?_
  refine WL.guardT (rfl) ?_
  refine WL.call ca10 (rfl) rfl (plain_spec sv wv I _ ⟨(hs).ext' (E39), (hw).ext' (E39), by omega, by omega⟩) ?_
  rintro _ wp70 ⟨u70, rfl, op70, fp70, ep70⟩
  have R40 : Ext w7 wp70 := Mod.trans (R38) (ep70)
  have E41 : Ext w wp70 := Mod.trans (E39) (ep70)
  refine WL.behind (R40) ?_
  refine WA.one (i := 13) (m' := 16383) (by kernel_rfl) rfl rfl ?_
  refine WL.guardT (rfl) ?_
  have S42 := (op68.sl).ext' (ep70)
  have O43 := ((O37).ext (ep68)).ext (ep70)
  refine WL.call ca15 (rfl) rfl (rsame_spec u68 gx u70 wv I I _ ⟨S42, (O43).sl, by omega, by omega⟩ ⟨op70.sl, (hw).ext' (E41), by omega, by omega⟩) ?_
  rintro _ ws71 ⟨rfl, es71⟩
  rw [beq_self_eq_true]
  have R44 : Ext w7 ws71 := Mod.trans (R40) (es71)
  have E45 : Ext w ws71 := Mod.trans (E41) (es71)
  refine WL.behind (R44) ?_
  refine WA.take (i := 14) (m' := 32767) (v := .bool (false)) rfl rfl rfl rfl (by kernel_rfl) rfl (fun _ _ _ h => h) (fun wx hS => ?_) (R44) ?_
  · have E46 : Ext w wx := Mod.trans (E15) (hS)
    refine WL.guardT (rfl) ?_
    refine WL.un rfl rfl UnR.not ?_
    exact WL.nil ⟨rfl, rfl, rfl⟩
  refine WA.take (i := 15) (m' := 65535) (v := .bool (false)) rfl rfl rfl rfl (by kernel_rfl) rfl (fun _ _ _ h => h) (fun wx hS => ?_) (R44) ?_
  · have E47 : Ext w wx := Mod.trans (E15) (hS)
    refine WL.pick (b := false) rfl rfl rfl ?_
    exact WL.nil ⟨rfl, rfl, rfl⟩
  refine WA.done (by kernel_rfl) ?_
  refine WC.condF rfl ?_
  refine WC.skip ?_
  refine WC.seq ?_
  refine WC.draw (fun w_ => Ext w w_ ∧ Blk w_ b7 #[.int .i64 I.entry, gu, gx] 25) 9 rfl mixed ?_
  intro wd_12 ed_12
  have E48 : Ext w wd_12 := Mod.trans (E45) (ed_12)
  have B49 := ((((((n7.blk).ext (ed_10)).ext (es63)).ext (ep68)).ext (ep70)).ext (es71)).ext (ed_12)
  refine WA.take (i := 0) (m' := 1) (v := ptr b7 2) rfl rfl rfl rfl (by kernel_rfl) rfl (fun _ _ _ h => h) (fun wx hS => ?_) (⟨E48, B49⟩) ?_
  · refine WL.fieldAddr rfl fo25_2 rfl ?_
    exact WL.nil ⟨rfl, rfl, rfl⟩
  refine WA.take (i := 1) (m' := 3) (v := gx) rfl rfl rfl rfl (by kernel_rfl) rfl (fun _ _ _ h => h) (fun wx hS => ?_) (⟨E48, B49⟩) ?_
  · refine WL.load1 rfl ag23 (hS.2.cell (j := 2) rfl) rfl ?_
    exact WL.nil ⟨rfl, rfl, rfl⟩
  refine WA.take (i := 2) (m' := 7) (v := ptr b7 2) rfl rfl rfl rfl (by kernel_rfl) rfl (fun _ _ _ h => h) (fun wx hS => ?_) (⟨E48, B49⟩) ?_
  · refine WL.fieldAddr rfl fo25_2 rfl ?_
    exact WL.nil ⟨rfl, rfl, rfl⟩
  refine WA.take (i := 3) (m' := 15) (v := gx) rfl rfl rfl rfl (by kernel_rfl) rfl (fun _ _ _ h => h) (fun wx hS => ?_) (⟨E48, B49⟩) ?_
  · refine WL.load1 rfl ag23 (hS.2.cell (j := 2) rfl) rfl ?_
    exact WL.nil ⟨rfl, rfl, rfl⟩
  refine WA.take (i := 4) (m' := 31) (v := ptr gb (0 + (0) * 1)) rfl rfl rfl rfl (by kernel_rfl) rfl (fun _ _ _ h => h) (fun wx hS => ?_) (⟨E48, B49⟩) ?_
  · refine WL.indexAddr (i := 0) (b := gb) (o := 0) el23 sz42 (Eq.trans (rfl) egx) rfl (by omega) rfl ?_
    exact WL.nil ⟨rfl, rfl, rfl⟩
  refine WA.one (i := 5) (m' := 63) (by kernel_rfl) rfl rfl ?_
  have O50 := ((O43).ext (es71)).ext (ed_12)
  refine WL.load1 rfl ag42 ((O50).cellAt egx (word_get I.words 0 (by omega))) rfl ?_
  refine WL.behind (⟨E48, B49⟩) ?_
  refine WA.take (i := 6) (m' := 127) (v := U32 ((I.words[0] + 1#32))) rfl rfl rfl rfl (by kernel_rfl) rfl (fun _ _ _ h => h) (fun wx hS => ?_) (⟨E48, B49⟩) ?_
  · refine WL.bin rfl (vy := U32 (1#32)) rfl rfl (BinR.addU32) ?_
    exact WL.nil ⟨rfl, rfl, rfl⟩
  refine WA.take (i := 7) (m' := 255) (v := ptr gb (0 + (0) * 1)) rfl rfl rfl rfl (by kernel_rfl) rfl (fun _ _ _ h => h) (fun wx hS => ?_) (⟨E48, B49⟩) ?_
  · refine WL.indexAddr (i := 0) (b := gb) (o := 0) el23 sz42 (Eq.trans (rfl) egx) rfl (by omega) rfl ?_
    exact WL.nil ⟨rfl, rfl, rfl⟩
  refine WA.one (i := 8) (m' := 511) (by kernel_rfl) rfl rfl ?_
  refine WL.storeOwn (i := 0) (g := gb) rfl rfl rfl sz42 (O50) egx (by omega) ?_
  intro wz oz mz
  have S51 := ((((S36).ext' (ep68)).ext' (ep70)).ext' (es71)).ext' (ed_12)
  have O52 := ((((((((O10).ext (e55)).ext (n7.ext)).ext (ed_10)).ext (es63)).ext (ep68)).ext (ep70)).ext (es71)).ext (ed_12)
  have ozb : Own wz 1 gx (I.words.set 0 (I.words[0] + 1#32)).length (wordCells (I.words.set 0 (I.words[0] + 1#32))) := by rw [List.length_set, ← words_set]; exact oz
  have E53 : Ext w wz := Mod.from (E48) mz (fxw)
  have B54 := (B49).mod (mz) (N14)
  refine WL.behind (⟨E53, B54⟩) ?_
  refine WA.done (by kernel_rfl) ?_
  refine WC.seq ?_
  refine WC.region ?_
  refine WL.move (v := u22) rfl rfl ?_
  have O55 := (O52).mod (mz) (fun g hg e => hug g hg e)
  refine WL.call ca13 (rfl) rfl (iget_ok u22 (bytesOf I) _ (O55).sl (fun g hg => (O55).lt (by omega) (by decide) hg) (by omega) I hrI rfl) ?_
  rintro _ w84 ⟨hu, hx, rfl, su84, ox84, fu84, fx84, hne84, e84⟩
  have E56 : Ext w w84 := Mod.trans (E53) (e84)
  refine WL.move (v := .tuple #[.agg #[.int .i64 I.entry, hu, hx], .int .i64 0]) rfl rfl ?_
  refine WL.extract rfl rfl rfl ?_
  refine WL.extract rfl rfl rfl ?_
  have O57 := (ozb).ext (e84)
  refine WL.allocStore (v := .agg #[.int .i64 (I.entry), hu, hx]) zt25 rfl sz25 rfl rfl (ones3 rfl (su84).one (ox84.sl).one) rfl ?_
  intro b9 w9 n9
  have N58 : (gx : Value).ownBlock ≠ some b9 := fun e => by have := (O57).lt0 (fun h => absurd h (by first | omega | (rw [List.length_set]; omega))) (by decide) e; have := n9.num; omega
  have E59 : Ext w w9 := Mod.trans (E56) (n9.ext)
  refine WL.assign (v := .int .i64 (0)) rfl rfl ?_
  refine WL.nil ?_
  refine WC.seq ?_
  refine WC.region ?_
  refine WL.move (v := .int .i64 (0)) rfl rfl ?_
  refine WL.bin (v := .bool (true)) rfl rfl rfl (BinR.toB (BinR.eql) (rfl)) ?_
  refine WL.move (v := .bool (true)) rfl rfl ?_
  refine WL.guardT (rfl) ?_
  refine WL.loadS [.int .i64 (I.entry), hu, hx] rfl ag25 sz25 rfl (n9.blk.sub (o := 0) (vs := [.int .i64 (I.entry), hu, hx]) rfl) rfl ?_
  refine WL.guardT (rfl) ?_
  have B60 := (((((((((((B12).ext (e55)).ext (n7.ext)).ext (ed_10)).ext (es63)).ext (ep68)).ext (ep70)).ext (es71)).ext (ed_12)).mod (mz) (hxb1)).ext (e84)).ext (n9.ext)
  refine WL.loadS [.int .i64 (I.entry), sv, wv] rfl ag25 sz25 rfl (B60.sub (o := 0) (vs := [.int .i64 (I.entry), sv, wv]) rfl) rfl ?_
  refine WL.guardT (rfl) ?_
  have S61 := (su84).ext' (n9.ext)
  have S62 := (ox84.sl).ext' (n9.ext)
  refine WL.call ca14 (rfl) rfl (same_spec hu hx sv wv I I _ ⟨S61, S62, by omega, by omega⟩ ⟨(hs).ext' (E59), (hw).ext' (E59), by omega, by omega⟩) ?_
  rintro _ ws92 ⟨rfl, es92⟩
  rw [beq_self_eq_true]
  have E63 : Ext w ws92 := Mod.trans (E59) (es92)
  refine WL.pick (b := true) rfl rfl rfl ?_
  refine WL.move (v := .bool (true)) rfl rfl ?_
  refine WL.guardT (rfl) ?_
  have B64 := (((B54).ext (e84)).ext (n9.ext)).ext (es92)
  refine WL.loadS [.int .i64 (I.entry), gu, gx] rfl ag25 sz25 rfl (B64.sub (o := 0) (vs := [.int .i64 (I.entry), gu, gx]) rfl) rfl ?_
  refine WL.guardT (rfl) ?_
  have B65 := (B60).ext (es92)
  refine WL.loadS [.int .i64 (I.entry), sv, wv] rfl ag25 sz25 rfl (B65.sub (o := 0) (vs := [.int .i64 (I.entry), sv, wv]) rfl) rfl ?_
  refine WL.guardT (rfl) ?_
  have S66 := ((((S51).modp (mz) (fun h0 g hg e => hne55 h0 g hg e)).ext' (e84)).ext' (n9.ext)).ext' (es92)
  have O67 := ((O57).ext (n9.ext)).ext (es92)
  refine WL.call ca14 (rfl) rfl (same_spec gu gx sv wv (⟨I.entry, I.syms, (I.words.set 0 (I.words[0] + 1#32))⟩ : Img) I _ ⟨S66, (O67).sl, by show I.syms.length ≤ 1000000000; omega, by show (I.words.set 0 (I.words[0] + 1#32)).length ≤ 1000000000; rw [List.length_set]; omega⟩ ⟨(hs).ext' (E63), (hw).ext' (E63), by omega, by omega⟩) ?_
  rintro _ ws97 ⟨rfl, es97⟩
  rw [hIX]
  have E68 : Ext w ws97 := Mod.trans (E63) (es97)
  refine WL.guardT (rfl) ?_
  refine WL.un rfl rfl UnR.not ?_
  refine WL.pick (b := true) rfl rfl rfl ?_
  refine WL.move (v := .bool (true)) rfl rfl ?_
  refine WL.guardT (rfl) ?_
  refine WL.call ca8 (rfl) rfl (works_spec _) ?_
  rintro _ wk101 ⟨rfl, ek101⟩
  have E69 : Ext w wk101 := Mod.trans (E68) (ek101)
  refine WL.pick (b := true) rfl rfl rfl ?_
  refine WL.assign (v := .bool (true)) rfl rfl ?_
  refine WL.nil ?_
  refine WC.ret ?_
  exact ⟨_, Res.one (v := .bool (true)) rfl rfl, rfl, E69⟩
end Go.Proofs.I
