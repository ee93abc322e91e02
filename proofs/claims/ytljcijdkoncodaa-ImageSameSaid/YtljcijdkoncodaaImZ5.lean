import Derived.Test.YtljcijdkoncodaaImgBig
import Derived.Test.YtljcijdkoncodaaRows
import Derived.Test.YtljcijdkoncodaaImZ4
import Derived.Test.YtljcijdkoncodaaImgOwn
set_option linter.unusedSimpArgs false
set_option linter.unusedVariables false
namespace Go.Proofs.I
open Go Go.Ux Go.Ux.Image Go.Proofs


theorem iget_any (sv : Value) (d : List UInt8) (w : World) (hS : Sl w sv 1 d.length (bs d)) (hlt : ∀ g, sv.ownBlock = some g → g < w.heap.size) (hd : d.length ≤ 1000000) :
    CallsR Try.prog 13 #[sv] w (fun v w' => ∃ M u x e, v = .tuple #[.agg #[.int .i64 M.entry, u, x], .int .i64 e] ∧ Rep w' u x M ∧ (e = 0 → rightB M = true ∧ bytesOf M = d) ∧ Ext w w') := by
  by_cases h : ∃ I, rightB I = true ∧ bytesOf I = d
  · obtain ⟨I, hr, hb⟩ := h
    refine (iget_ok sv d w hS hlt hd I hr hb.symm).mono ?_
    rintro v w' ⟨u, x, e, h1, h2, _, _, _, h3⟩
    obtain ⟨_, b2, _, _, b5, _⟩ := right_bounds hr
    exact ⟨I, u, x, 0, e, ⟨h1, h2.sl, by omega, by omega⟩, fun _ => ⟨hr, hb⟩, h3⟩
  · exact (iget_bad sv d w hS hlt hd (fun I hr hb => h ⟨I, hr, hb⟩)).mono fun v w' ⟨e, h3⟩ => ⟨⟨0, [], []⟩, _, _, 110, e, ⟨Sl.nil _ _ _, Sl.nil _ _ _, by decide, by decide⟩, fun h => absurd h (by decide), h3⟩

theorem unlike_a (sa wa : Value) (A : Img) (sb wb : Value) (K : Img) (atn : Nat) (bb : BitVec 8) (w : World) (hsa : Sl w sa 2 A.syms.length (symCells A.syms)) (hwa : Sl w wa 1 A.words.length (wordCells A.words)) (hsb : Sl w sb 2 K.syms.length (symCells K.syms)) (hwb : Sl w wb 1 K.words.length (wordCells K.words)) (hA : largeB A = true) : CallsR Try.prog 6 #[.agg #[.int .i64 (A.entry), sa, wa], .agg #[.int .i64 (K.entry), sb, wb], .int .u16 (((atn : Nat) : Int)), U8 (bb)] w (fun v w' => v = .bool true ∧ Ext w w') := by
  refine callsR_of Try.func6 rfl rfl rfl ?_
  refine WC.seq ?_
  refine WC.region ?_
  refine WL.box (v := .agg #[.int .i64 (A.entry), sa, wa]) rfl rfl ?_
  intro b4 w4 n4
  have E1 : Ext w w4 := Mod.trans (Mod.refl _ _) (n4.ext)
  refine WL.box (v := .agg #[.int .i64 (K.entry), sb, wb]) rfl rfl ?_
  intro b5 w5 n5
  have E2 : Ext w w5 := Mod.trans (E1) (n5.ext)
  refine WL.assign (v := .bool (false)) rfl rfl ?_
  refine WL.nil ?_
  refine WC.seq ?_
  refine WC.seq ?_
  refine WC.region ?_
  have B3 := (n4.blk).ext (n5.ext)
  refine WL.loadS [.int .i64 (A.entry), sa, wa] rfl ag25 sz25 rfl (B3.sub (o := 0) (vs := [.int .i64 (A.entry), sa, wa]) rfl) rfl ?_
  refine WL.call ca7 (rfl) rfl (large_spec sa wa A _ ((hsa).ext' (E2)) ((hwa).ext' (E2))) ?_
  rintro _ wlA ⟨rfl, elA⟩
  rw [hA]
  have E4 : Ext w wlA := Mod.trans (E2) (elA)
  refine WL.move (v := .bool (true)) rfl rfl ?_
  refine WL.guardF (b' := true) (rfl) rfl rfl ?_
  refine WL.guardF (b' := true) (rfl) rfl rfl ?_
  refine WL.pick (b := true) rfl rfl rfl ?_
  refine WL.nil ?_
  refine WC.condT rfl ?_
  refine WC.seq ?_
  refine WC.region ?_
  refine WL.call ca8 (rfl) rfl (works_spec _) ?_
  rintro _ wk23 ⟨rfl, ek23⟩
  have E5 : Ext w wk23 := Mod.trans (E4) (ek23)
  refine WL.assign (v := .bool (true)) rfl rfl ?_
  refine WL.nil ?_
  refine WC.ret ?_
  exact ⟨_, Res.one (v := .bool (true)) rfl rfl, rfl, E5⟩

theorem unlike_b (sa wa : Value) (A : Img) (sb wb : Value) (K : Img) (atn : Nat) (bb : BitVec 8) (w : World) (hsa : Sl w sa 2 A.syms.length (symCells A.syms)) (hwa : Sl w wa 1 A.words.length (wordCells A.words)) (hsb : Sl w sb 2 K.syms.length (symCells K.syms)) (hwb : Sl w wb 1 K.words.length (wordCells K.words)) (hA : largeB A = false) (hK : largeB K = true) : CallsR Try.prog 6 #[.agg #[.int .i64 (A.entry), sa, wa], .agg #[.int .i64 (K.entry), sb, wb], .int .u16 (((atn : Nat) : Int)), U8 (bb)] w (fun v w' => v = .bool true ∧ Ext w w') := by
  refine callsR_of Try.func6 rfl rfl rfl ?_
  refine WC.seq ?_
  refine WC.region ?_
  refine WL.box (v := .agg #[.int .i64 (A.entry), sa, wa]) rfl rfl ?_
  intro b4 w4 n4
  have E1 : Ext w w4 := Mod.trans (Mod.refl _ _) (n4.ext)
  refine WL.box (v := .agg #[.int .i64 (K.entry), sb, wb]) rfl rfl ?_
  intro b5 w5 n5
  have E2 : Ext w w5 := Mod.trans (E1) (n5.ext)
  refine WL.assign (v := .bool (false)) rfl rfl ?_
  refine WL.nil ?_
  refine WC.seq ?_
  refine WC.seq ?_
  refine WC.region ?_
  have B3 := (n4.blk).ext (n5.ext)
  refine WL.loadS [.int .i64 (A.entry), sa, wa] rfl ag25 sz25 rfl (B3.sub (o := 0) (vs := [.int .i64 (A.entry), sa, wa]) rfl) rfl ?_
  refine WL.call ca7 (rfl) rfl (large_spec sa wa A _ ((hsa).ext' (E2)) ((hwa).ext' (E2))) ?_
  rintro _ wlA ⟨rfl, elA⟩
  rw [hA]
  have E4 : Ext w wlA := Mod.trans (E2) (elA)
  refine WL.move (v := .bool (false)) rfl rfl ?_
  refine WL.guardT (rfl) ?_
  have B5 := (n5.blk).ext (elA)
  refine WL.loadS [.int .i64 (K.entry), sb, wb] rfl ag25 sz25 rfl (B5.sub (o := 0) (vs := [.int .i64 (K.entry), sb, wb]) rfl) rfl ?_
  refine WL.guardT (rfl) ?_
  refine WL.call ca7 (rfl) rfl (large_spec sb wb K _ ((hsb).ext' (E4)) ((hwb).ext' (E4))) ?_
  rintro _ wlK ⟨rfl, elK⟩
  rw [hK]
  have E6 : Ext w wlK := Mod.trans (E4) (elK)
  refine WL.pick (b := false) rfl rfl rfl ?_
  refine WL.nil ?_
  refine WC.condT rfl ?_
  refine WC.seq ?_
  refine WC.region ?_
  refine WL.call ca8 (rfl) rfl (works_spec _) ?_
  rintro _ wk23 ⟨rfl, ek23⟩
  have E7 : Ext w wk23 := Mod.trans (E6) (ek23)
  refine WL.assign (v := .bool (true)) rfl rfl ?_
  refine WL.nil ?_
  refine WC.ret ?_
  exact ⟨_, Res.one (v := .bool (true)) rfl rfl, rfl, E7⟩

theorem unlike_no (sa wa : Value) (A : Img) (sb wb : Value) (K : Img) (atn : Nat) (bb : BitVec 8) (w : World) (hsa : Sl w sa 2 A.syms.length (symCells A.syms)) (hwa : Sl w wa 1 A.words.length (wordCells A.words)) (hsb : Sl w sb 2 K.syms.length (symCells K.syms)) (hwb : Sl w wb 1 K.words.length (wordCells K.words)) (hA : largeB A = false) (hK : largeB K = false) (hatA : ∀ s ∈ A.syms, s.2 ≤ 9223372036854775807) (hatK : ∀ s ∈ K.syms, s.2 ≤ 9223372036854775807) (hatn : atn < 65536) (hrA : rightB A = false) : CallsR Try.prog 6 #[.agg #[.int .i64 (A.entry), sa, wa], .agg #[.int .i64 (K.entry), sb, wb], .int .u16 (((atn : Nat) : Int)), U8 (bb)] w (fun v w' => v = .bool true ∧ Ext w w') := by
  obtain ⟨hlA1, hlA2, hlA3⟩ := largeB_no hA
  obtain ⟨hlK1, hlK2, hlK3⟩ := largeB_no hK
  have hNA : ∀ s ∈ A.syms, s.1.length ≤ 1000000000 ∧ s.2 ≤ 9223372036854775807 := fun s hs => ⟨by have := hlA3 s hs; omega, hatA s hs⟩
  have hNK : ∀ s ∈ K.syms, s.1.length ≤ 1000000000 ∧ s.2 ≤ 9223372036854775807 := fun s hs => ⟨by have := hlK3 s hs; omega, hatK s hs⟩
  refine callsR_of Try.func6 rfl rfl rfl ?_
  refine WC.seq ?_
  refine WC.region ?_
  refine WL.box (v := .agg #[.int .i64 (A.entry), sa, wa]) rfl rfl ?_
  intro b4 w4 n4
  have E1 : Ext w w4 := Mod.trans (Mod.refl _ _) (n4.ext)
  refine WL.box (v := .agg #[.int .i64 (K.entry), sb, wb]) rfl rfl ?_
  intro b5 w5 n5
  have E2 : Ext w w5 := Mod.trans (E1) (n5.ext)
  refine WL.assign (v := .bool (false)) rfl rfl ?_
  refine WL.nil ?_
  refine WC.seq ?_
  refine WC.seq ?_
  refine WC.region ?_
  have B3 := (n4.blk).ext (n5.ext)
  refine WL.loadS [.int .i64 (A.entry), sa, wa] rfl ag25 sz25 rfl (B3.sub (o := 0) (vs := [.int .i64 (A.entry), sa, wa]) rfl) rfl ?_
  refine WL.call ca7 (rfl) rfl (large_spec sa wa A _ ((hsa).ext' (E2)) ((hwa).ext' (E2))) ?_
  rintro _ wlA ⟨rfl, elA⟩
  rw [hA]
  have E4 : Ext w wlA := Mod.trans (E2) (elA)
  refine WL.move (v := .bool (false)) rfl rfl ?_
  refine WL.guardT (rfl) ?_
  have B5 := (n5.blk).ext (elA)
  refine WL.loadS [.int .i64 (K.entry), sb, wb] rfl ag25 sz25 rfl (B5.sub (o := 0) (vs := [.int .i64 (K.entry), sb, wb]) rfl) rfl ?_
  refine WL.guardT (rfl) ?_
  refine WL.call ca7 (rfl) rfl (large_spec sb wb K _ ((hsb).ext' (E4)) ((hwb).ext' (E4))) ?_
  rintro _ wlK ⟨rfl, elK⟩
  rw [hK]
  have E6 : Ext w wlK := Mod.trans (E4) (elK)
  refine WL.pick (b := false) rfl rfl rfl ?_
  refine WL.nil ?_
  refine WC.condF rfl ?_
  refine WC.skip ?_
  refine WC.seq ?_
  refine WC.region ?_
  have B7 := ((B3).ext (elA)).ext (elK)
  refine WL.loadS [.int .i64 (A.entry), sa, wa] rfl ag25 sz25 rfl (B7.sub (o := 0) (vs := [.int .i64 (A.entry), sa, wa]) rfl) rfl ?_
  refine WL.call ca11 (rfl) rfl (put_no sa wa A _ ⟨(hsa).ext' (E6), (hwa).ext' (E6), by omega, by omega⟩ hNA hrA) ?_
  rintro _ wq26 ⟨rfl, eq26⟩
  have E8 : Ext w wq26 := Mod.trans (E6) (eq26)
  refine WL.move (v := .tuple #[.slice none 0 0, .int .i64 2]) rfl rfl ?_
  refine WL.extract rfl rfl rfl ?_
  refine WL.extract rfl rfl rfl ?_
  refine WL.assign (v := .slice none 0 0) rfl rfl ?_
  refine WL.assign (v := .int .i64 (2)) rfl rfl ?_
  refine WL.nil ?_
  refine WC.seq ?_
  refine WC.region ?_
  have B9 := ((B5).ext (elK)).ext (eq26)
  refine WL.loadS [.int .i64 (K.entry), sb, wb] rfl ag25 sz25 rfl (B9.sub (o := 0) (vs := [.int .i64 (K.entry), sb, wb]) rfl) rfl ?_
  refine WL.call ca11 (rfl) rfl (put_any sb wb K _ ⟨(hsb).ext' (E8), (hwb).ext' (E8), by omega, by omega⟩ hNK) ?_
  rintro _ wq31 ⟨r31, n31, l31, rfl, _, _, _, eq31⟩
  have E10 : Ext w wq31 := Mod.trans (E8) (eq31)
  refine WL.move (v := .tuple #[r31, .int .i64 n31]) rfl rfl ?_
  refine WL.extract rfl rfl rfl ?_
  refine WL.extract rfl rfl rfl ?_
  refine WL.assign (v := r31) rfl rfl ?_
  refine WL.assign (v := .int .i64 (n31)) rfl rfl ?_
  refine WL.nil ?_
  refine WC.seq ?_
  refine WC.seq ?_
  refine WC.region ?_
  refine WL.move (v := .int .i64 (2)) rfl rfl ?_
  refine WL.bin (v := .bool (true)) rfl rfl rfl (BinR.toB (BinR.neq) (rfl)) ?_
  refine WL.nil ?_
  refine WC.condT rfl ?_
  refine WC.seq ?_
  refine WC.region ?_
  refine WL.call ca8 (rfl) rfl (works_spec _) ?_
  rintro _ wk36 ⟨rfl, ek36⟩
  have E11 : Ext w wk36 := Mod.trans (E10) (ek36)
  refine WL.assign (v := .bool (true)) rfl rfl ?_
  refine WL.nil ?_
  refine WC.ret ?_
  exact ⟨_, Res.one (v := .bool (true)) rfl rfl, rfl, E11⟩

theorem unlike_yn (sa wa : Value) (A : Img) (sb wb : Value) (K : Img) (atn : Nat) (bb : BitVec 8) (w : World) (hsa : Sl w sa 2 A.syms.length (symCells A.syms)) (hwa : Sl w wa 1 A.words.length (wordCells A.words)) (hsb : Sl w sb 2 K.syms.length (symCells K.syms)) (hwb : Sl w wb 1 K.words.length (wordCells K.words)) (hA : largeB A = false) (hK : largeB K = false) (hatA : ∀ s ∈ A.syms, s.2 ≤ 9223372036854775807) (hatK : ∀ s ∈ K.syms, s.2 ≤ 9223372036854775807) (hatn : atn < 65536) (hrA : rightB A = true) (hrK : rightB K = false) : CallsR Try.prog 6 #[.agg #[.int .i64 (A.entry), sa, wa], .agg #[.int .i64 (K.entry), sb, wb], .int .u16 (((atn : Nat) : Int)), U8 (bb)] w (fun v w' => v = .bool true ∧ Ext w w') := by
  obtain ⟨hlA1, hlA2, hlA3⟩ := largeB_no hA
  obtain ⟨hlK1, hlK2, hlK3⟩ := largeB_no hK
  have hNA : ∀ s ∈ A.syms, s.1.length ≤ 1000000000 ∧ s.2 ≤ 9223372036854775807 := fun s hs => ⟨by have := hlA3 s hs; omega, hatA s hs⟩
  have hNK : ∀ s ∈ K.syms, s.1.length ≤ 1000000000 ∧ s.2 ≤ 9223372036854775807 := fun s hs => ⟨by have := hlK3 s hs; omega, hatK s hs⟩
  obtain ⟨hz1, hz2⟩ := bytesOf_le hrA
  obtain ⟨kk, hkk, hk⟩ : ∃ kk, kk = atn % (bytesOf A).length ∧ kk < (bytesOf A).length := ⟨_, rfl, Nat.mod_lt _ (by omega)⟩
  refine callsR_of Try.func6 rfl rfl rfl ?_
  refine WC.seq ?_
  refine WC.region ?_
  refine WL.box (v := .agg #[.int .i64 (A.entry), sa, wa]) rfl rfl ?_
  intro b4 w4 n4
  have E1 : Ext w w4 := Mod.trans (Mod.refl _ _) (n4.ext)
  refine WL.box (v := .agg #[.int .i64 (K.entry), sb, wb]) rfl rfl ?_
  intro b5 w5 n5
  have E2 : Ext w w5 := Mod.trans (E1) (n5.ext)
  refine WL.assign (v := .bool (false)) rfl rfl ?_
  refine WL.nil ?_
  refine WC.seq ?_
  refine WC.seq ?_
  refine WC.region ?_
  have B3 := (n4.blk).ext (n5.ext)
  refine WL.loadS [.int .i64 (A.entry), sa, wa] rfl ag25 sz25 rfl (B3.sub (o := 0) (vs := [.int .i64 (A.entry), sa, wa]) rfl) rfl ?_
  refine WL.call ca7 (rfl) rfl (large_spec sa wa A _ ((hsa).ext' (E2)) ((hwa).ext' (E2))) ?_
  rintro _ wlA ⟨rfl, elA⟩
  rw [hA]
  have E4 : Ext w wlA := Mod.trans (E2) (elA)
  refine WL.move (v := .bool (false)) rfl rfl ?_
  refine WL.guardT (rfl) ?_
  have B5 := (n5.blk).ext (elA)
  refine WL.loadS [.int .i64 (K.entry), sb, wb] rfl ag25 sz25 rfl (B5.sub (o := 0) (vs := [.int .i64 (K.entry), sb, wb]) rfl) rfl ?_
  refine WL.guardT (rfl) ?_
  refine WL.call ca7 (rfl) rfl (large_spec sb wb K _ ((hsb).ext' (E4)) ((hwb).ext' (E4))) ?_
  rintro _ wlK ⟨rfl, elK⟩
  rw [hK]
  have E6 : Ext w wlK := Mod.trans (E4) (elK)
  refine WL.pick (b := false) rfl rfl rfl ?_
  refine WL.nil ?_
  refine WC.condF rfl ?_
  refine WC.skip ?_
  refine WC.seq ?_
  refine WC.region ?_
  have B7 := ((B3).ext (elA)).ext (elK)
  refine WL.loadS [.int .i64 (A.entry), sa, wa] rfl ag25 sz25 rfl (B7.sub (o := 0) (vs := [.int .i64 (A.entry), sa, wa]) rfl) rfl ?_
  refine WL.call ca11 (rfl) rfl (put_ok sa wa A _ ⟨(hsa).ext' (E6), (hwa).ext' (E6), by omega, by omega⟩ hNA hrA) ?_
  rintro _ wq26 ⟨u26, rfl, oq26, fq26, eq26⟩
  have E8 : Ext w wq26 := Mod.trans (E6) (eq26)
  refine WL.move (v := .tuple #[u26, .int .i64 0]) rfl rfl ?_
  refine WL.extract rfl rfl rfl ?_
  refine WL.extract rfl rfl rfl ?_
  refine WL.assign (v := u26) rfl rfl ?_
  refine WL.assign (v := .int .i64 (0)) rfl rfl ?_
  refine WL.nil ?_
  refine WC.seq ?_
  refine WC.region ?_
  have B9 := ((B5).ext (elK)).ext (eq26)
  refine WL.loadS [.int .i64 (K.entry), sb, wb] rfl ag25 sz25 rfl (B9.sub (o := 0) (vs := [.int .i64 (K.entry), sb, wb]) rfl) rfl ?_
  refine WL.call ca11 (rfl) rfl (put_no sb wb K _ ⟨(hsb).ext' (E8), (hwb).ext' (E8), by omega, by omega⟩ hNK hrK) ?_
  rintro _ wq31 ⟨rfl, eq31⟩
  have E10 : Ext w wq31 := Mod.trans (E8) (eq31)
  refine WL.move (v := .tuple #[.slice none 0 0, .int .i64 2]) rfl rfl ?_
  refine WL.extract rfl rfl rfl ?_
  refine WL.extract rfl rfl rfl ?_
  refine WL.assign (v := .slice none 0 0) rfl rfl ?_
  refine WL.assign (v := .int .i64 (2)) rfl rfl ?_
  refine WL.nil ?_
  refine WC.seq ?_
  refine WC.seq ?_
  refine WC.region ?_
  refine WL.move (v := .int .i64 (0)) rfl rfl ?_
  refine WL.bin (v := .bool (false)) rfl rfl rfl (BinR.toB (BinR.neq) (rfl)) ?_
  refine WL.nil ?_
  refine WC.condF rfl ?_
  refine WC.skip ?_
  refine WC.seq ?_
  refine WC.seq ?_
  refine WC.draw (fun w_ => Ext wq31 w_) 13 rfl mixed ?_
  intro wd_7 ed_7
  have R11 : Ext wq31 wd_7 := Mod.trans (Mod.refl _ _) (ed_7)
  have E12 : Ext w wd_7 := Mod.trans (E10) (ed_7)
  refine WA.take (i := 0) (m' := 1) (v := .int .i64 (2)) rfl rfl rfl rfl (by kernel_rfl) rfl (fun _ _ _ h => h) (fun wx hS => ?_) (R11) ?_
  · have E13 : Ext w wx := Mod.trans (E10) (hS)
    refine WL.move (v := .int .i64 (2)) rfl rfl ?_
    exact WL.nil ⟨rfl, rfl, rfl⟩
  refine WA.take (i := 1) (m' := 3) (v := .bool (false)) rfl rfl rfl rfl (by kernel_rfl) rfl (fun _ _ _ h => h) (fun wx hS => ?_) (R11) ?_
  · have E14 : Ext w wx := Mod.trans (E10) (hS)
    refine WL.bin (v := .bool (false)) rfl rfl rfl (BinR.toB (BinR.eql) (rfl)) ?_
    exact WL.nil ⟨rfl, rfl, rfl⟩
  refine WA.take (i := 2) (m' := 7) (v := .bool (false)) rfl rfl rfl rfl (by kernel_rfl) rfl (fun _ _ _ h => h) (fun wx hS => ?_) (R11) ?_
  · have E15 : Ext w wx := Mod.trans (E10) (hS)
    refine WL.move (v := .bool (false)) rfl rfl ?_
    exact WL.nil ⟨rfl, rfl, rfl⟩
  refine WA.off (i := 3) (m' := 15) (y := some false) rfl rfl rfl rfl (by kernel_rfl) rfl (fun _ _ _ h => h) (rfl) rfl (R11) ?_
  refine WA.off (i := 4) (m' := 31) (y := some false) rfl rfl rfl rfl (by kernel_rfl) rfl (fun _ _ _ h => h) (rfl) rfl (R11) ?_
  refine WA.off (i := 5) (m' := 63) (y := some false) rfl rfl rfl rfl (by kernel_rfl) rfl (fun _ _ _ h => h) (rfl) rfl (R11) ?_
  refine WA.off (i := 6) (m' := 127) (y := some false) rfl rfl rfl rfl (by kernel_rfl) rfl (fun _ _ _ h => h) (rfl) rfl (R11) ?_
  refine WA.off (i := 7) (m' := 255) (y := some false) rfl rfl rfl rfl (by kernel_rfl) rfl (fun _ _ _ h => h) (rfl) rfl (R11) ?_
  refine WA.off (i := 8) (m' := 511) (y := some false) rfl rfl rfl rfl (by kernel_rfl) rfl (fun _ _ _ h => h) (rfl) rfl (R11) ?_
  refine WA.off (i := 9) (m' := 1023) (y := some false) rfl rfl rfl rfl (by kernel_rfl) rfl (fun _ _ _ h => h) (rfl) rfl (R11) ?_
  refine WA.off (i := 10) (m' := 2047) (y := some false) rfl rfl rfl rfl (by kernel_rfl) rfl (fun _ _ _ h => h) (rfl) rfl (R11) ?_
  refine WA.off (i := 11) (m' := 4095) (y := some false) rfl rfl rfl rfl (by kernel_rfl) rfl (fun _ _ _ h => h) (rfl) rfl (R11) ?_
  refine WA.take (i := 12) (m' := 8191) (v := .bool (false)) rfl rfl rfl rfl (by kernel_rfl) rfl (fun _ _ _ h => h) (fun wx hS => ?_) (R11) ?_
  · have E16 : Ext w wx := Mod.trans (E10) (hS)
    refine WL.pick (b := false) rfl rfl rfl ?_
    exact WL.nil ⟨rfl, rfl, rfl⟩
  refine WA.done (by kernel_rfl) ?_
  refine WC.condF rfl ?_
  refine WC.skip ?_
  refine WC.seq ?_
  refine WC.seq ?_
  refine WC.region ?_
  refine WL.move (v := u26) rfl rfl ?_
  have O17 := ((oq26).ext (eq31)).ext (ed_7)
  refine WL.lenSl (sz := 1) (m := (bytesOf A).length) (xs := bs (bytesOf A)) el28 rfl ((O17).sl) rfl ?_
  refine WL.bin (v := .bool (false)) rfl rfl rfl (BinR.toB (BinR.eql) (beq_eq_false_iff_ne.2 (by omega))) ?_
  refine WL.nil ?_
  refine WC.condF rfl ?_
  refine WC.skip ?_
  refine WC.seq ?_
  refine WC.region ?_
  refine WL.move (v := u26) rfl rfl ?_
  refine WL.toString (m := (bytesOf A).length) (bl := (bytesOf A)) Try.underlying28 Try.underlying5 Try.underlying9 rfl ((O17).sl) rfl ?_
  have B18 := (((B7).ext (eq26)).ext (eq31)).ext (ed_7)
  have B19 := ((B9).ext (eq31)).ext (ed_7)
  refine WL.toBytes (bl := ((bytesOf A))) Try.underlying9 Try.underlying28 Try.underlying5 rfl rfl ?_
  intro v55 w55 o55 e55 f55
  have E20 : Ext w w55 := Mod.trans (E12) (e55)
  have F21 : From w.heap.size v55 := fun g hg => Nat.le_trans (Mod.size (E12)) (f55 g hg)
  have N22 : v55.ownBlock ≠ some b4 := From.ne f55 (B18).lt
  have N23 : v55.ownBlock ≠ some b5 := From.ne f55 (B19).lt
  refine WL.assign (v := v55) rfl rfl ?_
  refine WL.nil ?_
  refine WC.seq ?_
  refine WC.region ?_
  refine WL.move (v := .int .u16 (((atn : Nat) : Int))) rfl rfl ?_
  refine WL.conv (v := IN (atn)) rfl rfl (ConvR.toI Try.underlying43 Try.underlying3 (by omega)) ?_
  refine WL.move (v := v55) rfl rfl ?_
  refine WL.lenSl (sz := 1) (m := ((bytesOf A)).length) (xs := bs ((bytesOf A))) el28 rfl ((o55).sl) rfl ?_
  refine WL.bin (v := IN kk) rfl rfl rfl (by rw [hkk]; exact BinR.remN (by omega)) ?_
  refine WL.assign (v := IN (kk)) rfl rfl ?_
  refine WL.nil ?_
  refine WC.seq ?_
  refine WC.region ?_
  refine WL.move (v := v55) rfl rfl ?_
  refine WL.move (v := IN (kk)) rfl rfl ?_
  refine WL.move (v := v55) rfl rfl ?_
  refine WL.move (v := IN (kk)) rfl rfl ?_
  refine WL.indexOwn1 (i := kk) (m := ((bytesOf A)).length) (xs := bs ((bytesOf A))) el28 sz5 rfl rfl hk (o55) rfl ?_
  intro g65 cap65 hv65
  refine WL.load1 rfl ag5 ((o55).cellAt hv65 (bs_get (bytesOf A) kk hk)) rfl ?_
  refine WL.move (v := U8 (bb)) rfl rfl ?_
  refine WL.bin rfl (vy := U8 (1#8)) rfl rfl (BinR.orU8) ?_
  refine WL.bin rfl rfl rfl (BinR.xorU8) ?_
  refine WL.indexOwn1 (i := kk) (m := ((bytesOf A)).length) (xs := bs ((bytesOf A))) el28 sz5 rfl rfl hk (o55) rfl ?_
  intro g70 cap70 hv70
  refine WL.storeOwn (i := kk) (g := g70) rfl rfl rfl sz5 (o55) hv70 hk ?_
  intro wz oz mz
  have ozb : Own wz 1 v55 ((bytesOf A).set kk (UInt8.ofBitVec (((bytesOf A)[kk]).toBitVec ^^^ (bb ||| 1#8)))).length (bs ((bytesOf A).set kk (UInt8.ofBitVec (((bytesOf A)[kk]).toBitVec ^^^ (bb ||| 1#8))))) := by rw [List.length_set, ← bs_set]; exact oz
  have E24 : Ext w wz := Mod.from (E20) mz (F21)
  refine WL.nil ?_
  refine WC.seq ?_
  refine WC.region ?_
  refine WL.move (v := v55) rfl rfl ?_
  refine WL.call ca13 (rfl) rfl (iget_any v55 ((bytesOf A).set kk (UInt8.ofBitVec (((bytesOf A)[kk]).toBitVec ^^^ (bb ||| 1#8)))) _ (ozb).sl (fun g hg => (ozb).lt (by rw [List.length_set]; omega) (by decide) hg) (by rw [List.length_set]; omega)) ?_
  rintro _ wg ⟨M, um, xm, em, rfl, hRM, hM, eg⟩
  have hM1 := hRM.ls
  have hM2 := hRM.lw
  have E25 : Ext w wg := Mod.trans (E24) (eg)
  refine WL.move (v := .tuple #[.agg #[.int .i64 M.entry, um, xm], .int .i64 em]) rfl rfl ?_
  refine WL.extract rfl rfl rfl ?_
  refine WL.extract rfl rfl rfl ?_
  refine WL.allocStore (v := .agg #[.int .i64 (M.entry), um, xm]) zt25 rfl sz25 rfl rfl (ones3 rfl (hRM.s).one (hRM.w).one) rfl ?_
  intro b15 w15 n15
  have E26 : Ext w w15 := Mod.trans (E25) (n15.ext)
  refine WL.assign (v := .int .i64 (em)) rfl rfl ?_
  refine WL.nil ?_
  refine WC.seq ?_
  refine WC.region ?_
  refine WL.move (v := .int .i64 (em)) rfl rfl ?_
  refine WL.bin rfl rfl rfl (BinR.neq) ?_
  refine WL.move (v := .bool (((em : Int) != (0 : Int)))) rfl rfl ?_
  rcases Bool.eq_false_or_eq_true (((em : Int) != (0 : Int))) with hg78 | hg78
  · refine WL.guardF (b' := true) (yf_bool rfl rfl hg78) rfl rfl ?_
    refine WL.guardF (b' := true) (yf_bool rfl rfl hg78) rfl rfl ?_
    refine WL.guardF (b' := true) (yf_bool rfl rfl hg78) rfl rfl ?_
    refine WL.guardF (b' := true) (yf_bool rfl rfl hg78) rfl rfl ?_
    refine WL.pick (b := true) (congrArg Value.bool hg78) rfl rfl ?_
    refine WL.move (v := .bool (true)) rfl rfl ?_
    refine WL.guardT (rfl) ?_
    refine WL.call ca8 (rfl) rfl (works_spec _) ?_
    rintro _ wk85 ⟨rfl, ek85⟩
    have E27 : Ext w wk85 := Mod.trans (E26) (ek85)
    refine WL.pick (b := true) rfl rfl rfl ?_
    refine WL.assign (v := .bool (true)) rfl rfl ?_
    refine WL.nil ?_
    refine WC.ret ?_
    exact ⟨_, Res.one (v := .bool (true)) rfl rfl, rfl, E27⟩
  · have hMA : (M == A) = false := beq_eq_false_iff_ne.2 (fun e => by have := hM (by simpa using hg78); rw [e] at this; exact flip_ne _ _ hk bb this.2.symm)
    refine WL.guardT (yf_bool rfl rfl hg78) ?_
    refine WL.loadS [.int .i64 (M.entry), um, xm] rfl ag25 sz25 rfl (n15.blk.sub (o := 0) (vs := [.int .i64 (M.entry), um, xm]) rfl) rfl ?_
    refine WL.guardT (yf_bool rfl rfl hg78) ?_
    have B28 := ((((B18).ext (e55)).mod (mz) (N22)).ext (eg)).ext (n15.ext)
    refine WL.loadS [.int .i64 (A.entry), sa, wa] rfl ag25 sz25 rfl (B28.sub (o := 0) (vs := [.int .i64 (A.entry), sa, wa]) rfl) rfl ?_
    refine WL.guardT (yf_bool rfl rfl hg78) ?_
    have S29 := (hRM.s).ext' (n15.ext)
    have S30 := (hRM.w).ext' (n15.ext)
    refine WL.call ca14 (rfl) rfl (same_spec um xm sa wa M A _ ⟨S29, S30, by omega, by omega⟩ ⟨(hsa).ext' (E26), (hwa).ext' (E26), by omega, by omega⟩) ?_
    rintro _ ws81 ⟨rfl, es81⟩
    rw [hMA]
    have E31 : Ext w ws81 := Mod.trans (E26) (es81)
    refine WL.guardT (yf_bool rfl rfl hg78) ?_
    refine WL.un rfl rfl UnR.not ?_
    refine WL.pick (b := false) (congrArg Value.bool hg78) rfl rfl ?_
    refine WL.move (v := .bool (true)) rfl rfl ?_
    refine WL.guardT (rfl) ?_
    refine WL.call ca8 (rfl) rfl (works_spec _) ?_
    rintro _ wk85 ⟨rfl, ek85⟩
    have E32 : Ext w wk85 := Mod.trans (E31) (ek85)
    refine WL.pick (b := true) rfl rfl rfl ?_
    refine WL.assign (v := .bool (true)) rfl rfl ?_
    refine WL.nil ?_
    refine WC.ret ?_
    exact ⟨_, Res.one (v := .bool (true)) rfl rfl, rfl, E32⟩

theorem unlike_yy (sa wa : Value) (A : Img) (sb wb : Value) (K : Img) (atn : Nat) (bb : BitVec 8) (w : World) (hsa : Sl w sa 2 A.syms.length (symCells A.syms)) (hwa : Sl w wa 1 A.words.length (wordCells A.words)) (hsb : Sl w sb 2 K.syms.length (symCells K.syms)) (hwb : Sl w wb 1 K.words.length (wordCells K.words)) (hA : largeB A = false) (hK : largeB K = false) (hatA : ∀ s ∈ A.syms, s.2 ≤ 9223372036854775807) (hatK : ∀ s ∈ K.syms, s.2 ≤ 9223372036854775807) (hatn : atn < 65536) (hrA : rightB A = true) (hrK : rightB K = true) : CallsR Try.prog 6 #[.agg #[.int .i64 (A.entry), sa, wa], .agg #[.int .i64 (K.entry), sb, wb], .int .u16 (((atn : Nat) : Int)), U8 (bb)] w (fun v w' => v = .bool true ∧ Ext w w') := by
  obtain ⟨hlA1, hlA2, hlA3⟩ := largeB_no hA
  obtain ⟨hlK1, hlK2, hlK3⟩ := largeB_no hK
  have hNA : ∀ s ∈ A.syms, s.1.length ≤ 1000000000 ∧ s.2 ≤ 9223372036854775807 := fun s hs => ⟨by have := hlA3 s hs; omega, hatA s hs⟩
  have hNK : ∀ s ∈ K.syms, s.1.length ≤ 1000000000 ∧ s.2 ≤ 9223372036854775807 := fun s hs => ⟨by have := hlK3 s hs; omega, hatK s hs⟩
  obtain ⟨hz1, hz2⟩ := bytesOf_le hrA
  obtain ⟨kk, hkk, hk⟩ : ∃ kk, kk = atn % (bytesOf A).length ∧ kk < (bytesOf A).length := ⟨_, rfl, Nat.mod_lt _ (by omega)⟩
  refine callsR_of Try.func6 rfl rfl rfl ?_
  refine WC.seq ?_
  refine WC.region ?_
  refine WL.box (v := .agg #[.int .i64 (A.entry), sa, wa]) rfl rfl ?_
  intro b4 w4 n4
  have E1 : Ext w w4 := Mod.trans (Mod.refl _ _) (n4.ext)
  refine WL.box (v := .agg #[.int .i64 (K.entry), sb, wb]) rfl rfl ?_
  intro b5 w5 n5
  have E2 : Ext w w5 := Mod.trans (E1) (n5.ext)
  refine WL.assign (v := .bool (false)) rfl rfl ?_
  refine WL.nil ?_
  refine WC.seq ?_
  refine WC.seq ?_
  refine WC.region ?_
  have B3 := (n4.blk).ext (n5.ext)
  refine WL.loadS [.int .i64 (A.entry), sa, wa] rfl ag25 sz25 rfl (B3.sub (o := 0) (vs := [.int .i64 (A.entry), sa, wa]) rfl) rfl ?_
  refine WL.call ca7 (rfl) rfl (large_spec sa wa A _ ((hsa).ext' (E2)) ((hwa).ext' (E2))) ?_
  rintro _ wlA ⟨rfl, elA⟩
  rw [hA]
  have E4 : Ext w wlA := Mod.trans (E2) (elA)
  refine WL.move (v := .bool (false)) rfl rfl ?_
  refine WL.guardT (rfl) ?_
  have B5 := (n5.blk).ext (elA)
  refine WL.loadS [.int .i64 (K.entry), sb, wb] rfl ag25 sz25 rfl (B5.sub (o := 0) (vs := [.int .i64 (K.entry), sb, wb]) rfl) rfl ?_
  refine WL.guardT (rfl) ?_
  refine WL.call ca7 (rfl) rfl (large_spec sb wb K _ ((hsb).ext' (E4)) ((hwb).ext' (E4))) ?_
  rintro _ wlK ⟨rfl, elK⟩
  rw [hK]
  have E6 : Ext w wlK := Mod.trans (E4) (elK)
  refine WL.pick (b := false) rfl rfl rfl ?_
  refine WL.nil ?_
  refine WC.condF rfl ?_
  refine WC.skip ?_
  refine WC.seq ?_
  refine WC.region ?_
  have B7 := ((B3).ext (elA)).ext (elK)
  refine WL.loadS [.int .i64 (A.entry), sa, wa] rfl ag25 sz25 rfl (B7.sub (o := 0) (vs := [.int .i64 (A.entry), sa, wa]) rfl) rfl ?_
  refine WL.call ca11 (rfl) rfl (put_ok sa wa A _ ⟨(hsa).ext' (E6), (hwa).ext' (E6), by omega, by omega⟩ hNA hrA) ?_
  rintro _ wq26 ⟨u26, rfl, oq26, fq26, eq26⟩
  have E8 : Ext w wq26 := Mod.trans (E6) (eq26)
  refine WL.move (v := .tuple #[u26, .int .i64 0]) rfl rfl ?_
  refine WL.extract rfl rfl rfl ?_
  refine WL.extract rfl rfl rfl ?_
  refine WL.assign (v := u26) rfl rfl ?_
  refine WL.assign (v := .int .i64 (0)) rfl rfl ?_
  refine WL.nil ?_
  refine WC.seq ?_
  refine WC.region ?_
  have B9 := ((B5).ext (elK)).ext (eq26)
  refine WL.loadS [.int .i64 (K.entry), sb, wb] rfl ag25 sz25 rfl (B9.sub (o := 0) (vs := [.int .i64 (K.entry), sb, wb]) rfl) rfl ?_
  refine WL.call ca11 (rfl) rfl (put_ok sb wb K _ ⟨(hsb).ext' (E8), (hwb).ext' (E8), by omega, by omega⟩ hNK hrK) ?_
  rintro _ wq31 ⟨u31, rfl, oq31, fq31, eq31⟩
  have E10 : Ext w wq31 := Mod.trans (E8) (eq31)
  refine WL.move (v := .tuple #[u31, .int .i64 0]) rfl rfl ?_
  refine WL.extract rfl rfl rfl ?_
  refine WL.extract rfl rfl rfl ?_
  refine WL.assign (v := u31) rfl rfl ?_
  refine WL.assign (v := .int .i64 (0)) rfl rfl ?_
  refine WL.nil ?_
  refine WC.seq ?_
  refine WC.seq ?_
  refine WC.region ?_
  refine WL.move (v := .int .i64 (0)) rfl rfl ?_
  refine WL.bin (v := .bool (false)) rfl rfl rfl (BinR.toB (BinR.neq) (rfl)) ?_
  refine WL.nil ?_
  refine WC.condF rfl ?_
  refine WC.skip ?_
  refine WC.seq ?_
  refine WC.seq ?_
  refine WC.draw (fun w_ => Ext wq31 w_) 13 rfl mixed ?_
  intro wd_7 ed_7
  have R11 : Ext wq31 wd_7 := Mod.trans (Mod.refl _ _) (ed_7)
  have E12 : Ext w wd_7 := Mod.trans (E10) (ed_7)
  refine WA.take (i := 0) (m' := 1) (v := .int .i64 (0)) rfl rfl rfl rfl (by kernel_rfl) rfl (fun _ _ _ h => h) (fun wx hS => ?_) (R11) ?_
  · have E13 : Ext w wx := Mod.trans (E10) (hS)
    refine WL.move (v := .int .i64 (0)) rfl rfl ?_
    exact WL.nil ⟨rfl, rfl, rfl⟩
  refine WA.take (i := 1) (m' := 3) (v := .bool (true)) rfl rfl rfl rfl (by kernel_rfl) rfl (fun _ _ _ h => h) (fun wx hS => ?_) (R11) ?_
  · have E14 : Ext w wx := Mod.trans (E10) (hS)
    refine WL.bin (v := .bool (true)) rfl rfl rfl (BinR.toB (BinR.eql) (rfl)) ?_
    exact WL.nil ⟨rfl, rfl, rfl⟩
  refine WA.take (i := 2) (m' := 7) (v := .bool (true)) rfl rfl rfl rfl (by kernel_rfl) rfl (fun _ _ _ h => h) (fun wx hS => ?_) (R11) ?_
  · have E15 : Ext w wx := Mod.trans (E10) (hS)
    refine WL.move (v := .bool (true)) rfl rfl ?_
    exact WL.nil ⟨rfl, rfl, rfl⟩
  refine WA.take (i := 3) (m' := 15) (v := u26) rfl rfl rfl rfl (by kernel_rfl) rfl (fun _ _ _ h => h) (fun wx hS => ?_) (R11) ?_
  · have E16 : Ext w wx := Mod.trans (E10) (hS)
    refine WL.guardT (rfl) ?_
    refine WL.move (v := u26) rfl rfl ?_
    exact WL.nil ⟨rfl, rfl, rfl⟩
  refine WA.take (i := 4) (m' := 31) (v := St ((bytesOf A))) rfl rfl rfl rfl (by kernel_rfl) rfl (fun _ _ _ h => h) (fun wx hS => ?_) (R11) ?_
  · have E17 : Ext w wx := Mod.trans (E10) (hS)
    refine WL.guardT (rfl) ?_
    have O18 := ((oq26).ext (eq31)).ext (hS)
    refine WL.toString (m := (bytesOf A).length) (bl := (bytesOf A)) Try.underlying28 Try.underlying5 Try.underlying9 rfl ((O18).sl) rfl ?_
    exact WL.nil ⟨rfl, rfl, rfl⟩
  refine WA.take (i := 5) (m' := 63) (v := u31) rfl rfl rfl rfl (by kernel_rfl) rfl (fun _ _ _ h => h) (fun wx hS => ?_) (R11) ?_
  · have E19 : Ext w wx := Mod.trans (E10) (hS)
    refine WL.guardT (rfl) ?_
    refine WL.move (v := u31) rfl rfl ?_
    exact WL.nil ⟨rfl, rfl, rfl⟩
  refine WA.take (i := 6) (m' := 127) (v := St ((bytesOf K))) rfl rfl rfl rfl (by kernel_rfl) rfl (fun _ _ _ h => h) (fun wx hS => ?_) (R11) ?_
  · have E20 : Ext w wx := Mod.trans (E10) (hS)
    refine WL.guardT (rfl) ?_
    have O21 := (oq31).ext (hS)
    refine WL.toString (m := (bytesOf K).length) (bl := (bytesOf K)) Try.underlying28 Try.underlying5 Try.underlying9 rfl ((O21).sl) rfl ?_
    exact WL.nil ⟨rfl, rfl, rfl⟩
  refine WA.take (i := 7) (m' := 255) (v := .bool ((((bytesOf A)) == ((bytesOf K))))) rfl rfl rfl rfl (by kernel_rfl) rfl (fun _ _ _ h => h) (fun wx hS => ?_) (R11) ?_
  · have E22 : Ext w wx := Mod.trans (E10) (hS)
    refine WL.guardT (rfl) ?_
    refine WL.bin rfl rfl rfl (BinR.eqlS) ?_
    exact WL.nil ⟨rfl, rfl, rfl⟩
  refine WA.take (i := 8) (m' := 511) (v := .agg #[.int .i64 (A.entry), sa, wa]) rfl rfl rfl rfl (by kernel_rfl) rfl (fun _ _ _ h => h) (fun wx hS => ?_) (R11) ?_
  · have E23 : Ext w wx := Mod.trans (E10) (hS)
    refine WL.guardT (rfl) ?_
    have B24 := (((B7).ext (eq26)).ext (eq31)).ext (hS)
    refine WL.loadS [.int .i64 (A.entry), sa, wa] rfl ag25 sz25 rfl (B24.sub (o := 0) (vs := [.int .i64 (A.entry), sa, wa]) rfl) rfl ?_
    exact WL.nil ⟨rfl, rfl, rfl⟩
  refine WA.take (i := 9) (m' := 1023) (v := .agg #[.int .i64 (K.entry), sb, wb]) rfl rfl rfl rfl (by kernel_rfl) rfl (fun _ _ _ h => h) (fun wx hS => ?_) (R11) ?_
  · have E25 : Ext w wx := Mod.trans (E10) (hS)
    refine WL.guardT (rfl) ?_
    have B26 := ((B9).ext (eq31)).ext (hS)
    refine WL.loadS [.int .i64 (K.entry), sb, wb] rfl ag25 sz25 rfl (B26.sub (o := 0) (vs := [.int .i64 (K.entry), sb, wb]) rfl) rfl ?_
    exact WL.nil ⟨rfl, rfl, rfl⟩
  refine WA.one (i := 10) (m' := 2047) (by kernel_rfl) rfl rfl ?_
  refine WL.guardT (rfl) ?_
  refine WL.call ca14 (rfl) rfl (same_spec sa wa sb wb A K _ ⟨(hsa).ext' (E12), (hwa).ext' (E12), by omega, by omega⟩ ⟨(hsb).ext' (E12), (hwb).ext' (E12), by omega, by omega⟩) ?_
  rintro _ ws47 ⟨rfl, es47⟩
  have R27 : Ext wq31 ws47 := Mod.trans (R11) (es47)
  have E28 : Ext w ws47 := Mod.trans (E12) (es47)
  refine WL.behind (R27) ?_
  refine WA.take (i := 11) (m' := 4095) (v := .bool (false)) rfl rfl rfl rfl (by kernel_rfl) rfl (fun _ _ _ h => h) (fun wx hS => ?_) (R27) ?_
  · have E29 : Ext w wx := Mod.trans (E10) (hS)
    refine WL.guardT (rfl) ?_
    refine WL.bin (v := .bool (false)) rfl rfl rfl (BinR.toB (BinR.neqB Try.underlying4) (by rw [bytes_eq hrA hrK]; simp)) ?_
    exact WL.nil ⟨rfl, rfl, rfl⟩
  refine WA.take (i := 12) (m' := 8191) (v := .bool (false)) rfl rfl rfl rfl (by kernel_rfl) rfl (fun _ _ _ h => h) (fun wx hS => ?_) (R27) ?_
  · have E30 : Ext w wx := Mod.trans (E10) (hS)
    refine WL.pick (b := true) rfl rfl rfl ?_
    exact WL.nil ⟨rfl, rfl, rfl⟩
  refine WA.done (by kernel_rfl) ?_
  refine WC.condF rfl ?_
  refine WC.skip ?_
  refine WC.seq ?_
  refine WC.seq ?_
  refine WC.region ?_
  refine WL.move (v := u26) rfl rfl ?_
  have O31 := (((oq26).ext (eq31)).ext (ed_7)).ext (es47)
  refine WL.lenSl (sz := 1) (m := (bytesOf A).length) (xs := bs (bytesOf A)) el28 rfl ((O31).sl) rfl ?_
  refine WL.bin (v := .bool (false)) rfl rfl rfl (BinR.toB (BinR.eql) (beq_eq_false_iff_ne.2 (by omega))) ?_
  refine WL.nil ?_
  refine WC.condF rfl ?_
  refine WC.skip ?_
  refine WC.seq ?_
  refine WC.region ?_
  refine WL.move (v := u26) rfl rfl ?_
  refine WL.toString (m := (bytesOf A).length) (bl := (bytesOf A)) Try.underlying28 Try.underlying5 Try.underlying9 rfl ((O31).sl) rfl ?_
  have B32 := ((((B7).ext (eq26)).ext (eq31)).ext (ed_7)).ext (es47)
  have B33 := (((B9).ext (eq31)).ext (ed_7)).ext (es47)
  refine WL.toBytes (bl := ((bytesOf A))) Try.underlying9 Try.underlying28 Try.underlying5 rfl rfl ?_
  intro v55 w55 o55 e55 f55
  have E34 : Ext w w55 := Mod.trans (E28) (e55)
  have F35 : From w.heap.size v55 := fun g hg => Nat.le_trans (Mod.size (E28)) (f55 g hg)
  have N36 : v55.ownBlock ≠ some b4 := From.ne f55 (B32).lt
  have N37 : v55.ownBlock ≠ some b5 := From.ne f55 (B33).lt
  refine WL.assign (v := v55) rfl rfl ?_
  refine WL.nil ?_
  refine WC.seq ?_
  refine WC.region ?_
  refine WL.move (v := .int .u16 (((atn : Nat) : Int))) rfl rfl ?_
  refine WL.conv (v := IN (atn)) rfl rfl (ConvR.toI Try.underlying43 Try.underlying3 (by omega)) ?_
  refine WL.move (v := v55) rfl rfl ?_
  refine WL.lenSl (sz := 1) (m := ((bytesOf A)).length) (xs := bs ((bytesOf A))) el28 rfl ((o55).sl) rfl ?_
  refine WL.bin (v := IN kk) rfl rfl rfl (by rw [hkk]; exact BinR.remN (by omega)) ?_
  refine WL.assign (v := IN (kk)) rfl rfl ?_
  refine WL.nil ?_
  refine WC.seq ?_
  refine WC.region ?_
  refine WL.move (v := v55) rfl rfl ?_
  refine WL.move (v := IN (kk)) rfl rfl ?_
  refine WL.move (v := v55) rfl rfl ?_
  refine WL.move (v := IN (kk)) rfl rfl ?_
  refine WL.indexOwn1 (i := kk) (m := ((bytesOf A)).length) (xs := bs ((bytesOf A))) el28 sz5 rfl rfl hk (o55) rfl ?_
  intro g65 cap65 hv65
  refine WL.load1 rfl ag5 ((o55).cellAt hv65 (bs_get (bytesOf A) kk hk)) rfl ?_
  refine WL.move (v := U8 (bb)) rfl rfl ?_
  refine WL.bin rfl (vy := U8 (1#8)) rfl rfl (BinR.orU8) ?_
  refine WL.bin rfl rfl rfl (BinR.xorU8) ?_
  refine WL.indexOwn1 (i := kk) (m := ((bytesOf A)).length) (xs := bs ((bytesOf A))) el28 sz5 rfl rfl hk (o55) rfl ?_
  intro g70 cap70 hv70
  refine WL.storeOwn (i := kk) (g := g70) rfl rfl rfl sz5 (o55) hv70 hk ?_
  intro wz oz mz
  have ozb : Own wz 1 v55 ((bytesOf A).set kk (UInt8.ofBitVec (((bytesOf A)[kk]).toBitVec ^^^ (bb ||| 1#8)))).length (bs ((bytesOf A).set kk (UInt8.ofBitVec (((bytesOf A)[kk]).toBitVec ^^^ (bb ||| 1#8))))) := by rw [List.length_set, ← bs_set]; exact oz
  have E38 : Ext w wz := Mod.from (E34) mz (F35)
  refine WL.nil ?_
  refine WC.seq ?_
  refine WC.region ?_
  refine WL.move (v := v55) rfl rfl ?_
  refine WL.call ca13 (rfl) rfl (iget_any v55 ((bytesOf A).set kk (UInt8.ofBitVec (((bytesOf A)[kk]).toBitVec ^^^ (bb ||| 1#8)))) _ (ozb).sl (fun g hg => (ozb).lt (by rw [List.length_set]; omega) (by decide) hg) (by rw [List.length_set]; omega)) ?_
  rintro _ wg ⟨M, um, xm, em, rfl, hRM, hM, eg⟩
  have hM1 := hRM.ls
  have hM2 := hRM.lw
  have E39 : Ext w wg := Mod.trans (E38) (eg)
  refine WL.move (v := .tuple #[.agg #[.int .i64 M.entry, um, xm], .int .i64 em]) rfl rfl ?_
  refine WL.extract rfl rfl rfl ?_
  refine WL.extract rfl rfl rfl ?_
  refine WL.allocStore (v := .agg #[.int .i64 (M.entry), um, xm]) zt25 rfl sz25 rfl rfl (ones3 rfl (hRM.s).one (hRM.w).one) rfl ?_
  intro b15 w15 n15
  have E40 : Ext w w15 := Mod.trans (E39) (n15.ext)
  refine WL.assign (v := .int .i64 (em)) rfl rfl ?_
  refine WL.nil ?_
  refine WC.seq ?_
  refine WC.region ?_
  refine WL.move (v := .int .i64 (em)) rfl rfl ?_
  refine WL.bin rfl rfl rfl (BinR.neq) ?_
  refine WL.move (v := .bool (((em : Int) != (0 : Int)))) rfl rfl ?_
  rcases Bool.eq_false_or_eq_true (((em : Int) != (0 : Int))) with hg78 | hg78
  · refine WL.guardF (b' := true) (yf_bool rfl rfl hg78) rfl rfl ?_
    refine WL.guardF (b' := true) (yf_bool rfl rfl hg78) rfl rfl ?_
    refine WL.guardF (b' := true) (yf_bool rfl rfl hg78) rfl rfl ?_
    refine WL.guardF (b' := true) (yf_bool rfl rfl hg78) rfl rfl ?_
    refine WL.pick (b := true) (congrArg Value.bool hg78) rfl rfl ?_
    refine WL.move (v := .bool (true)) rfl rfl ?_
    refine WL.guardT (rfl) ?_
    refine WL.call ca8 (rfl) rfl (works_spec _) ?_
    rintro _ wk85 ⟨rfl, ek85⟩
    have E41 : Ext w wk85 := Mod.trans (E40) (ek85)
    refine WL.pick (b := true) rfl rfl rfl ?_
    refine WL.assign (v := .bool (true)) rfl rfl ?_
    refine WL.nil ?_
    refine WC.ret ?_
    exact ⟨_, Res.one (v := .bool (true)) rfl rfl, rfl, E41⟩
  · have hMA : (M == A) = false := beq_eq_false_iff_ne.2 (fun e => by have := hM (by simpa using hg78); rw [e] at this; exact flip_ne _ _ hk bb this.2.symm)
    refine WL.guardT (yf_bool rfl rfl hg78) ?_
    refine WL.loadS [.int .i64 (M.entry), um, xm] rfl ag25 sz25 rfl (n15.blk.sub (o := 0) (vs := [.int .i64 (M.entry), um, xm]) rfl) rfl ?_
    refine WL.guardT (yf_bool rfl rfl hg78) ?_
    have B42 := ((((B32).ext (e55)).mod (mz) (N36)).ext (eg)).ext (n15.ext)
    refine WL.loadS [.int .i64 (A.entry), sa, wa] rfl ag25 sz25 rfl (B42.sub (o := 0) (vs := [.int .i64 (A.entry), sa, wa]) rfl) rfl ?_
    refine WL.guardT (yf_bool rfl rfl hg78) ?_
    have S43 := (hRM.s).ext' (n15.ext)
    have S44 := (hRM.w).ext' (n15.ext)
    refine WL.call ca14 (rfl) rfl (same_spec um xm sa wa M A _ ⟨S43, S44, by omega, by omega⟩ ⟨(hsa).ext' (E40), (hwa).ext' (E40), by omega, by omega⟩) ?_
    rintro _ ws81 ⟨rfl, es81⟩
    rw [hMA]
    have E45 : Ext w ws81 := Mod.trans (E40) (es81)
    refine WL.guardT (yf_bool rfl rfl hg78) ?_
    refine WL.un rfl rfl UnR.not ?_
    refine WL.pick (b := false) (congrArg Value.bool hg78) rfl rfl ?_
    refine WL.move (v := .bool (true)) rfl rfl ?_
    refine WL.guardT (rfl) ?_
    refine WL.call ca8 (rfl) rfl (works_spec _) ?_
    rintro _ wk85 ⟨rfl, ek85⟩
    have E46 : Ext w wk85 := Mod.trans (E45) (ek85)
    refine WL.pick (b := true) rfl rfl rfl ?_
    refine WL.assign (v := .bool (true)) rfl rfl ?_
    refine WL.nil ?_
    refine WC.ret ?_
    exact ⟨_, Res.one (v := .bool (true)) rfl rfl, rfl, E46⟩
end Go.Proofs.I
