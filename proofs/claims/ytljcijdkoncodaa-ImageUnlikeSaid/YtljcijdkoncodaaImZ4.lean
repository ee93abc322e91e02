import Derived.Test.YtljcijdkoncodaaImgBig
import Derived.Test.YtljcijdkoncodaaRows
import Derived.Test.YtljcijdkoncodaaImZ3
set_option linter.unusedSimpArgs false
set_option linter.unusedVariables false
namespace Go.Proofs.I
open Go Go.Ux Go.Ux.Image Go.Proofs
theorem ca7 : callable Try.prog 7 = true := by kernel_rfl
theorem ca8 : callable Try.prog 8 = true := by kernel_rfl
theorem ca10 : callable Try.prog 10 = true := by kernel_rfl
theorem ca15 : callable Try.prog 15 = true := by kernel_rfl

theorem samelaw_a (sa wa : Value) (A : Img) (sb wb : Value) (K : Img) (w : World) (hsa : Sl w sa 2 A.syms.length (symCells A.syms)) (hwa : Sl w wa 1 A.words.length (wordCells A.words)) (hsb : Sl w sb 2 K.syms.length (symCells K.syms)) (hwb : Sl w wb 1 K.words.length (wordCells K.words)) (hA : largeB A = true) : CallsR Try.prog 5 #[.agg #[.int .i64 (A.entry), sa, wa], .agg #[.int .i64 (K.entry), sb, wb]] w (fun v w' => v = .bool true ∧ Ext w w') := by
  refine callsR_of Try.func5 rfl rfl rfl ?_
  refine WC.seq ?_
  refine WC.region ?_
  refine WL.box (v := .agg #[.int .i64 (A.entry), sa, wa]) rfl rfl ?_
  intro b2 w2 n2
  have E1 : Ext w w2 := Mod.trans (Mod.refl _ _) (n2.ext)
  refine WL.box (v := .agg #[.int .i64 (K.entry), sb, wb]) rfl rfl ?_
  intro b3 w3 n3
  have E2 : Ext w w3 := Mod.trans (E1) (n3.ext)
  refine WL.assign (v := .bool (false)) rfl rfl ?_
  refine WL.nil ?_
  refine WC.seq ?_
  refine WC.seq ?_
  refine WC.region ?_
  have B3 := (n2.blk).ext (n3.ext)
  refine WL.loadS [.int .i64 (A.entry), sa, wa] rfl ag25 sz25 rfl (B3.sub (o := 0) (vs := [.int .i64 (A.entry), sa, wa]) rfl) rfl ?_
  refine WL.call ca7 (rfl) rfl (large_spec sa wa A _ ((hsa).ext' (E2)) ((hwa).ext' (E2))) ?_
  rintro _ wlA ⟨rfl, elA⟩
  rw [hA]
  have E4 : Ext w wlA := Mod.trans (E2) (elA)
  refine WL.move (v := .bool (true)) rfl rfl ?_
  refine WL.guardF (b' := true) (rfl) rfl rfl ?_
  refine WL.guardF (b' := true) (rfl) rfl rfl ?_
  refine WL.pick (b := true) rfl rfl rfl ?_
  refine WL.nil ?_
  refine WC.condT rfl ?_
  refine WC.seq ?_
  refine WC.region ?_
  refine WL.call ca8 (rfl) rfl (works_spec _) ?_
  rintro _ wk11 ⟨rfl, ek11⟩
  have E5 : Ext w wk11 := Mod.trans (E4) (ek11)
  refine WL.assign (v := .bool (true)) rfl rfl ?_
  refine WL.nil ?_
  refine WC.ret ?_
  exact ⟨_, Res.one (v := .bool (true)) rfl rfl, rfl, E5⟩

theorem samelaw_b (sa wa : Value) (A : Img) (sb wb : Value) (K : Img) (w : World) (hsa : Sl w sa 2 A.syms.length (symCells A.syms)) (hwa : Sl w wa 1 A.words.length (wordCells A.words)) (hsb : Sl w sb 2 K.syms.length (symCells K.syms)) (hwb : Sl w wb 1 K.words.length (wordCells K.words)) (hA : largeB A = false) (hK : largeB K = true) : CallsR Try.prog 5 #[.agg #[.int .i64 (A.entry), sa, wa], .agg #[.int .i64 (K.entry), sb, wb]] w (fun v w' => v = .bool true ∧ Ext w w') := by
  refine callsR_of Try.func5 rfl rfl rfl ?_
  refine WC.seq ?_
  refine WC.region ?_
  refine WL.box (v := .agg #[.int .i64 (A.entry), sa, wa]) rfl rfl ?_
  intro b2 w2 n2
  have E1 : Ext w w2 := Mod.trans (Mod.refl _ _) (n2.ext)
  refine WL.box (v := .agg #[.int .i64 (K.entry), sb, wb]) rfl rfl ?_
  intro b3 w3 n3
  have E2 : Ext w w3 := Mod.trans (E1) (n3.ext)
  refine WL.assign (v := .bool (false)) rfl rfl ?_
  refine WL.nil ?_
  refine WC.seq ?_
  refine WC.seq ?_
  refine WC.region ?_
  have B3 := (n2.blk).ext (n3.ext)
  refine WL.loadS [.int .i64 (A.entry), sa, wa] rfl ag25 sz25 rfl (B3.sub (o := 0) (vs := [.int .i64 (A.entry), sa, wa]) rfl) rfl ?_
  refine WL.call ca7 (rfl) rfl (large_spec sa wa A _ ((hsa).ext' (E2)) ((hwa).ext' (E2))) ?_
  rintro _ wlA ⟨rfl, elA⟩
  rw [hA]
  have E4 : Ext w wlA := Mod.trans (E2) (elA)
  refine WL.move (v := .bool (false)) rfl rfl ?_
  refine WL.guardT (rfl) ?_
  have B5 := (n3.blk).ext (elA)
  refine WL.loadS [.int .i64 (K.entry), sb, wb] rfl ag25 sz25 rfl (B5.sub (o := 0) (vs := [.int .i64 (K.entry), sb, wb]) rfl) rfl ?_
  refine WL.guardT (rfl) ?_
  refine WL.call ca7 (rfl) rfl (large_spec sb wb K _ ((hsb).ext' (E4)) ((hwb).ext' (E4))) ?_
  rintro _ wlK ⟨rfl, elK⟩
  rw [hK]
  have E6 : Ext w wlK := Mod.trans (E4) (elK)
  refine WL.pick (b := false) rfl rfl rfl ?_
  refine WL.nil ?_
  refine WC.condT rfl ?_
  refine WC.seq ?_
  refine WC.region ?_
  refine WL.call ca8 (rfl) rfl (works_spec _) ?_
  rintro _ wk11 ⟨rfl, ek11⟩
  have E7 : Ext w wk11 := Mod.trans (E6) (ek11)
  refine WL.assign (v := .bool (true)) rfl rfl ?_
  refine WL.nil ?_
  refine WC.ret ?_
  exact ⟨_, Res.one (v := .bool (true)) rfl rfl, rfl, E7⟩

theorem samelaw (sa wa : Value) (A : Img) (sb wb : Value) (K : Img) (w : World) (hsa : Sl w sa 2 A.syms.length (symCells A.syms)) (hwa : Sl w wa 1 A.words.length (wordCells A.words)) (hsb : Sl w sb 2 K.syms.length (symCells K.syms)) (hwb : Sl w wb 1 K.words.length (wordCells K.words)) (hA : largeB A = false) (hK : largeB K = false) : CallsR Try.prog 5 #[.agg #[.int .i64 (A.entry), sa, wa], .agg #[.int .i64 (K.entry), sb, wb]] w (fun v w' => v = .bool true ∧ Ext w w') := by
  obtain ⟨hlA1, hlA2, hlA3⟩ := largeB_no hA
  obtain ⟨hlK1, hlK2, hlK3⟩ := largeB_no hK
  refine callsR_of Try.func5 rfl rfl rfl ?_
  refine WC.seq ?_
  refine WC.region ?_
  refine WL.box (v := .agg #[.int .i64 (A.entry), sa, wa]) rfl rfl ?_
  intro b2 w2 n2
  have E1 : Ext w w2 := Mod.trans (Mod.refl _ _) (n2.ext)
  refine WL.box (v := .agg #[.int .i64 (K.entry), sb, wb]) rfl rfl ?_
  intro b3 w3 n3
  have E2 : Ext w w3 := Mod.trans (E1) (n3.ext)
  refine WL.assign (v := .bool (false)) rfl rfl ?_
  refine WL.nil ?_
  refine WC.seq ?_
  refine WC.seq ?_
  refine WC.region ?_
  have B3 := (n2.blk).ext (n3.ext)
  refine WL.loadS [.int .i64 (A.entry), sa, wa] rfl ag25 sz25 rfl (B3.sub (o := 0) (vs := [.int .i64 (A.entry), sa, wa]) rfl) rfl ?_
  refine WL.call ca7 (rfl) rfl (large_spec sa wa A _ ((hsa).ext' (E2)) ((hwa).ext' (E2))) ?_
  rintro _ wlA ⟨rfl, elA⟩
  rw [hA]
  have E4 : Ext w wlA := Mod.trans (E2) (elA)
  refine WL.move (v := .bool (false)) rfl rfl ?_
  refine WL.guardT (rfl) ?_
  have B5 := (n3.blk).ext (elA)
  refine WL.loadS [.int .i64 (K.entry), sb, wb] rfl ag25 sz25 rfl (B5.sub (o := 0) (vs := [.int .i64 (K.entry), sb, wb]) rfl) rfl ?_
  refine WL.guardT (rfl) ?_
  refine WL.call ca7 (rfl) rfl (large_spec sb wb K _ ((hsb).ext' (E4)) ((hwb).ext' (E4))) ?_
  rintro _ wlK ⟨rfl, elK⟩
  rw [hK]
  have E6 : Ext w wlK := Mod.trans (E4) (elK)
  refine WL.pick (b := false) rfl rfl rfl ?_
  refine WL.nil ?_
  refine WC.condF rfl ?_
  refine WC.skip ?_
  refine WC.seq ?_
  refine WC.draw (fun w_ => Ext wlK w_) 18 rfl mixed ?_
  intro wd_3 ed_3
  have R7 : Ext wlK wd_3 := Mod.trans (Mod.refl _ _) (ed_3)
  have E8 : Ext w wd_3 := Mod.trans (E6) (ed_3)
  refine WA.take (i := 0) (m' := 1) (v := .agg #[.int .i64 (A.entry), sa, wa]) rfl rfl rfl rfl (by kernel_rfl) rfl (fun _ _ _ h => h) (fun wx hS => ?_) (R7) ?_
  · have E9 : Ext w wx := Mod.trans (E6) (hS)
    have B10 := (((B3).ext (elA)).ext (elK)).ext (hS)
    refine WL.loadS [.int .i64 (A.entry), sa, wa] rfl ag25 sz25 rfl (B10.sub (o := 0) (vs := [.int .i64 (A.entry), sa, wa]) rfl) rfl ?_
    exact WL.nil ⟨rfl, rfl, rfl⟩
  refine WA.take (i := 1) (m' := 3) (v := .agg #[.int .i64 (K.entry), sb, wb]) rfl rfl rfl rfl (by kernel_rfl) rfl (fun _ _ _ h => h) (fun wx hS => ?_) (R7) ?_
  · have E11 : Ext w wx := Mod.trans (E6) (hS)
    have B12 := ((B5).ext (elK)).ext (hS)
    refine WL.loadS [.int .i64 (K.entry), sb, wb] rfl ag25 sz25 rfl (B12.sub (o := 0) (vs := [.int .i64 (K.entry), sb, wb]) rfl) rfl ?_
    exact WL.nil ⟨rfl, rfl, rfl⟩
  refine WA.take (i := 3) (m' := 11) (v := .agg #[.int .i64 (A.entry), sa, wa]) rfl rfl rfl rfl (by kernel_rfl) rfl (fun _ _ _ h => h) (fun wx hS => ?_) (R7) ?_
  · have E13 : Ext w wx := Mod.trans (E6) (hS)
    have B14 := (((B3).ext (elA)).ext (elK)).ext (hS)
    refine WL.loadS [.int .i64 (A.entry), sa, wa] rfl ag25 sz25 rfl (B14.sub (o := 0) (vs := [.int .i64 (A.entry), sa, wa]) rfl) rfl ?_
    exact WL.nil ⟨rfl, rfl, rfl⟩
  refine WA.take (i := 5) (m' := 43) (v := .agg #[.int .i64 (K.entry), sb, wb]) rfl rfl rfl rfl (by kernel_rfl) rfl (fun _ _ _ h => h) (fun wx hS => ?_) (R7) ?_
  · have E15 : Ext w wx := Mod.trans (E6) (hS)
    have B16 := ((B5).ext (elK)).ext (hS)
    refine WL.loadS [.int .i64 (K.entry), sb, wb] rfl ag25 sz25 rfl (B16.sub (o := 0) (vs := [.int .i64 (K.entry), sb, wb]) rfl) rfl ?_
    exact WL.nil ⟨rfl, rfl, rfl⟩
  refine WA.one (i := 2) (m' := 47) (by kernel_rfl) rfl rfl ?_
  refine WL.call ca14 (rfl) rfl (same_spec sa wa sb wb A K _ ⟨(hsa).ext' (E8), (hwa).ext' (E8), by omega, by omega⟩ ⟨(hsb).ext' (E8), (hwb).ext' (E8), by omega, by omega⟩) ?_
  rintro _ ws14 ⟨rfl, es14⟩
  have R17 : Ext wlK ws14 := Mod.trans (R7) (es14)
  have E18 : Ext w ws14 := Mod.trans (E8) (es14)
  refine WL.behind (R17) ?_
  refine WA.one (i := 4) (m' := 63) (by kernel_rfl) rfl rfl ?_
  refine WL.call ca10 (rfl) rfl (plain_spec sa wa A _ ⟨(hsa).ext' (E18), (hwa).ext' (E18), by omega, by omega⟩) ?_
  rintro _ wp16 ⟨u16, rfl, op16, fp16, ep16⟩
  have R19 : Ext wlK wp16 := Mod.trans (R17) (ep16)
  have E20 : Ext w wp16 := Mod.trans (E18) (ep16)
  refine WL.behind (R19) ?_
  refine WA.one (i := 6) (m' := 127) (by kernel_rfl) rfl rfl ?_
  refine WL.call ca10 (rfl) rfl (plain_spec sb wb K _ ⟨(hsb).ext' (E20), (hwb).ext' (E20), by omega, by omega⟩) ?_
  rintro _ wp18 ⟨u18, rfl, op18, fp18, ep18⟩
  have R21 : Ext wlK wp18 := Mod.trans (R19) (ep18)
  have E22 : Ext w wp18 := Mod.trans (E20) (ep18)
  refine WL.behind (R21) ?_
  refine WA.one (i := 7) (m' := 255) (by kernel_rfl) rfl rfl ?_
  have S23 := (op16.sl).ext' (ep18)
  refine WL.call ca15 (rfl) rfl (rsame_spec u16 wa u18 wb A K _ ⟨S23, (hwa).ext' (E22), by omega, by omega⟩ ⟨op18.sl, (hwb).ext' (E22), by omega, by omega⟩) ?_
  rintro _ ws19 ⟨rfl, es19⟩
  have R24 : Ext wlK ws19 := Mod.trans (R21) (es19)
  have E25 : Ext w ws19 := Mod.trans (E22) (es19)
  refine WL.behind (R24) ?_
  refine WA.take (i := 8) (m' := 511) (v := .bool (true)) rfl rfl rfl rfl (by kernel_rfl) rfl (fun _ _ _ h => h) (fun wx hS => ?_) (R24) ?_
  · have E26 : Ext w wx := Mod.trans (E6) (hS)
    refine WL.bin (v := .bool (true)) rfl rfl rfl (BinR.toB (BinR.eqlB Try.underlying4) (by simp)) ?_
    exact WL.nil ⟨rfl, rfl, rfl⟩
  refine WA.take (i := 9) (m' := 1023) (v := .bool (true)) rfl rfl rfl rfl (by kernel_rfl) rfl (fun _ _ _ h => h) (fun wx hS => ?_) (R24) ?_
  · have E27 : Ext w wx := Mod.trans (E6) (hS)
    refine WL.move (v := .bool (true)) rfl rfl ?_
    exact WL.nil ⟨rfl, rfl, rfl⟩
  refine WA.take (i := 10) (m' := 2047) (v := .agg #[.int .i64 (A.entry), sa, wa]) rfl rfl rfl rfl (by kernel_rfl) rfl (fun _ _ _ h => h) (fun wx hS => ?_) (R24) ?_
  · have E28 : Ext w wx := Mod.trans (E6) (hS)
    refine WL.guardT (rfl) ?_
    have B29 := (((B3).ext (elA)).ext (elK)).ext (hS)
    refine WL.loadS [.int .i64 (A.entry), sa, wa] rfl ag25 sz25 rfl (B29.sub (o := 0) (vs := [.int .i64 (A.entry), sa, wa]) rfl) rfl ?_
    exact WL.nil ⟨rfl, rfl, rfl⟩
  refine WA.take (i := 11) (m' := 4095) (v := .agg #[.int .i64 (A.entry), sa, wa]) rfl rfl rfl rfl (by kernel_rfl) rfl (fun _ _ _ h => h) (fun wx hS => ?_) (R24) ?_
  · have E30 : Ext w wx := Mod.trans (E6) (hS)
    refine WL.guardT (rfl) ?_
    have B31 := (((B3).ext (elA)).ext (elK)).ext (hS)
    refine WL.loadS [.int .i64 (A.entry), sa, wa] rfl ag25 sz25 rfl (B31.sub (o := 0) (vs := [.int .i64 (A.entry), sa, wa]) rfl) rfl ?_
    exact WL.nil ⟨rfl, rfl, rfl⟩
  refine WA.one (i := 12) (m' := 8191) (by kernel_rfl) rfl rfl ?_
  refine WL.guardT (rfl) ?_
  refine WL.call ca14 (rfl) rfl (same_spec sa wa sa wa A A _ ⟨(hsa).ext' (E25), (hwa).ext' (E25), by omega, by omega⟩ ⟨(hsa).ext' (E25), (hwa).ext' (E25), by omega, by omega⟩) ?_
  rintro _ ws24 ⟨rfl, es24⟩
  rw [beq_self_eq_true]
  have R32 : Ext wlK ws24 := Mod.trans (R24) (es24)
  have E33 : Ext w ws24 := Mod.trans (E25) (es24)
  refine WL.behind (R32) ?_
  refine WA.take (i := 13) (m' := 16383) (v := .bool (true)) rfl rfl rfl rfl (by kernel_rfl) rfl (fun _ _ _ h => h) (fun wx hS => ?_) (R32) ?_
  · have E34 : Ext w wx := Mod.trans (E6) (hS)
    refine WL.pick (b := true) rfl rfl rfl ?_
    exact WL.nil ⟨rfl, rfl, rfl⟩
  refine WA.take (i := 14) (m' := 32767) (v := .bool (true)) rfl rfl rfl rfl (by kernel_rfl) rfl (fun _ _ _ h => h) (fun wx hS => ?_) (R32) ?_
  · have E35 : Ext w wx := Mod.trans (E6) (hS)
    refine WL.move (v := .bool (true)) rfl rfl ?_
    exact WL.nil ⟨rfl, rfl, rfl⟩
  refine WA.one (i := 15) (m' := 65535) (by kernel_rfl) rfl rfl ?_
  refine WL.guardT (rfl) ?_
  refine WL.call ca8 (rfl) rfl (works_spec _) ?_
  rintro _ wk27 ⟨rfl, ek27⟩
  have R36 : Ext wlK wk27 := Mod.trans (R32) (ek27)
  have E37 : Ext w wk27 := Mod.trans (E33) (ek27)
  refine WL.behind (R36) ?_
  refine WA.take (i := 16) (m' := 131071) (v := .bool (true)) rfl rfl rfl rfl (by kernel_rfl) rfl (fun _ _ _ h => h) (fun wx hS => ?_) (R36) ?_
  · have E38 : Ext w wx := Mod.trans (E6) (hS)
    refine WL.pick (b := true) rfl rfl rfl ?_
    exact WL.nil ⟨rfl, rfl, rfl⟩
  refine WA.take (i := 17) (m' := 262143) (v := .bool (true)) rfl rfl rfl rfl (by kernel_rfl) rfl (fun _ _ _ h => h) (fun wx hS => ?_) (R36) ?_
  · have E39 : Ext w wx := Mod.trans (E6) (hS)
    refine WL.assign (v := .bool (true)) rfl rfl ?_
    exact WL.nil ⟨rfl, rfl, rfl⟩
  refine WA.done (by kernel_rfl) ?_
  refine WC.ret ?_
  exact ⟨_, Res.one (v := .bool (true)) rfl rfl, rfl, E37⟩
end Go.Proofs.I
