import Derived.Test.YtljcijdkoncodaaImgBig
import Derived.Test.YtljcijdkoncodaaRows
import Derived.Test.YtljcijdkoncodaaImZ6
set_option linter.unusedSimpArgs false
set_option linter.unusedVariables false
namespace Go.Proofs.I
open Go Go.Ux Go.Ux.Image Go.Proofs
theorem ca16 : callable Try.prog 16 = true := by kernel_rfl

theorem gets_big1 (sb sm : Value) (d m : List UInt8) (atn : Nat) (w : World) (hsb : Sl w sb 1 d.length (bs d)) (hsm : Sl w sm 1 m.length (bs m)) (h1 : 3000 < d.length) : CallsR Try.prog 4 #[sb, .int .u16 (((atn : Nat) : Int)), sm] w (fun v w' => v = .bool true ∧ Ext w w') := by
  refine callsR_of Try.func4 rfl rfl rfl ?_
  refine WC.seq ?_
  refine WC.region ?_
  refine WL.assign (v := .bool (false)) rfl rfl ?_
  refine WL.nil ?_
  refine WC.seq ?_
  refine WC.seq ?_
  refine WC.region ?_
  refine WL.move (v := sb) rfl rfl ?_
  refine WL.lenSl (sz := 1) (m := d.length) (xs := bs d) el28 rfl (hsb) rfl ?_
  refine WL.bin (v := .bool (true)) rfl rfl rfl (BinR.toB (BinR.gtr) (decide_eq_true (by omega))) ?_
  refine WL.move (v := .bool (true)) rfl rfl ?_
  refine WL.guardF (b' := true) (rfl) rfl rfl ?_
  refine WL.guardF (b' := true) (rfl) rfl rfl ?_
  refine WL.guardF (b' := true) (rfl) rfl rfl ?_
  refine WL.pick (b := true) rfl rfl rfl ?_
  refine WL.nil ?_
  refine WC.condT rfl ?_
  refine WC.seq ?_
  refine WC.region ?_
  refine WL.call ca8 (rfl) rfl (works_spec _) ?_
  rintro _ wk27 ⟨rfl, ek27⟩
  have E1 : Ext w wk27 := Mod.trans (Mod.refl _ _) (ek27)
  refine WL.assign (v := .bool (true)) rfl rfl ?_
  refine WL.nil ?_
  refine WC.ret ?_
  exact ⟨_, Res.one (v := .bool (true)) rfl rfl, rfl, E1⟩

theorem gets_big2 (sb sm : Value) (d m : List UInt8) (atn : Nat) (w : World) (hsb : Sl w sb 1 d.length (bs d)) (hsm : Sl w sm 1 m.length (bs m)) (h1 : d.length ≤ 3000) (h2 : 300 < m.length) : CallsR Try.prog 4 #[sb, .int .u16 (((atn : Nat) : Int)), sm] w (fun v w' => v = .bool true ∧ Ext w w') := by
  refine callsR_of Try.func4 rfl rfl rfl ?_
  refine WC.seq ?_
  refine WC.region ?_
  refine WL.assign (v := .bool (false)) rfl rfl ?_
  refine WL.nil ?_
  refine WC.seq ?_
  refine WC.seq ?_
  refine WC.region ?_
  refine WL.move (v := sb) rfl rfl ?_
  refine WL.lenSl (sz := 1) (m := d.length) (xs := bs d) el28 rfl (hsb) rfl ?_
  refine WL.bin (v := .bool (false)) rfl rfl rfl (BinR.toB (BinR.gtr) (decide_eq_false (by omega))) ?_
  refine WL.move (v := .bool (false)) rfl rfl ?_
  refine WL.guardT (rfl) ?_
  refine WL.move (v := sm) rfl rfl ?_
  refine WL.guardT (rfl) ?_
  refine WL.lenSl (sz := 1) (m := m.length) (xs := bs m) el28 rfl (hsm) rfl ?_
  refine WL.guardT (rfl) ?_
  refine WL.bin (v := .bool (true)) rfl rfl rfl (BinR.toB (BinR.gtr) (decide_eq_true (by omega))) ?_
  refine WL.pick (b := false) rfl rfl rfl ?_
  refine WL.nil ?_
  refine WC.condT rfl ?_
  refine WC.seq ?_
  refine WC.region ?_
  refine WL.call ca8 (rfl) rfl (works_spec _) ?_
  rintro _ wk27 ⟨rfl, ek27⟩
  have E1 : Ext w wk27 := Mod.trans (Mod.refl _ _) (ek27)
  refine WL.assign (v := .bool (true)) rfl rfl ?_
  refine WL.nil ?_
  refine WC.ret ?_
  exact ⟨_, Res.one (v := .bool (true)) rfl rfl, rfl, E1⟩

theorem gets_no (sb sm : Value) (d m : List UInt8) (atn : Nat) (w : World) (hsb : Sl w sb 1 d.length (bs d)) (hsm : Sl w sm 1 m.length (bs m)) (h1 : d.length ≤ 3000) (h2 : m.length ≤ 300) (hatn : atn < 65536) (hno : ∀ I, rightB I = true → bytesOf I ≠ d) : CallsR Try.prog 4 #[sb, .int .u16 (((atn : Nat) : Int)), sm] w (fun v w' => v = .bool true ∧ Ext w w') := by
  refine callsR_of Try.func4 rfl rfl rfl ?_
  refine WC.seq ?_
  refine WC.region ?_
  refine WL.assign (v := .bool (false)) rfl rfl ?_
  refine WL.nil ?_
  refine WC.seq ?_
  refine WC.seq ?_
  refine WC.region ?_
  refine WL.move (v := sb) rfl rfl ?_
  refine WL.lenSl (sz := 1) (m := d.length) (xs := bs d) el28 rfl (hsb) rfl ?_
  refine WL.bin (v := .bool (false)) rfl rfl rfl (BinR.toB (BinR.gtr) (decide_eq_false (by omega))) ?_
  refine WL.move (v := .bool (false)) rfl rfl ?_
  refine WL.guardT (rfl) ?_
  refine WL.move (v := sm) rfl rfl ?_
  refine WL.guardT (rfl) ?_
  refine WL.lenSl (sz := 1) (m := m.length) (xs := bs m) el28 rfl (hsm) rfl ?_
  refine WL.guardT (rfl) ?_
  refine WL.bin (v := .bool (false)) rfl rfl rfl (BinR.toB (BinR.gtr) (decide_eq_false (by omega))) ?_
  refine WL.pick (b := false) rfl rfl rfl ?_
  refine WL.nil ?_
  refine WC.condF rfl ?_
  refine WC.skip ?_
  refine WC.seq ?_
  refine WC.region ?_
  refine WL.move (v := sb) rfl rfl ?_
  refine WL.toString (m := d.length) (bl := d) Try.underlying28 Try.underlying5 Try.underlying9 rfl (hsb) rfl ?_
  refine WL.toBytes2 (bl := d) Try.underlying9 Try.underlying28 Try.underlying5 rfl rfl ?_
  intro v30 w30 o30 e30 f30 lt30
  have E1 : Ext w w30 := Mod.trans (Mod.refl _ _) (e30)
  have fw30 : From w.heap.size v30 := fun g hg => Nat.le_trans (Mod.size (Mod.refl (fun _ => False) w)) (f30 g hg)
  refine WL.assign (v := v30) rfl rfl ?_
  refine WL.nil ?_
  refine WC.seq ?_
  refine WC.region ?_
  refine WL.move (v := v30) rfl rfl ?_
  refine WL.call ca13 (rfl) rfl (iget_bad v30 (d) _ ((o30).sl) (lt30) (by omega) (hno)) ?_
  rintro _ wb33 ⟨rfl, eb33⟩
  have E2 : Ext w wb33 := Mod.trans (E1) (eb33)
  refine WL.move (v := .tuple #[.agg #[.int .i64 (0), .slice none 0 0, .slice none 0 0], .int .i64 (110)]) rfl rfl ?_
  refine WL.extract rfl rfl rfl ?_
  refine WL.extract rfl rfl rfl ?_
  refine WL.allocStore (v := .agg #[.int .i64 (0), .slice none 0 0, .slice none 0 0]) zt25 rfl sz25 rfl rfl (ones3 rfl ((Sl.nil w 1 0).ext' (E2)).one ((Sl.nil w 1 0).ext' (E2)).one) rfl ?_
  intro b8 w8 n8
  have E3 : Ext w w8 := Mod.trans (E2) (n8.ext)
  refine WL.assign (v := .int .i64 (110)) rfl rfl ?_
  refine WL.nil ?_
  refine WC.seq ?_
  refine WC.region ?_
  refine WL.move (v := sb) rfl rfl ?_
  refine WL.call ca16 (rfl) rfl (rget_bad sb (d) _ ((hsb).ext' (E3)) (by omega) (hno)) ?_
  rintro _ wb38 ⟨rfl, eb38⟩
  have E4 : Ext w wb38 := Mod.trans (E3) (eb38)
  refine WL.move (v := .tuple #[.agg #[.int .i64 (0), .slice none 0 0, .slice none 0 0], .bool (false)]) rfl rfl ?_
  refine WL.extract rfl rfl rfl ?_
  refine WL.extract rfl rfl rfl ?_
  refine WL.allocStore (v := .agg #[.int .i64 (0), .slice none 0 0, .slice none 0 0]) zt33 rfl sz33 rfl rfl (ones3 rfl ((Sl.nil w 1 0).ext' (E4)).one ((Sl.nil w 1 0).ext' (E4)).one) rfl ?_
  intro b10 w10 n10
  have E5 : Ext w w10 := Mod.trans (E4) (n10.ext)
  refine WL.assign (v := .bool (false)) rfl rfl ?_
  refine WL.nil ?_
  refine WC.seq ?_
  refine WC.seq ?_
  refine WC.region ?_
  refine WL.move (v := .int .i64 (110)) rfl rfl ?_
  refine WL.bin (v := .bool (false)) rfl rfl rfl (BinR.toB (BinR.eql) (rfl)) ?_
  refine WL.move (v := .bool (false)) rfl rfl ?_
  refine WL.bin (v := .bool (false)) rfl rfl rfl (BinR.toB (BinR.neqB Try.underlying4) (rfl)) ?_
  refine WL.move (v := .bool (false)) rfl rfl ?_
  refine WL.guardT (rfl) ?_
  refine WL.move (v := .bool (false)) rfl rfl ?_
  refine WL.guardT (rfl) ?_
  refine WL.un rfl rfl UnR.not ?_
  refine WL.guardT (rfl) ?_
  refine WL.move (v := .bool (true)) rfl rfl ?_
  refine WL.guardT (rfl) ?_
  refine WL.move (v := .int .i64 (110)) rfl rfl ?_
  refine WL.guardT (rfl) ?_
  refine WL.bin (v := .bool (false)) rfl rfl rfl (BinR.toB (BinR.neq) (rfl)) ?_
  refine WL.guardT (rfl) ?_
  refine WL.pick (b := true) rfl rfl rfl ?_
  refine WL.pick (b := false) rfl rfl rfl ?_
  refine WL.move (v := .bool (false)) rfl rfl ?_
  refine WL.guardT (rfl) ?_
  refine WL.move (v := v30) rfl rfl ?_
  refine WL.guardT (rfl) ?_
  have O6 := ((((o30).ext (eb33)).ext (n8.ext)).ext (eb38)).ext (n10.ext)
  refine WL.toString (m := d.length) (bl := d) Try.underlying28 Try.underlying5 Try.underlying9 rfl ((O6).sl) rfl ?_
  refine WL.guardT (rfl) ?_
  refine WL.move (v := sb) rfl rfl ?_
  refine WL.guardT (rfl) ?_
  refine WL.toString (m := d.length) (bl := d) Try.underlying28 Try.underlying5 Try.underlying9 rfl ((hsb).ext' (E5)) rfl ?_
  refine WL.guardT (rfl) ?_
  refine WL.bin (v := .bool (false)) rfl rfl rfl (BinR.toB (BinR.neqS) (by simp)) ?_
  refine WL.pick (b := false) rfl rfl rfl ?_
  refine WL.nil ?_
  refine WC.condF rfl ?_
  refine WC.skip ?_
  refine WC.seq ?_
  refine WC.seq ?_
  refine WC.region ?_
  refine WL.move (v := .bool (false)) rfl rfl ?_
  refine WL.un rfl rfl UnR.not ?_
  refine WL.nil ?_
  refine WC.condT rfl ?_
  refine WC.seq ?_
  refine WC.region ?_
  refine WL.fieldAddr rfl fo25_1 rfl ?_
  have B7 := ((n8.blk).ext (eb38)).ext (n10.ext)
  refine WL.load1 rfl ag22 (B7.cell (j := 1) rfl) rfl ?_
  refine WL.lenSl (sz := 1) (m := 0) (xs := bs []) el22 rfl ((Sl.nil w 1 0).ext' (E5)) rfl ?_
  refine WL.bin (v := .bool (true)) rfl rfl rfl (BinR.toB (BinR.eql) (rfl)) ?_
  refine WL.move (v := .bool (true)) rfl rfl ?_
  refine WL.guardT (rfl) ?_
  refine WL.fieldAddr rfl fo25_2 rfl ?_
  refine WL.guardT (rfl) ?_
  refine WL.load1 rfl ag23 (B7.cell (j := 2) rfl) rfl ?_
  refine WL.guardT (rfl) ?_
  refine WL.lenSl (sz := 1) (m := 0) (xs := bs []) el23 rfl ((Sl.nil w 1 0).ext' (E5)) rfl ?_
  refine WL.guardT (rfl) ?_
  refine WL.bin (v := .bool (true)) rfl rfl rfl (BinR.toB (BinR.eql) (rfl)) ?_
  refine WL.pick (b := true) rfl rfl rfl ?_
  refine WL.move (v := .bool (true)) rfl rfl ?_
  refine WL.guardT (rfl) ?_
  refine WL.fieldAddr rfl fo25_0 rfl ?_
  refine WL.guardT (rfl) ?_
  refine WL.load1 rfl ag3 (B7.cell (j := 0) rfl) rfl ?_
  refine WL.guardT (rfl) ?_
  refine WL.bin (v := .bool (true)) rfl rfl rfl (BinR.toB (BinR.eql) (rfl)) ?_
  refine WL.pick (b := true) rfl rfl rfl ?_
  refine WL.move (v := .bool (true)) rfl rfl ?_
  refine WL.guardT (rfl) ?_
  refine WL.call ca8 (rfl) rfl (works_spec _) ?_
  rintro _ wk78 ⟨rfl, ek78⟩
  have E8 : Ext w wk78 := Mod.trans (E5) (ek78)
  refine WL.pick (b := true) rfl rfl rfl ?_
  refine WL.assign (v := .bool (true)) rfl rfl ?_
  refine WL.nil ?_
  refine WC.ret ?_
  exact ⟨_, Res.one (v := .bool (true)) rfl rfl, rfl, E8⟩

theorem gets_ok (sb sm : Value) (d m : List UInt8) (atn : Nat) (w : World) (hsb : Sl w sb 1 d.length (bs d)) (hsm : Sl w sm 1 m.length (bs m)) (h1 : d.length ≤ 3000) (h2 : m.length ≤ 300) (hatn : atn < 65536) (I : Img) (hr : rightB I = true) (hdI : d = bytesOf I) : CallsR Try.prog 4 #[sb, .int .u16 (((atn : Nat) : Int)), sm] w (fun v w' => v = .bool true ∧ Ext w w') := by
  obtain ⟨gb1, gb2, gb3, gb4, gb5, gb6, gb7, gb8⟩ := right_bounds hr
  have hNI : ∀ s ∈ I.syms, s.1.length ≤ 1000000000 ∧ s.2 ≤ 9223372036854775807 := fun s hs => by have := gb3 s hs; have := gb8 s hs; omega
  have hz1 := (bytesOf_le hr).1
  have hz0 : 14 ≤ d.length := by rw [hdI]; exact hz1
  obtain ⟨kk, hkk, hk⟩ : ∃ kk, kk = atn % d.length ∧ kk < d.length := ⟨_, rfl, Nat.mod_lt _ (by omega)⟩
  refine callsR_of Try.func4 rfl rfl rfl ?_
  refine WC.seq ?_
  refine WC.region ?_
  refine WL.assign (v := .bool (false)) rfl rfl ?_
  refine WL.nil ?_
  refine WC.seq ?_
  refine WC.seq ?_
  refine WC.region ?_
  refine WL.move (v := sb) rfl rfl ?_
  refine WL.lenSl (sz := 1) (m := d.length) (xs := bs d) el28 rfl (hsb) rfl ?_
  refine WL.bin (v := .bool (false)) rfl rfl rfl (BinR.toB (BinR.gtr) (decide_eq_false (by omega))) ?_
  refine WL.move (v := .bool (false)) rfl rfl ?_
  refine WL.guardT (rfl) ?_
  refine WL.move (v := sm) rfl rfl ?_
  refine WL.guardT (rfl) ?_
  refine WL.lenSl (sz := 1) (m := m.length) (xs := bs m) el28 rfl (hsm) rfl ?_
  refine WL.guardT (rfl) ?_
  refine WL.bin (v := .bool (false)) rfl rfl rfl (BinR.toB (BinR.gtr) (decide_eq_false (by omega))) ?_
  refine WL.pick (b := false) rfl rfl rfl ?_
  refine WL.nil ?_
  refine WC.condF rfl ?_
  refine WC.skip ?_
  refine WC.seq ?_
  refine WC.region ?_
  refine WL.move (v := sb) rfl rfl ?_
  refine WL.toString (m := d.length) (bl := d) Try.underlying28 Try.underlying5 Try.underlying9 rfl (hsb) rfl ?_
  refine WL.toBytes2 (bl := d) Try.underlying9 Try.underlying28 Try.underlying5 rfl rfl ?_
  intro v30 w30 o30 e30 f30 lt30
  have E1 : Ext w w30 := Mod.trans (Mod.refl _ _) (e30)
  have fw30 : From w.heap.size v30 := fun g hg => Nat.le_trans (Mod.size (Mod.refl (fun _ => False) w)) (f30 g hg)
  refine WL.assign (v := v30) rfl rfl ?_
  refine WL.nil ?_
  refine WC.seq ?_
  refine WC.region ?_
  refine WL.move (v := v30) rfl rfl ?_
  refine WL.call ca13 (rfl) rfl (iget_ok v30 d _ (o30).sl lt30 (by omega) I hr hdI) ?_
  rintro _ w33 ⟨gu, gx, rfl, su33, ox33, fu33, fx33, hne33, e33⟩
  have E2 : Ext w w33 := Mod.trans (E1) (e33)
  refine WL.move (v := .tuple #[.agg #[.int .i64 I.entry, gu, gx], .int .i64 0]) rfl rfl ?_
  refine WL.extract rfl rfl rfl ?_
  refine WL.extract rfl rfl rfl ?_
  refine WL.allocStore (v := .agg #[.int .i64 (I.entry), gu, gx]) zt25 rfl sz25 rfl rfl (ones3 rfl (su33).one (ox33.sl).one) rfl ?_
  intro b8 w8 n8
  have E3 : Ext w w8 := Mod.trans (E2) (n8.ext)
  refine WL.assign (v := .int .i64 (0)) rfl rfl ?_
  refine WL.nil ?_
  refine WC.seq ?_
  refine WC.region ?_
  refine WL.move (v := sb) rfl rfl ?_
  refine WL.call ca16 (rfl) rfl (rget_ok sb d _ ((hsb).ext' (E3)) (by omega) I hr hdI) ?_
  rintro _ w38 ⟨ru, rx, rfl, hR38, e38⟩
  have E4 : Ext w w38 := Mod.trans (E3) (e38)
  refine WL.move (v := .tuple #[.agg #[.int .i64 I.entry, ru, rx], .bool true]) rfl rfl ?_
  refine WL.extract rfl rfl rfl ?_
  refine WL.extract rfl rfl rfl ?_
  refine WL.allocStore (v := .agg #[.int .i64 (I.entry), ru, rx]) zt33 rfl sz33 rfl rfl (ones3 rfl (hR38.s).one (hR38.w).one) rfl ?_
  intro b10 w10 n10
  have E5 : Ext w w10 := Mod.trans (E4) (n10.ext)
  refine WL.assign (v := .bool (true)) rfl rfl ?_
  refine WL.nil ?_
  refine WC.seq ?_
  refine WC.seq ?_
  refine WC.region ?_
  refine WL.move (v := .int .i64 (0)) rfl rfl ?_
  refine WL.bin (v := .bool (true)) rfl rfl rfl (BinR.toB (BinR.eql) (rfl)) ?_
  refine WL.move (v := .bool (true)) rfl rfl ?_
  refine WL.bin (v := .bool (false)) rfl rfl rfl (BinR.toB (BinR.neqB Try.underlying4) (rfl)) ?_
  refine WL.move (v := .bool (false)) rfl rfl ?_
  refine WL.guardT (rfl) ?_
  refine WL.move (v := .bool (true)) rfl rfl ?_
  refine WL.guardT (rfl) ?_
  refine WL.un rfl rfl UnR.not ?_
  refine WL.guardT (rfl) ?_
  refine WL.move (v := .bool (false)) rfl rfl ?_
  refine WL.guardF (b' := false) (rfl) rfl rfl ?_
  refine WL.guardF (b' := false) (rfl) rfl rfl ?_
  refine WL.guardT (rfl) ?_
  refine WL.pick (b := false) rfl rfl rfl ?_
  refine WL.pick (b := false) rfl rfl rfl ?_
  refine WL.move (v := .bool (false)) rfl rfl ?_
  refine WL.guardT (rfl) ?_
  refine WL.move (v := v30) rfl rfl ?_
  refine WL.guardT (rfl) ?_
  have O6 := ((((o30).ext (e33)).ext (n8.ext)).ext (e38)).ext (n10.ext)
  refine WL.toString (m := d.length) (bl := d) Try.underlying28 Try.underlying5 Try.underlying9 rfl ((O6).sl) rfl ?_
  refine WL.guardT (rfl) ?_
  refine WL.move (v := sb) rfl rfl ?_
  refine WL.guardT (rfl) ?_
  refine WL.toString (m := d.length) (bl := d) Try.underlying28 Try.underlying5 Try.underlying9 rfl ((hsb).ext' (E5)) rfl ?_
  refine WL.guardT (rfl) ?_
  refine WL.bin (v := .bool (false)) rfl rfl rfl (BinR.toB (BinR.neqS) (by simp)) ?_
  refine WL.pick (b := false) rfl rfl rfl ?_
  refine WL.nil ?_
  refine WC.condF rfl ?_
  refine WC.skip ?_
  refine WC.seq ?_
  refine WC.seq ?_
  refine WC.region ?_
  refine WL.move (v := .bool (true)) rfl rfl ?_
  refine WL.un rfl rfl UnR.not ?_
  refine WL.nil ?_
  refine WC.condF rfl ?_
  refine WC.skip ?_
  refine WC.seq ?_
  refine WC.region ?_
  have B7 := ((n8.blk).ext (e38)).ext (n10.ext)
  refine WL.loadS [.int .i64 (I.entry), gu, gx] rfl ag25 sz25 rfl (B7.sub (o := 0) (vs := [.int .i64 (I.entry), gu, gx]) rfl) rfl ?_
  have S8 := (((su33).ext' (n8.ext)).ext' (e38)).ext' (n10.ext)
  have S9 := (((ox33.sl).ext' (n8.ext)).ext' (e38)).ext' (n10.ext)
  refine WL.call ca11 (rfl) rfl (put_ok gu gx I _ ⟨S8, S9, by omega, by omega⟩ hNI hr) ?_
  rintro _ wq82 ⟨u82, rfl, oq82, fq82, eq82⟩
  have E10 : Ext w wq82 := Mod.trans (E5) (eq82)
  refine WL.move (v := .tuple #[u82, .int .i64 0]) rfl rfl ?_
  refine WL.extract rfl rfl rfl ?_
  refine WL.extract rfl rfl rfl ?_
  refine WL.assign (v := u82) rfl rfl ?_
  refine WL.assign (v := .int .i64 (0)) rfl rfl ?_
  refine WL.nil ?_
  refine WC.seq ?_
  refine WC.seq ?_
  refine WC.draw (fun w_ => Ext wq82 w_) 16 rfl mixed ?_
  intro wd_11 ed_11
  have R11 : Ext wq82 wd_11 := Mod.trans (Mod.refl _ _) (ed_11)
  have E12 : Ext w wd_11 := Mod.trans (E10) (ed_11)
  refine WA.take (i := 0) (m' := 1) (v := .agg #[.int .i64 (I.entry), gu, gx]) rfl rfl rfl rfl (by kernel_rfl) rfl (fun _ _ _ h => h) (fun wx hS => ?_) (R11) ?_
  · have E13 : Ext w wx := Mod.trans (E10) (hS)
    have B14 := ((B7).ext (eq82)).ext (hS)
    refine WL.loadS [.int .i64 (I.entry), gu, gx] rfl ag25 sz25 rfl (B14.sub (o := 0) (vs := [.int .i64 (I.entry), gu, gx]) rfl) rfl ?_
    exact WL.nil ⟨rfl, rfl, rfl⟩
  refine WA.take (i := 2) (m' := 5) (v := .agg #[.int .i64 (I.entry), ru, rx]) rfl rfl rfl rfl (by kernel_rfl) rfl (fun _ _ _ h => h) (fun wx hS => ?_) (R11) ?_
  · have E15 : Ext w wx := Mod.trans (E10) (hS)
    have B16 := ((n10.blk).ext (eq82)).ext (hS)
    refine WL.loadS [.int .i64 (I.entry), ru, rx] rfl ag33 sz33 rfl (B16.sub (o := 0) (vs := [.int .i64 (I.entry), ru, rx]) rfl) rfl ?_
    exact WL.nil ⟨rfl, rfl, rfl⟩
  refine WA.one (i := 1) (m' := 7) (by kernel_rfl) rfl rfl ?_
  have S17 := ((S8).ext' (eq82)).ext' (ed_11)
  have S18 := ((S9).ext' (eq82)).ext' (ed_11)
  refine WL.call ca10 (rfl) rfl (plain_spec gu gx I _ ⟨S17, S18, by omega, by omega⟩) ?_
  rintro _ wp86 ⟨u86, rfl, op86, fp86, ep86⟩
  have R19 : Ext wq82 wp86 := Mod.trans (R11) (ep86)
  have E20 : Ext w wp86 := Mod.trans (E12) (ep86)
  refine WL.behind (R19) ?_
  refine WA.one (i := 3) (m' := 15) (by kernel_rfl) rfl rfl ?_
  have S21 := (S18).ext' (ep86)
  have S22 := ((((hR38.s).ext' (n10.ext)).ext' (eq82)).ext' (ed_11)).ext' (ep86)
  have S23 := ((((hR38.w).ext' (n10.ext)).ext' (eq82)).ext' (ed_11)).ext' (ep86)
  refine WL.call ca15 (rfl) rfl (rsame_spec u86 gx ru rx I I _ ⟨op86.sl, S21, by omega, by omega⟩ ⟨S22, S23, by omega, by omega⟩) ?_
  rintro _ ws88 ⟨rfl, es88⟩
  rw [beq_self_eq_true]
  have R24 : Ext wq82 ws88 := Mod.trans (R19) (es88)
  have E25 : Ext w ws88 := Mod.trans (E20) (es88)
  refine WL.behind (R24) ?_
  refine WA.take (i := 4) (m' := 31) (v := .bool (false)) rfl rfl rfl rfl (by kernel_rfl) rfl (fun _ _ _ h => h) (fun wx hS => ?_) (R24) ?_
  · have E26 : Ext w wx := Mod.trans (E10) (hS)
    refine WL.un rfl rfl UnR.not ?_
    exact WL.nil ⟨rfl, rfl, rfl⟩
  refine WA.take (i := 5) (m' := 63) (v := .bool (false)) rfl rfl rfl rfl (by kernel_rfl) rfl (fun _ _ _ h => h) (fun wx hS => ?_) (R24) ?_
  · have E27 : Ext w wx := Mod.trans (E10) (hS)
    refine WL.move (v := .bool (false)) rfl rfl ?_
    exact WL.nil ⟨rfl, rfl, rfl⟩
  refine WA.take (i := 6) (m' := 127) (v := .int .i64 (0)) rfl rfl rfl rfl (by kernel_rfl) rfl (fun _ _ _ h => h) (fun wx hS => ?_) (R24) ?_
  · have E28 : Ext w wx := Mod.trans (E10) (hS)
    refine WL.guardT (rfl) ?_
    refine WL.move (v := .int .i64 (0)) rfl rfl ?_
    exact WL.nil ⟨rfl, rfl, rfl⟩
  refine WA.take (i := 7) (m' := 255) (v := .bool (false)) rfl rfl rfl rfl (by kernel_rfl) rfl (fun _ _ _ h => h) (fun wx hS => ?_) (R24) ?_
  · have E29 : Ext w wx := Mod.trans (E10) (hS)
    refine WL.guardT (rfl) ?_
    refine WL.bin (v := .bool (false)) rfl rfl rfl (BinR.toB (BinR.neq) (rfl)) ?_
    exact WL.nil ⟨rfl, rfl, rfl⟩
  refine WA.take (i := 8) (m' := 511) (v := .bool (false)) rfl rfl rfl rfl (by kernel_rfl) rfl (fun _ _ _ h => h) (fun wx hS => ?_) (R24) ?_
  · have E30 : Ext w wx := Mod.trans (E10) (hS)
    refine WL.pick (b := false) rfl rfl rfl ?_
    exact WL.nil ⟨rfl, rfl, rfl⟩
  refine WA.take (i := 9) (m' := 1023) (v := .bool (false)) rfl rfl rfl rfl (by kernel_rfl) rfl (fun _ _ _ h => h) (fun wx hS => ?_) (R24) ?_
  · have E31 : Ext w wx := Mod.trans (E10) (hS)
    refine WL.move (v := .bool (false)) rfl rfl ?_
    exact WL.nil ⟨rfl, rfl, rfl⟩
  refine WA.take (i := 10) (m' := 2047) (v := u82) rfl rfl rfl rfl (by kernel_rfl) rfl (fun _ _ _ h => h) (fun wx hS => ?_) (R24) ?_
  · have E32 : Ext w wx := Mod.trans (E10) (hS)
    refine WL.guardT (rfl) ?_
    refine WL.move (v := u82) rfl rfl ?_
    exact WL.nil ⟨rfl, rfl, rfl⟩
  refine WA.take (i := 11) (m' := 4095) (v := St ((bytesOf I))) rfl rfl rfl rfl (by kernel_rfl) rfl (fun _ _ _ h => h) (fun wx hS => ?_) (R24) ?_
  · have E33 : Ext w wx := Mod.trans (E10) (hS)
    refine WL.guardT (rfl) ?_
    have O34 := (oq82).ext (hS)
    refine WL.toString (m := (bytesOf I).length) (bl := (bytesOf I)) Try.underlying28 Try.underlying5 Try.underlying9 rfl ((O34).sl) rfl ?_
    exact WL.nil ⟨rfl, rfl, rfl⟩
  refine WA.take (i := 12) (m' := 8191) (v := sb) rfl rfl rfl rfl (by kernel_rfl) rfl (fun _ _ _ h => h) (fun wx hS => ?_) (R24) ?_
  · have E35 : Ext w wx := Mod.trans (E10) (hS)
    refine WL.guardT (rfl) ?_
    refine WL.move (v := sb) rfl rfl ?_
    exact WL.nil ⟨rfl, rfl, rfl⟩
  refine WA.take (i := 13) (m' := 16383) (v := St (d)) rfl rfl rfl rfl (by kernel_rfl) rfl (fun _ _ _ h => h) (fun wx hS => ?_) (R24) ?_
  · have E36 : Ext w wx := Mod.trans (E10) (hS)
    refine WL.guardT (rfl) ?_
    refine WL.toString (m := d.length) (bl := d) Try.underlying28 Try.underlying5 Try.underlying9 rfl ((hsb).ext' (E36)) rfl ?_
    exact WL.nil ⟨rfl, rfl, rfl⟩
  refine WA.take (i := 14) (m' := 32767) (v := .bool (false)) rfl rfl rfl rfl (by kernel_rfl) rfl (fun _ _ _ h => h) (fun wx hS => ?_) (R24) ?_
  · have E37 : Ext w wx := Mod.trans (E10) (hS)
    refine WL.guardT (rfl) ?_
    refine WL.bin (v := .bool (false)) rfl rfl rfl (BinR.toB (BinR.neqS) (by rw [hdI]; simp)) ?_
    exact WL.nil ⟨rfl, rfl, rfl⟩
  refine WA.take (i := 15) (m' := 65535) (v := .bool (false)) rfl rfl rfl rfl (by kernel_rfl) rfl (fun _ _ _ h => h) (fun wx hS => ?_) (R24) ?_
  · have E38 : Ext w wx := Mod.trans (E10) (hS)
    refine WL.pick (b := false) rfl rfl rfl ?_
    exact WL.nil ⟨rfl, rfl, rfl⟩
  refine WA.done (by kernel_rfl) ?_
  refine WC.condF rfl ?_
  refine WC.skip ?_
  refine WC.seq ?_
  refine WC.seq ?_
  refine WC.region ?_
  refine WL.move (v := sm) rfl rfl ?_
  refine WL.lenSl (sz := 1) (m := m.length) (xs := bs m) el28 rfl ((hsm).ext' (E25)) rfl ?_
  refine WL.bin rfl rfl rfl (BinR.gtr) ?_
  refine WL.nil ?_
  refine WC.cond rfl (fun hc103 => ?_) (fun hc103 => ?_)
  · have hm : 0 < m.length := by have := of_decide_eq_true hc103; omega
    refine WC.seq ?_
    refine WC.region ?_
    refine WL.move (v := v30) rfl rfl ?_
    refine WL.move (v := sm) rfl rfl ?_
    have O39 := ((((O6).ext (eq82)).ext (ed_11)).ext (ep86)).ext (es88)
    refine WL.append (k := d.length) (m := m.length) (xs := bs d) (news := bs m) ap28 rfl rfl rfl (O39) (((hsm).ext' (E25)).src Try.underlying28 (bs_one _)) (by omega) (by omega) rfl ?_
    intro v107 w107 o107 m107 l107
    have o107b : Own w107 1 v107 ((d ++ m).length) (bs (d ++ m)) := by rw [← bs_append, ← List.length_append] at o107; exact o107
    have F40 : From w.heap.size v107 := LocV.from l107 (Mod.size (E25)) (fw30)
    have E41 : Ext w w107 := Mod.from (E25) m107 (fw30)
    refine WL.call ca13 (rfl) rfl (iget_bad v107 (d ++ m) _ ((o107b).sl) ((fun g hg => (o107b).lt (by rw [List.length_append]; omega) (by decide) hg)) (by rw [List.length_append]; omega) (by rw [hdI]; exact bytes_more hr hm)) ?_
    rintro _ wb108 ⟨rfl, eb108⟩
    have E42 : Ext w wb108 := Mod.trans (E41) (eb108)
    refine WL.move (v := .tuple #[.agg #[.int .i64 (0), .slice none 0 0, .slice none 0 0], .int .i64 (110)]) rfl rfl ?_
    refine WL.extract rfl rfl rfl ?_
    refine WL.extract rfl rfl rfl ?_
    refine WL.allocStore (v := .agg #[.int .i64 (0), .slice none 0 0, .slice none 0 0]) zt25 rfl sz25 rfl rfl rfl rfl ?_
    intro b14 w14 n14
    have E43 : Ext w w14 := Mod.trans (E42) (n14.ext)
    refine WL.assign (v := .int .i64 (110)) rfl rfl ?_
    refine WL.nil ?_
    refine WC.seq ?_
    refine WC.region ?_
    refine WL.move (v := .int .i64 (110)) rfl rfl ?_
    refine WL.bin (v := .bool (false)) rfl rfl rfl (BinR.toB (BinR.neq) (rfl)) ?_
    refine WL.nil ?_
    refine WC.condF rfl ?_
    refine WC.skip ?_
    refine WC.seq ?_
    refine WC.region ?_
    refine WL.move (v := .int .u16 (((atn : Nat) : Int))) rfl rfl ?_
    refine WL.conv (v := IN (atn)) rfl rfl (ConvR.toI Try.underlying43 Try.underlying3 (by omega)) ?_
    refine WL.move (v := sb) rfl rfl ?_
    refine WL.lenSl (sz := 1) (m := d.length) (xs := bs d) el28 rfl ((hsb).ext' (E43)) rfl ?_
    refine WL.bin (v := IN kk) rfl rfl rfl (by rw [hkk]; exact BinR.remN (by omega)) ?_
    refine WL.assign (v := IN (kk)) rfl rfl ?_
    refine WL.nil ?_
    refine WC.seq ?_
    refine WC.region ?_
    refine WL.move (v := sb) rfl rfl ?_
    refine WL.move (v := IN (kk)) rfl rfl ?_
    refine WL.sliceToSl (sz := 1) (m := d.length) (xs := bs d) (j := kk) el28 sz5 rfl rfl (by omega) ((hsb).ext' (E43)) rfl ?_
    intro v121 hv121 hbv121
    have hv121b : Sl w14 v121 1 ((d.take kk).length) (bs (d.take kk)) := by rw [Nat.mul_one] at hv121; have e1 : (bs d).take kk = bs (d.take kk) := (by unfold bs; rw [List.map_take]); have e2 : (d.take kk).length = kk := (by rw [List.length_take]; omega); rw [e2, ← e1]; exact hv121
    refine WL.call ca13 (rfl) rfl (iget_bad v121 (d.take kk) _ (hv121b) ((fun g hg => Nat.lt_of_lt_of_le (hsb.lt (by omega) (by decide) (hbv121.symm.trans hg)) (Mod.size (E43)))) (by rw [List.length_take]; omega) (by have hk2 := hk; rw [hdI] at hk2 ⊢; exact bytes_less hr hk2)) ?_
    rintro _ wb122 ⟨rfl, eb122⟩
    have E44 : Ext w wb122 := Mod.trans (E43) (eb122)
    refine WL.move (v := .tuple #[.agg #[.int .i64 (0), .slice none 0 0, .slice none 0 0], .int .i64 (110)]) rfl rfl ?_
    refine WL.extract rfl rfl rfl ?_
    refine WL.extract rfl rfl rfl ?_
    refine WL.allocStore (v := .agg #[.int .i64 (0), .slice none 0 0, .slice none 0 0]) zt25 rfl sz25 rfl rfl rfl rfl ?_
    intro b17 w17 n17
    have E45 : Ext w w17 := Mod.trans (E44) (n17.ext)
    refine WL.assign (v := .int .i64 (110)) rfl rfl ?_
    refine WL.nil ?_
    refine WC.seq ?_
    refine WC.region ?_
    refine WL.move (v := .int .i64 (110)) rfl rfl ?_
    refine WL.bin (v := .bool (true)) rfl rfl rfl (BinR.toB (BinR.eql) (rfl)) ?_
    refine WL.move (v := .bool (true)) rfl rfl ?_
    refine WL.guardT (rfl) ?_
    refine WL.call ca8 (rfl) rfl (works_spec _) ?_
    rintro _ wk128 ⟨rfl, ek128⟩
    have E46 : Ext w wk128 := Mod.trans (E45) (ek128)
    refine WL.pick (b := true) rfl rfl rfl ?_
    refine WL.assign (v := .bool (true)) rfl rfl ?_
    refine WL.nil ?_
    refine WC.ret ?_
    exact ⟨_, Res.one (v := .bool (true)) rfl rfl, rfl, E46⟩
  · refine WC.skip ?_
    refine WC.seq ?_
    refine WC.region ?_
    refine WL.move (v := .int .u16 (((atn : Nat) : Int))) rfl rfl ?_
    refine WL.conv (v := IN (atn)) rfl rfl (ConvR.toI Try.underlying43 Try.underlying3 (by omega)) ?_
    refine WL.move (v := sb) rfl rfl ?_
    refine WL.lenSl (sz := 1) (m := d.length) (xs := bs d) el28 rfl ((hsb).ext' (E25)) rfl ?_
    refine WL.bin (v := IN kk) rfl rfl rfl (by rw [hkk]; exact BinR.remN (by omega)) ?_
    refine WL.assign (v := IN (kk)) rfl rfl ?_
    refine WL.nil ?_
    refine WC.seq ?_
    refine WC.region ?_
    refine WL.move (v := sb) rfl rfl ?_
    refine WL.move (v := IN (kk)) rfl rfl ?_
    refine WL.sliceToSl (sz := 1) (m := d.length) (xs := bs d) (j := kk) el28 sz5 rfl rfl (by omega) ((hsb).ext' (E25)) rfl ?_
    intro v121 hv121 hbv121
    have hv121b : Sl ws88 v121 1 ((d.take kk).length) (bs (d.take kk)) := by rw [Nat.mul_one] at hv121; have e1 : (bs d).take kk = bs (d.take kk) := (by unfold bs; rw [List.map_take]); have e2 : (d.take kk).length = kk := (by rw [List.length_take]; omega); rw [e2, ← e1]; exact hv121
    refine WL.call ca13 (rfl) rfl (iget_bad v121 (d.take kk) _ (hv121b) ((fun g hg => Nat.lt_of_lt_of_le (hsb.lt (by omega) (by decide) (hbv121.symm.trans hg)) (Mod.size (E25)))) (by rw [List.length_take]; omega) (by have hk2 := hk; rw [hdI] at hk2 ⊢; exact bytes_less hr hk2)) ?_
    rintro _ wb122 ⟨rfl, eb122⟩
    have E47 : Ext w wb122 := Mod.trans (E25) (eb122)
    refine WL.move (v := .tuple #[.agg #[.int .i64 (0), .slice none 0 0, .slice none 0 0], .int .i64 (110)]) rfl rfl ?_
    refine WL.extract rfl rfl rfl ?_
    refine WL.extract rfl rfl rfl ?_
    refine WL.allocStore (v := .agg #[.int .i64 (0), .slice none 0 0, .slice none 0 0]) zt25 rfl sz25 rfl rfl rfl rfl ?_
    intro b17 w17 n17
    have E48 : Ext w w17 := Mod.trans (E47) (n17.ext)
    refine WL.assign (v := .int .i64 (110)) rfl rfl ?_
    refine WL.nil ?_
    refine WC.seq ?_
    refine WC.region ?_
    refine WL.move (v := .int .i64 (110)) rfl rfl ?_
    refine WL.bin (v := .bool (true)) rfl rfl rfl (BinR.toB (BinR.eql) (rfl)) ?_
    refine WL.move (v := .bool (true)) rfl rfl ?_
    refine WL.guardT (rfl) ?_
    refine WL.call ca8 (rfl) rfl (works_spec _) ?_
    rintro _ wk128 ⟨rfl, ek128⟩
    have E49 : Ext w wk128 := Mod.trans (E48) (ek128)
    refine WL.pick (b := true) rfl rfl rfl ?_
    refine WL.assign (v := .bool (true)) rfl rfl ?_
    refine WL.nil ?_
    refine WC.ret ?_
    exact ⟨_, Res.one (v := .bool (true)) rfl rfl, rfl, E49⟩
end Go.Proofs.I
