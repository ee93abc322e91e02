/- Steps of the proof, packed by program: McL3 McL4. -/
import Derived.Test.YtlabgjcjccdjfaaGreatDoorRows
import Derived.Test.YtlabgjcjccdjfaaGreatDoorMpackQ03
import Derived.Test.YtlabgjcjccdjfaaGreatDoorMpackQ13
set_option linter.unusedVariables false
set_option linter.unusedSimpArgs false
set_option linter.unnecessarySimpa false
section
set_option linter.unusedSimpArgs false
set_option linter.unusedVariables false
namespace Go.Proofs.S
open Go Go.Ux Go.Ux.Mach Go.Proofs
theorem ca12 : callable Tryz.prog 12 = true := by kernel_rfl
theorem fo38_0 : fieldOff Tryz.prog 38 0 = some 0 := by kernel_rfl
theorem ag36 : isAggT Tryz.prog 36 = some false := by kernel_rfl
open Go.Proofs.M (instV Glob)
open Go.Ux.Image
set_option maxRecDepth 100000 in
theorem input_big1 (I : Img) (sv wv iv0 : Value) (inp : List (BitVec 64)) (iv1 : Value) (more : List (BitVec 64)) (p : BitVec 8) (w : World) (hG : Glob w) (hX : w.cell? ⟨3, 0, none⟩ = some (.iface 206 (.agg #[.pointer (some ⟨6, 83, none⟩)]))) (hs : Sl w sv 2 I.syms.length (symCells I.syms)) (hw : Sl w wv 1 I.words.length (wordCells I.words)) (hN : ∀ s ∈ I.syms, True ∧ s.2 ≤ 9223372036854775807) (hI : Sl w iv0 1 inp.length (inp.map I64)) (hIf : iv0 = .slice none 0 0 ∨ ∃ a c, iv0 = .slice (some a) inp.length c) (hI2 : Sl w iv1 1 more.length (more.map I64)) (d0 : 300 < I.words.length) : CallsR Tryz.prog 3 #[.agg #[.int .i64 (I.entry), sv, wv], iv0, iv1, U8 (p)] w (fun v w' => v = .bool true ∧ Ext w w') := by
  refine callsR_of Tryz.func3 rfl rfl rfl ?_
  refine WC.seq (WC.region (WL.box (v := .agg #[.int .i64 (I.entry), sv, wv]) rfl rfl ?_))
  intro b4 w4 n4
  have E1 : Ext w w4 := Mod.trans (Mod.refl _ _) (n4.ext)
  refine WL.assign (v := .bool (false)) rfl rfl (WL.nil (WC.seq (WC.seq (WC.region (WL.fieldAddr rfl fo25_2 rfl (WL.load1 rfl ag23 (n4.blk.cell (j := 2) rfl) rfl (WL.lenSl (sz := 1) (m := I.words.length) (xs := wordCells I.words) el23 rfl ((hw).ext' (E1)) rfl (WL.bin (v := .bool (true)) rfl rfl rfl (BinR.toB (BinR.gtr) (decide_eq_true (by omega))) (WL.move (v := .bool (true)) rfl rfl ?_)))))))))
  refine WL.guardF (b' := true) (rfl) rfl rfl (WL.guardF (b' := true) (rfl) rfl rfl (WL.guardF (b' := true) (rfl) rfl rfl (WL.guardF (b' := true) (rfl) rfl rfl (WL.pick (b := true) rfl rfl rfl (WL.move (v := .bool (true)) rfl rfl (WL.guardF (b' := true) (rfl) rfl rfl (WL.guardF (b' := true) (rfl) rfl rfl (WL.guardF (b' := true) (rfl) rfl rfl (WL.pick (b := true) rfl rfl rfl ?_)))))))))
  refine WL.move (v := .bool (true)) rfl rfl (WL.guardF (b' := true) (rfl) rfl rfl (WL.guardF (b' := true) (rfl) rfl rfl (WL.guardF (b' := true) (rfl) rfl rfl (WL.pick (b := true) rfl rfl rfl (WL.move (v := .bool (true)) rfl rfl (WL.guardF (b' := true) (rfl) rfl rfl (WL.guardF (b' := true) (rfl) rfl rfl (WL.guardF (b' := true) (rfl) rfl rfl (WL.pick (b := true) rfl rfl rfl ?_)))))))))
  refine WL.nil (WC.condT rfl (WC.seq (WC.region (WL.call ca9 (rfl) rfl (works_spec _ (hG.ext (E1)) (Mod.cell (E1) hX (fun h => h))) ?_))))
  rintro _ wk48 ⟨rfl, ek48⟩
  have E2 : Ext w wk48 := Mod.trans (E1) (ek48)
  refine WL.assign (v := .bool (true)) rfl rfl (WL.nil (WC.ret ?_))
  exact ⟨_, Res.one (v := .bool (true)) rfl rfl, rfl, E2⟩
set_option maxRecDepth 100000 in
theorem input_big2 (I : Img) (sv wv iv0 : Value) (inp : List (BitVec 64)) (iv1 : Value) (more : List (BitVec 64)) (p : BitVec 8) (w : World) (hG : Glob w) (hX : w.cell? ⟨3, 0, none⟩ = some (.iface 206 (.agg #[.pointer (some ⟨6, 83, none⟩)]))) (hs : Sl w sv 2 I.syms.length (symCells I.syms)) (hw : Sl w wv 1 I.words.length (wordCells I.words)) (hN : ∀ s ∈ I.syms, True ∧ s.2 ≤ 9223372036854775807) (hI : Sl w iv0 1 inp.length (inp.map I64)) (hIf : iv0 = .slice none 0 0 ∨ ∃ a c, iv0 = .slice (some a) inp.length c) (hI2 : Sl w iv1 1 more.length (more.map I64)) (d0 : ¬ (300 < I.words.length)) (d1 : 70 < I.syms.length) : CallsR Tryz.prog 3 #[.agg #[.int .i64 (I.entry), sv, wv], iv0, iv1, U8 (p)] w (fun v w' => v = .bool true ∧ Ext w w') := by
  refine callsR_of Tryz.func3 rfl rfl rfl ?_
  refine WC.seq (WC.region (WL.box (v := .agg #[.int .i64 (I.entry), sv, wv]) rfl rfl ?_))
  intro b4 w4 n4
  have E1 : Ext w w4 := Mod.trans (Mod.refl _ _) (n4.ext)
  refine WL.assign (v := .bool (false)) rfl rfl (WL.nil (WC.seq (WC.seq (WC.region (WL.fieldAddr rfl fo25_2 rfl (WL.load1 rfl ag23 (n4.blk.cell (j := 2) rfl) rfl (WL.lenSl (sz := 1) (m := I.words.length) (xs := wordCells I.words) el23 rfl ((hw).ext' (E1)) rfl (WL.bin (v := .bool (false)) rfl rfl rfl (BinR.toB (BinR.gtr) (decide_eq_false (by omega))) (WL.move (v := .bool (false)) rfl rfl ?_)))))))))
  refine WL.guardT (rfl) (WL.fieldAddr rfl fo25_1 rfl (WL.guardT (rfl) (WL.load1 rfl ag22 (n4.blk.cell (j := 1) rfl) rfl (WL.guardT (rfl) (WL.lenSl (sz := 2) (m := I.syms.length) (xs := symCells I.syms) el22 rfl ((hs).ext' (E1)) rfl (WL.guardT (rfl) (WL.bin (v := .bool (true)) rfl rfl rfl (BinR.toB (BinR.gtr) (decide_eq_true (by omega))) (WL.pick (b := false) rfl rfl rfl (WL.move (v := .bool (true)) rfl rfl ?_)))))))))
  refine WL.guardF (b' := true) (rfl) rfl rfl (WL.guardF (b' := true) (rfl) rfl rfl (WL.guardF (b' := true) (rfl) rfl rfl (WL.pick (b := true) rfl rfl rfl (WL.move (v := .bool (true)) rfl rfl (WL.guardF (b' := true) (rfl) rfl rfl (WL.guardF (b' := true) (rfl) rfl rfl (WL.guardF (b' := true) (rfl) rfl rfl (WL.pick (b := true) rfl rfl rfl (WL.move (v := .bool (true)) rfl rfl ?_)))))))))
  refine WL.guardF (b' := true) (rfl) rfl rfl (WL.guardF (b' := true) (rfl) rfl rfl (WL.guardF (b' := true) (rfl) rfl rfl (WL.pick (b := true) rfl rfl rfl (WL.nil (WC.condT rfl (WC.seq (WC.region (WL.call ca9 (rfl) rfl (works_spec _ (hG.ext (E1)) (Mod.cell (E1) hX (fun h => h))) ?_))))))))
  rintro _ wk48 ⟨rfl, ek48⟩
  have E2 : Ext w wk48 := Mod.trans (E1) (ek48)
  refine WL.assign (v := .bool (true)) rfl rfl (WL.nil (WC.ret ?_))
  exact ⟨_, Res.one (v := .bool (true)) rfl rfl, rfl, E2⟩
set_option maxRecDepth 100000 in
theorem input_big3 (I : Img) (sv wv iv0 : Value) (inp : List (BitVec 64)) (iv1 : Value) (more : List (BitVec 64)) (p : BitVec 8) (w : World) (hG : Glob w) (hX : w.cell? ⟨3, 0, none⟩ = some (.iface 206 (.agg #[.pointer (some ⟨6, 83, none⟩)]))) (hs : Sl w sv 2 I.syms.length (symCells I.syms)) (hw : Sl w wv 1 I.words.length (wordCells I.words)) (hN : ∀ s ∈ I.syms, True ∧ s.2 ≤ 9223372036854775807) (hI : Sl w iv0 1 inp.length (inp.map I64)) (hIf : iv0 = .slice none 0 0 ∨ ∃ a c, iv0 = .slice (some a) inp.length c) (hI2 : Sl w iv1 1 more.length (more.map I64)) (d0 : ¬ (300 < I.words.length)) (d1 : ¬ (70 < I.syms.length)) (d2 : 4096 < I.entry) : CallsR Tryz.prog 3 #[.agg #[.int .i64 (I.entry), sv, wv], iv0, iv1, U8 (p)] w (fun v w' => v = .bool true ∧ Ext w w') := by
  refine callsR_of Tryz.func3 rfl rfl rfl ?_
  refine WC.seq (WC.region (WL.box (v := .agg #[.int .i64 (I.entry), sv, wv]) rfl rfl ?_))
  intro b4 w4 n4
  have E1 : Ext w w4 := Mod.trans (Mod.refl _ _) (n4.ext)
  refine WL.assign (v := .bool (false)) rfl rfl (WL.nil (WC.seq (WC.seq (WC.region (WL.fieldAddr rfl fo25_2 rfl (WL.load1 rfl ag23 (n4.blk.cell (j := 2) rfl) rfl (WL.lenSl (sz := 1) (m := I.words.length) (xs := wordCells I.words) el23 rfl ((hw).ext' (E1)) rfl (WL.bin (v := .bool (false)) rfl rfl rfl (BinR.toB (BinR.gtr) (decide_eq_false (by omega))) (WL.move (v := .bool (false)) rfl rfl ?_)))))))))
  refine WL.guardT (rfl) (WL.fieldAddr rfl fo25_1 rfl (WL.guardT (rfl) (WL.load1 rfl ag22 (n4.blk.cell (j := 1) rfl) rfl (WL.guardT (rfl) (WL.lenSl (sz := 2) (m := I.syms.length) (xs := symCells I.syms) el22 rfl ((hs).ext' (E1)) rfl (WL.guardT (rfl) (WL.bin (v := .bool (false)) rfl rfl rfl (BinR.toB (BinR.gtr) (decide_eq_false (by omega))) (WL.pick (b := false) rfl rfl rfl (WL.move (v := .bool (false)) rfl rfl ?_)))))))))
  refine WL.guardT (rfl) (WL.fieldAddr rfl fo25_0 rfl (WL.guardT (rfl) (WL.load1 rfl ag3 (n4.blk.cell (j := 0) rfl) rfl (WL.guardT (rfl) (WL.bin (v := .bool (true)) rfl rfl rfl (BinR.toB (BinR.gtr) (decide_eq_true (by omega))) (WL.pick (b := false) rfl rfl rfl (WL.move (v := .bool (true)) rfl rfl (WL.guardF (b' := true) (rfl) rfl rfl (WL.guardF (b' := true) (rfl) rfl rfl ?_)))))))))
  refine WL.guardF (b' := true) (rfl) rfl rfl (WL.pick (b := true) rfl rfl rfl (WL.move (v := .bool (true)) rfl rfl (WL.guardF (b' := true) (rfl) rfl rfl (WL.guardF (b' := true) (rfl) rfl rfl (WL.guardF (b' := true) (rfl) rfl rfl (WL.pick (b := true) rfl rfl rfl (WL.nil (WC.condT rfl (WC.seq ?_)))))))))
  refine WC.region (WL.call ca9 (rfl) rfl (works_spec _ (hG.ext (E1)) (Mod.cell (E1) hX (fun h => h))) ?_)
  rintro _ wk48 ⟨rfl, ek48⟩
  have E2 : Ext w wk48 := Mod.trans (E1) (ek48)
  refine WL.assign (v := .bool (true)) rfl rfl (WL.nil (WC.ret ?_))
  exact ⟨_, Res.one (v := .bool (true)) rfl rfl, rfl, E2⟩
set_option maxRecDepth 100000 in
theorem input_big4 (I : Img) (sv wv iv0 : Value) (inp : List (BitVec 64)) (iv1 : Value) (more : List (BitVec 64)) (p : BitVec 8) (w : World) (hG : Glob w) (hX : w.cell? ⟨3, 0, none⟩ = some (.iface 206 (.agg #[.pointer (some ⟨6, 83, none⟩)]))) (hs : Sl w sv 2 I.syms.length (symCells I.syms)) (hw : Sl w wv 1 I.words.length (wordCells I.words)) (hN : ∀ s ∈ I.syms, True ∧ s.2 ≤ 9223372036854775807) (hI : Sl w iv0 1 inp.length (inp.map I64)) (hIf : iv0 = .slice none 0 0 ∨ ∃ a c, iv0 = .slice (some a) inp.length c) (hI2 : Sl w iv1 1 more.length (more.map I64)) (d0 : ¬ (300 < I.words.length)) (d1 : ¬ (70 < I.syms.length)) (d2 : ¬ (4096 < I.entry)) (d3 : 30 < inp.length) : CallsR Tryz.prog 3 #[.agg #[.int .i64 (I.entry), sv, wv], iv0, iv1, U8 (p)] w (fun v w' => v = .bool true ∧ Ext w w') := by
  refine callsR_of Tryz.func3 rfl rfl rfl ?_
  refine WC.seq (WC.region (WL.box (v := .agg #[.int .i64 (I.entry), sv, wv]) rfl rfl ?_))
  intro b4 w4 n4
  have E1 : Ext w w4 := Mod.trans (Mod.refl _ _) (n4.ext)
  refine WL.assign (v := .bool (false)) rfl rfl (WL.nil (WC.seq (WC.seq (WC.region (WL.fieldAddr rfl fo25_2 rfl (WL.load1 rfl ag23 (n4.blk.cell (j := 2) rfl) rfl (WL.lenSl (sz := 1) (m := I.words.length) (xs := wordCells I.words) el23 rfl ((hw).ext' (E1)) rfl (WL.bin (v := .bool (false)) rfl rfl rfl (BinR.toB (BinR.gtr) (decide_eq_false (by omega))) (WL.move (v := .bool (false)) rfl rfl ?_)))))))))
  refine WL.guardT (rfl) (WL.fieldAddr rfl fo25_1 rfl (WL.guardT (rfl) (WL.load1 rfl ag22 (n4.blk.cell (j := 1) rfl) rfl (WL.guardT (rfl) (WL.lenSl (sz := 2) (m := I.syms.length) (xs := symCells I.syms) el22 rfl ((hs).ext' (E1)) rfl (WL.guardT (rfl) (WL.bin (v := .bool (false)) rfl rfl rfl (BinR.toB (BinR.gtr) (decide_eq_false (by omega))) (WL.pick (b := false) rfl rfl rfl (WL.move (v := .bool (false)) rfl rfl ?_)))))))))
  refine WL.guardT (rfl) (WL.fieldAddr rfl fo25_0 rfl (WL.guardT (rfl) (WL.load1 rfl ag3 (n4.blk.cell (j := 0) rfl) rfl (WL.guardT (rfl) (WL.bin (v := .bool (false)) rfl rfl rfl (BinR.toB (BinR.gtr) (decide_eq_false (by omega))) (WL.pick (b := false) rfl rfl rfl (WL.move (v := .bool (false)) rfl rfl (WL.guardT (rfl) (WL.move (v := iv0) rfl rfl ?_)))))))))
  refine WL.guardT (rfl) (WL.lenSl (sz := 1) (m := inp.length) (xs := inp.map I64) el26 rfl ((hI).ext' (E1)) rfl (WL.guardT (rfl) (WL.bin (v := .bool (true)) rfl rfl rfl (BinR.toB (BinR.gtr) (decide_eq_true (by omega))) (WL.pick (b := false) rfl rfl rfl (WL.move (v := .bool (true)) rfl rfl (WL.guardF (b' := true) (rfl) rfl rfl (WL.guardF (b' := true) (rfl) rfl rfl (WL.guardF (b' := true) (rfl) rfl rfl (WL.pick (b := true) rfl rfl rfl ?_)))))))))
  refine WL.nil (WC.condT rfl (WC.seq (WC.region (WL.call ca9 (rfl) rfl (works_spec _ (hG.ext (E1)) (Mod.cell (E1) hX (fun h => h))) ?_))))
  rintro _ wk48 ⟨rfl, ek48⟩
  have E2 : Ext w wk48 := Mod.trans (E1) (ek48)
  refine WL.assign (v := .bool (true)) rfl rfl (WL.nil (WC.ret ?_))
  exact ⟨_, Res.one (v := .bool (true)) rfl rfl, rfl, E2⟩
set_option maxRecDepth 100000 in
theorem input_big5 (I : Img) (sv wv iv0 : Value) (inp : List (BitVec 64)) (iv1 : Value) (more : List (BitVec 64)) (p : BitVec 8) (w : World) (hG : Glob w) (hX : w.cell? ⟨3, 0, none⟩ = some (.iface 206 (.agg #[.pointer (some ⟨6, 83, none⟩)]))) (hs : Sl w sv 2 I.syms.length (symCells I.syms)) (hw : Sl w wv 1 I.words.length (wordCells I.words)) (hN : ∀ s ∈ I.syms, True ∧ s.2 ≤ 9223372036854775807) (hI : Sl w iv0 1 inp.length (inp.map I64)) (hIf : iv0 = .slice none 0 0 ∨ ∃ a c, iv0 = .slice (some a) inp.length c) (hI2 : Sl w iv1 1 more.length (more.map I64)) (d0 : ¬ (300 < I.words.length)) (d1 : ¬ (70 < I.syms.length)) (d2 : ¬ (4096 < I.entry)) (d3 : ¬ (30 < inp.length)) (d4 : 30 < more.length) : CallsR Tryz.prog 3 #[.agg #[.int .i64 (I.entry), sv, wv], iv0, iv1, U8 (p)] w (fun v w' => v = .bool true ∧ Ext w w') := by
  refine callsR_of Tryz.func3 rfl rfl rfl ?_
  refine WC.seq (WC.region (WL.box (v := .agg #[.int .i64 (I.entry), sv, wv]) rfl rfl ?_))
  intro b4 w4 n4
  have E1 : Ext w w4 := Mod.trans (Mod.refl _ _) (n4.ext)
  refine WL.assign (v := .bool (false)) rfl rfl (WL.nil (WC.seq (WC.seq (WC.region (WL.fieldAddr rfl fo25_2 rfl (WL.load1 rfl ag23 (n4.blk.cell (j := 2) rfl) rfl (WL.lenSl (sz := 1) (m := I.words.length) (xs := wordCells I.words) el23 rfl ((hw).ext' (E1)) rfl (WL.bin (v := .bool (false)) rfl rfl rfl (BinR.toB (BinR.gtr) (decide_eq_false (by omega))) (WL.move (v := .bool (false)) rfl rfl ?_)))))))))
  refine WL.guardT (rfl) (WL.fieldAddr rfl fo25_1 rfl (WL.guardT (rfl) (WL.load1 rfl ag22 (n4.blk.cell (j := 1) rfl) rfl (WL.guardT (rfl) (WL.lenSl (sz := 2) (m := I.syms.length) (xs := symCells I.syms) el22 rfl ((hs).ext' (E1)) rfl (WL.guardT (rfl) (WL.bin (v := .bool (false)) rfl rfl rfl (BinR.toB (BinR.gtr) (decide_eq_false (by omega))) (WL.pick (b := false) rfl rfl rfl (WL.move (v := .bool (false)) rfl rfl ?_)))))))))
  refine WL.guardT (rfl) (WL.fieldAddr rfl fo25_0 rfl (WL.guardT (rfl) (WL.load1 rfl ag3 (n4.blk.cell (j := 0) rfl) rfl (WL.guardT (rfl) (WL.bin (v := .bool (false)) rfl rfl rfl (BinR.toB (BinR.gtr) (decide_eq_false (by omega))) (WL.pick (b := false) rfl rfl rfl (WL.move (v := .bool (false)) rfl rfl (WL.guardT (rfl) (WL.move (v := iv0) rfl rfl ?_)))))))))
  refine WL.guardT (rfl) (WL.lenSl (sz := 1) (m := inp.length) (xs := inp.map I64) el26 rfl ((hI).ext' (E1)) rfl (WL.guardT (rfl) (WL.bin (v := .bool (false)) rfl rfl rfl (BinR.toB (BinR.gtr) (decide_eq_false (by omega))) (WL.pick (b := false) rfl rfl rfl (WL.move (v := .bool (false)) rfl rfl (WL.guardT (rfl) (WL.move (v := iv1) rfl rfl (WL.guardT (rfl) (WL.lenSl (sz := 1) (m := more.length) (xs := more.map I64) el26 rfl ((hI2).ext' (E1)) rfl ?_)))))))))
  refine WL.guardT (rfl) (WL.bin (v := .bool (true)) rfl rfl rfl (BinR.toB (BinR.gtr) (decide_eq_true (by omega))) (WL.pick (b := false) rfl rfl rfl (WL.nil (WC.condT rfl (WC.seq (WC.region (WL.call ca9 (rfl) rfl (works_spec _ (hG.ext (E1)) (Mod.cell (E1) hX (fun h => h))) ?_)))))))
  rintro _ wk48 ⟨rfl, ek48⟩
  have E2 : Ext w wk48 := Mod.trans (E1) (ek48)
  refine WL.assign (v := .bool (true)) rfl rfl (WL.nil (WC.ret ?_))
  exact ⟨_, Res.one (v := .bool (true)) rfl rfl, rfl, E2⟩
set_option maxRecDepth 100000 in
theorem input_no (I : Img) (sv wv iv0 : Value) (inp : List (BitVec 64)) (iv1 : Value) (more : List (BitVec 64)) (p : BitVec 8) (w : World) (hG : Glob w) (hX : w.cell? ⟨3, 0, none⟩ = some (.iface 206 (.agg #[.pointer (some ⟨6, 83, none⟩)]))) (hs : Sl w sv 2 I.syms.length (symCells I.syms)) (hw : Sl w wv 1 I.words.length (wordCells I.words)) (hN : ∀ s ∈ I.syms, True ∧ s.2 ≤ 9223372036854775807) (hI : Sl w iv0 1 inp.length (inp.map I64)) (hIf : iv0 = .slice none 0 0 ∨ ∃ a c, iv0 = .slice (some a) inp.length c) (hI2 : Sl w iv1 1 more.length (more.map I64)) (c1 : I.words.length ≤ 300) (c2 : I.syms.length ≤ 70) (c3 : I.entry ≤ 4096) (c4 : inp.length ≤ 30) (c5 : more.length ≤ 30) (hr : rightB I = false) : CallsR Tryz.prog 3 #[.agg #[.int .i64 (I.entry), sv, wv], iv0, iv1, U8 (p)] w (fun v w' => v = .bool true ∧ Ext w w') := by
  have hR : Rep w sv wv I := ⟨hs, hw, by omega, by omega⟩
  refine callsR_of Tryz.func3 rfl rfl rfl ?_
  refine WC.seq (WC.region (WL.box (v := .agg #[.int .i64 (I.entry), sv, wv]) rfl rfl ?_))
  intro b4 w4 n4
  have E1 : Ext w w4 := Mod.trans (Mod.refl _ _) (n4.ext)
  refine WL.assign (v := .bool (false)) rfl rfl (WL.nil (WC.seq (WC.seq (WC.region (WL.fieldAddr rfl fo25_2 rfl (WL.load1 rfl ag23 (n4.blk.cell (j := 2) rfl) rfl (WL.lenSl (sz := 1) (m := I.words.length) (xs := wordCells I.words) el23 rfl ((hw).ext' (E1)) rfl (WL.bin (v := .bool (false)) rfl rfl rfl (BinR.toB (BinR.gtr) (decide_eq_false (by omega))) (WL.move (v := .bool (false)) rfl rfl ?_)))))))))
  refine WL.guardT (rfl) (WL.fieldAddr rfl fo25_1 rfl (WL.guardT (rfl) (WL.load1 rfl ag22 (n4.blk.cell (j := 1) rfl) rfl (WL.guardT (rfl) (WL.lenSl (sz := 2) (m := I.syms.length) (xs := symCells I.syms) el22 rfl ((hs).ext' (E1)) rfl (WL.guardT (rfl) (WL.bin (v := .bool (false)) rfl rfl rfl (BinR.toB (BinR.gtr) (decide_eq_false (by omega))) (WL.pick (b := false) rfl rfl rfl (WL.move (v := .bool (false)) rfl rfl ?_)))))))))
  refine WL.guardT (rfl) (WL.fieldAddr rfl fo25_0 rfl (WL.guardT (rfl) (WL.load1 rfl ag3 (n4.blk.cell (j := 0) rfl) rfl (WL.guardT (rfl) (WL.bin (v := .bool (false)) rfl rfl rfl (BinR.toB (BinR.gtr) (decide_eq_false (by omega))) (WL.pick (b := false) rfl rfl rfl (WL.move (v := .bool (false)) rfl rfl (WL.guardT (rfl) (WL.move (v := iv0) rfl rfl ?_)))))))))
  refine WL.guardT (rfl) (WL.lenSl (sz := 1) (m := inp.length) (xs := inp.map I64) el26 rfl ((hI).ext' (E1)) rfl (WL.guardT (rfl) (WL.bin (v := .bool (false)) rfl rfl rfl (BinR.toB (BinR.gtr) (decide_eq_false (by omega))) (WL.pick (b := false) rfl rfl rfl (WL.move (v := .bool (false)) rfl rfl (WL.guardT (rfl) (WL.move (v := iv1) rfl rfl (WL.guardT (rfl) (WL.lenSl (sz := 1) (m := more.length) (xs := more.map I64) el26 rfl ((hI2).ext' (E1)) rfl ?_)))))))))
  refine WL.guardT (rfl) (WL.bin (v := .bool (false)) rfl rfl rfl (BinR.toB (BinR.gtr) (decide_eq_false (by omega))) (WL.pick (b := false) rfl rfl rfl (WL.nil (WC.condF rfl (WC.skip (WC.seq (WC.region (WL.loadS [.int .i64 (I.entry), sv, wv] rfl ag25 sz25 rfl (n4.blk.sub (o := 0) (vs := [.int .i64 (I.entry), sv, wv]) rfl) rfl (WL.move (v := iv0) rfl rfl ?_)))))))))
  refine WL.call ca10 (rfl) rfl (new_no I sv wv iv0 inp _ (hR.ext (E1)) hN hr) ?_
  rintro _ wna ⟨rfl, ena⟩
  have E2 : Ext w wna := Mod.trans (E1) (ena)
  refine WL.move (v := .tuple #[.pointer none, IN 2]) rfl rfl (WL.extract rfl rfl rfl (WL.extract rfl rfl rfl (WL.assign (v := .pointer none) rfl rfl (WL.assign (v := IN (2)) rfl rfl (WL.nil (WC.seq (WC.region (WL.assign (v := .slice none 0 0) rfl rfl (WL.nil ?_)))))))))
  refine WC.seq (WC.region (WL.move (v := .slice none 0 0) rfl rfl (WL.move (v := iv0) rfl rfl (WL.append (k := 0) (m := inp.length) (xs := []) (news := inp.map I64) ap26 rfl rfl rfl (Ux.Own.nil _ 1) (((hI).ext' (E2)).src Tryz.underlying26 (ones_I64 _)) (by omega) (by omega) rfl ?_))))
  intro v57 w57 o57 m57 l57
  have e57 : Ext wna w57 := Mod.then (Mod.refl _ _) m57 (fun i hi e => by cases e)
  have o57b : Ux.Own w57 1 v57 inp.length (inp.map I64) := by simpa using o57
  have f57 : ∀ g, v57.ownBlock = some g → wna.heap.size ≤ g := fun g hg => by rcases l57 with h | ⟨g2, h, h2⟩; (rw [h] at hg; cases hg); (rw [h] at hg; cases hg; exact h2)
  refine WL.assign (v := v57) rfl rfl (WL.nil (WC.seq (WC.region (WL.move (v := v57) rfl rfl (WL.move (v := iv1) rfl rfl (WL.append (k := inp.length) (m := more.length) (xs := inp.map I64) (news := more.map I64) ap26 rfl rfl rfl o57b ((hI2.ext' (Mod.trans (E2) e57)).src Tryz.underlying26 (ones_I64 _)) (by omega) (by omega) rfl ?_))))))
  intro v60 w60 o60 m60 l60
  have e60 : Ext wna w60 := Mod.then e57 m60 (fun i hi e => absurd (f57 i e) (Nat.not_le_of_lt hi))
  have o60b : Ux.Own w60 1 v60 (inp ++ more).length ((inp ++ more).map I64) := by simpa using o60
  have hIf60 := long_form o60b
  have E3 : Ext w w60 := Mod.trans (E2) (e60)
  refine WL.assign (v := v60) rfl rfl (WL.nil (WC.seq (WC.region ?_)))
  have B4 := ((n4.blk).ext (ena)).ext (e60)
  refine WL.loadS [.int .i64 (I.entry), sv, wv] rfl ag25 sz25 rfl (B4.sub (o := 0) (vs := [.int .i64 (I.entry), sv, wv]) rfl) rfl (WL.move (v := v60) rfl rfl (WL.call ca10 (rfl) rfl (new_no I sv wv v60 (inp ++ more) _ (hR.ext (E3)) hN hr) ?_))
  rintro _ wnb ⟨rfl, enb⟩
  have E5 : Ext w wnb := Mod.trans (E3) (enb)
  refine WL.move (v := .tuple #[.pointer none, IN 2]) rfl rfl (WL.extract rfl rfl rfl (WL.extract rfl rfl rfl (WL.assign (v := .pointer none) rfl rfl (WL.assign (v := IN (2)) rfl rfl (WL.nil (WC.seq (WC.region ?_)))))))
  have B6 := (B4).ext (enb)
  refine WL.loadS [.int .i64 (I.entry), sv, wv] rfl ag25 sz25 rfl (B6.sub (o := 0) (vs := [.int .i64 (I.entry), sv, wv]) rfl) rfl (WL.move (v := iv0) rfl rfl (WL.call ca10 (rfl) rfl (new_no I sv wv iv0 inp _ (hR.ext (E5)) hN hr) ?_))
  rintro _ wnc ⟨rfl, enc⟩
  have E7 : Ext w wnc := Mod.trans (E5) (enc)
  refine WL.move (v := .tuple #[.pointer none, IN 2]) rfl rfl (WL.extract rfl rfl rfl (WL.extract rfl rfl rfl (WL.assign (v := .pointer none) rfl rfl (WL.assign (v := IN (2)) rfl rfl (WL.nil (WC.seq (WC.seq (WC.region (WL.move (v := IN (2)) rfl rfl ?_)))))))))
  refine WL.move (v := IN (2)) rfl rfl (WL.bin (v := .bool (false)) rfl rfl rfl (BinR.toB (BinR.neq) (bne_self_eq_false _)) (WL.move (v := .bool (false)) rfl rfl (WL.guardT (rfl) (WL.move (v := IN (2)) rfl rfl (WL.guardT (rfl) (WL.move (v := IN (2)) rfl rfl (WL.guardT (rfl) (WL.bin (v := .bool (false)) rfl rfl rfl (BinR.toB (BinR.neq) (bne_self_eq_false _)) (WL.pick (b := false) rfl rfl rfl ?_)))))))))
  refine WL.nil (WC.condF rfl (WC.skip (WC.seq (WC.seq (WC.region (WL.move (v := IN (2)) rfl rfl (WL.bin (v := .bool (true)) rfl rfl rfl (BinR.toB (BinR.neq) (rfl)) (WL.nil (WC.condT rfl ?_)))))))))
  refine WC.seq (WC.region (WL.call ca9 (rfl) rfl (works_spec _ (hG.ext (E7)) (Mod.cell (E7) hX (fun h => h))) ?_))
  rintro _ wk83 ⟨rfl, ek83⟩
  have E8 : Ext w wk83 := Mod.trans (E7) (ek83)
  refine WL.assign (v := .bool (true)) rfl rfl (WL.nil (WC.ret ?_))
  exact ⟨_, Res.one (v := .bool (true)) rfl rfl, rfl, E8⟩
set_option maxRecDepth 100000 in
set_option maxHeartbeats 1000000 in
theorem input_ok (I : Img) (sv wv iv0 : Value) (inp : List (BitVec 64)) (iv1 : Value) (more : List (BitVec 64)) (p : BitVec 8) (w : World) (hG : Glob w) (hX : w.cell? ⟨3, 0, none⟩ = some (.iface 206 (.agg #[.pointer (some ⟨6, 83, none⟩)]))) (hs : Sl w sv 2 I.syms.length (symCells I.syms)) (hw : Sl w wv 1 I.words.length (wordCells I.words)) (hN : ∀ s ∈ I.syms, True ∧ s.2 ≤ 9223372036854775807) (hI : Sl w iv0 1 inp.length (inp.map I64)) (hIf : iv0 = .slice none 0 0 ∨ ∃ a c, iv0 = .slice (some a) inp.length c) (hI2 : Sl w iv1 1 more.length (more.map I64)) (c1 : I.words.length ≤ 300) (c2 : I.syms.length ≤ 70) (c3 : I.entry ≤ 4096) (c4 : inp.length ≤ 30) (c5 : more.length ≤ 30) (hr : rightB I = true) : CallsR Tryz.prog 3 #[.agg #[.int .i64 (I.entry), sv, wv], iv0, iv1, U8 (p)] w (fun v w' => v = .bool true ∧ Ext w w') := by
  have hR : Rep w sv wv I := ⟨hs, hw, by omega, by omega⟩
  obtain ⟨hr1, hr2, hr3⟩ := right_facts hr
  have hp := p.isLt
  obtain ⟨Mx, hMxe⟩ : ∃ M, M = (runN (p).toNat (newM I inp)).2 := ⟨_, rfl⟩
  obtain ⟨n, hne⟩ : ∃ n, n = (runN (p).toNat (newM I inp)).1 := ⟨_, rfl⟩
  obtain ⟨My, hMye⟩ : ∃ M, M = (runN (p).toNat (newM I (inp ++ more))).2 := ⟨_, rfl⟩
  obtain ⟨ny, hnye⟩ : ∃ n, n = (runN (p).toNat (newM I (inp ++ more))).1 := ⟨_, rfl⟩
  have hn : n ≤ p.toNat := by rw [hne]; exact (runN_keeps _ _).2.2
  have hny : ny ≤ p.toNat := by rw [hnye]; exact (runN_keeps _ _).2.2
  have hMx : Mx.events.length ≤ 300 := by rw [hMxe]; have h := (runN_keeps (p).toNat (newM I inp)).2.1; have e : (newM I inp).events.length = 0 := rfl; omega
  have hMy : My.events.length ≤ 300 := by rw [hMye]; have h := (runN_keeps (p).toNat (newM I (inp ++ more))).2.1; have e : (newM I (inp ++ more)).events.length = 0 := rfl; omega
  have hend : n < p.toNat → Mx.fin.isSome = true := by rw [hne, hMxe]; exact run_ended _ _
  have hst : I64 Mx.steps = IN n := by rw [hMxe, run_steps, ← hne]; exact steps_IN n (by omega)
  have hAB : rdN Mx.events ≤ inp.length → My.events = Mx.events := fun h => by rw [hMye, newM_in, runs_in more _ _ (by rw [← hMxe]; exact Nat.le_trans h (Nat.le_add_left _ _)), hMxe]; rfl
  refine callsR_of Tryz.func3 rfl rfl rfl ?_
  refine WC.seq (WC.region (WL.box (v := .agg #[.int .i64 (I.entry), sv, wv]) rfl rfl ?_))
  intro b4 w4 n4
  have E1 : Ext w w4 := Mod.trans (Mod.refl _ _) (n4.ext)
  refine WL.assign (v := .bool (false)) rfl rfl (WL.nil (WC.seq (WC.seq (WC.region (WL.fieldAddr rfl fo25_2 rfl (WL.load1 rfl ag23 (n4.blk.cell (j := 2) rfl) rfl (WL.lenSl (sz := 1) (m := I.words.length) (xs := wordCells I.words) el23 rfl ((hw).ext' (E1)) rfl (WL.bin (v := .bool (false)) rfl rfl rfl (BinR.toB (BinR.gtr) (decide_eq_false (by omega))) (WL.move (v := .bool (false)) rfl rfl ?_)))))))))
  refine WL.guardT (rfl) (WL.fieldAddr rfl fo25_1 rfl (WL.guardT (rfl) (WL.load1 rfl ag22 (n4.blk.cell (j := 1) rfl) rfl (WL.guardT (rfl) (WL.lenSl (sz := 2) (m := I.syms.length) (xs := symCells I.syms) el22 rfl ((hs).ext' (E1)) rfl (WL.guardT (rfl) (WL.bin (v := .bool (false)) rfl rfl rfl (BinR.toB (BinR.gtr) (decide_eq_false (by omega))) (WL.pick (b := false) rfl rfl rfl (WL.move (v := .bool (false)) rfl rfl ?_)))))))))
  refine WL.guardT (rfl) (WL.fieldAddr rfl fo25_0 rfl (WL.guardT (rfl) (WL.load1 rfl ag3 (n4.blk.cell (j := 0) rfl) rfl (WL.guardT (rfl) (WL.bin (v := .bool (false)) rfl rfl rfl (BinR.toB (BinR.gtr) (decide_eq_false (by omega))) (WL.pick (b := false) rfl rfl rfl (WL.move (v := .bool (false)) rfl rfl (WL.guardT (rfl) (WL.move (v := iv0) rfl rfl ?_)))))))))
  refine WL.guardT (rfl) (WL.lenSl (sz := 1) (m := inp.length) (xs := inp.map I64) el26 rfl ((hI).ext' (E1)) rfl (WL.guardT (rfl) (WL.bin (v := .bool (false)) rfl rfl rfl (BinR.toB (BinR.gtr) (decide_eq_false (by omega))) (WL.pick (b := false) rfl rfl rfl (WL.move (v := .bool (false)) rfl rfl (WL.guardT (rfl) (WL.move (v := iv1) rfl rfl (WL.guardT (rfl) (WL.lenSl (sz := 1) (m := more.length) (xs := more.map I64) el26 rfl ((hI2).ext' (E1)) rfl ?_)))))))))
  refine WL.guardT (rfl) (WL.bin (v := .bool (false)) rfl rfl rfl (BinR.toB (BinR.gtr) (decide_eq_false (by omega))) (WL.pick (b := false) rfl rfl rfl (WL.nil (WC.condF rfl (WC.skip (WC.seq (WC.region (WL.loadS [.int .i64 (I.entry), sv, wv] rfl ag25 sz25 rfl (n4.blk.sub (o := 0) (vs := [.int .i64 (I.entry), sv, wv]) rfl) rfl (WL.move (v := iv0) rfl rfl ?_)))))))))
  refine WL.call ca10 (rfl) rfl (new_ok I sv wv iv0 inp _ (hR.ext (E1)) hN (hG.ext (E1)) (glob_size (hG.ext (E1))) ((hI).ext' (E1)) hIf (by omega) hr) ?_
  rintro _ wna ⟨Ta, ba, rfl, hMa, hTa, ena⟩
  have hFa : ∀ k, Ta k ≠ 0 → w.heap.size ≤ k := fun k h => Nat.le_trans (Mod.size (E1)) (hTa k h)
  have E2 : Ext w wna := Mod.trans (E1) (ena)
  refine WL.move (v := .tuple #[ptr ba 0, IN 0]) rfl rfl (WL.extract rfl rfl rfl (WL.extract rfl rfl rfl (WL.assign (v := ptr ba 0) rfl rfl (WL.assign (v := IN (0)) rfl rfl (WL.nil (WC.seq (WC.region (WL.assign (v := .slice none 0 0) rfl rfl (WL.nil ?_)))))))))
  refine WC.seq (WC.region (WL.move (v := .slice none 0 0) rfl rfl (WL.move (v := iv0) rfl rfl (WL.append (k := 0) (m := inp.length) (xs := []) (news := inp.map I64) ap26 rfl rfl rfl (Ux.Own.nil _ 1) (((hI).ext' (E2)).src Tryz.underlying26 (ones_I64 _)) (by omega) (by omega) rfl ?_))))
  intro v57 w57 o57 m57 l57
  have e57 : Ext wna w57 := Mod.then (Mod.refl _ _) m57 (fun i hi e => by cases e)
  have o57b : Ux.Own w57 1 v57 inp.length (inp.map I64) := by simpa using o57
  have f57 : ∀ g, v57.ownBlock = some g → wna.heap.size ≤ g := fun g hg => by rcases l57 with h | ⟨g2, h, h2⟩; (rw [h] at hg; cases hg); (rw [h] at hg; cases hg; exact h2)
  refine WL.assign (v := v57) rfl rfl (WL.nil (WC.seq (WC.region (WL.move (v := v57) rfl rfl (WL.move (v := iv1) rfl rfl (WL.append (k := inp.length) (m := more.length) (xs := inp.map I64) (news := more.map I64) ap26 rfl rfl rfl o57b ((hI2.ext' (Mod.trans (E2) e57)).src Tryz.underlying26 (ones_I64 _)) (by omega) (by omega) rfl ?_))))))
  intro v60 w60 o60 m60 l60
  have e60 : Ext wna w60 := Mod.then e57 m60 (fun i hi e => absurd (f57 i e) (Nat.not_le_of_lt hi))
  have o60b : Ux.Own w60 1 v60 (inp ++ more).length ((inp ++ more).map I64) := by simpa using o60
  have hIf60 := long_form o60b
  have E3 : Ext w w60 := Mod.trans (E2) (e60)
  have hQ4 := (hMa).ext e60
  refine WL.assign (v := v60) rfl rfl (WL.nil (WC.seq (WC.region ?_)))
  have B5 := ((n4.blk).ext (ena)).ext (e60)
  refine WL.loadS [.int .i64 (I.entry), sv, wv] rfl ag25 sz25 rfl (B5.sub (o := 0) (vs := [.int .i64 (I.entry), sv, wv]) rfl) rfl (WL.move (v := v60) rfl rfl (WL.call ca10 (rfl) rfl (new_ok I sv wv v60 (inp ++ more) _ (hR.ext (E3)) hN (hG.ext (E3)) (glob_size (hG.ext (E3))) (o60b.sl) hIf60 (by rw [List.length_append]; omega) hr) ?_))
  rintro _ wnb ⟨Tb, bb, rfl, hMb, hTb, enb⟩
  have hFb : ∀ k, Tb k ≠ 0 → w.heap.size ≤ k := fun k h => Nat.le_trans (Mod.size (E3)) (hTb k h)
  have hS_a_b : Sep Ta Tb := Sep.new hQ4 hTb
  have E6 : Ext w wnb := Mod.trans (E3) (enb)
  have hQ7 := (hQ4).ext enb
  refine WL.move (v := .tuple #[ptr bb 0, IN 0]) rfl rfl (WL.extract rfl rfl rfl (WL.extract rfl rfl rfl (WL.assign (v := ptr bb 0) rfl rfl (WL.assign (v := IN (0)) rfl rfl (WL.nil (WC.seq (WC.region ?_)))))))
  have B8 := (B5).ext (enb)
  refine WL.loadS [.int .i64 (I.entry), sv, wv] rfl ag25 sz25 rfl (B8.sub (o := 0) (vs := [.int .i64 (I.entry), sv, wv]) rfl) rfl (WL.move (v := iv0) rfl rfl (WL.call ca10 (rfl) rfl (new_ok I sv wv iv0 inp _ (hR.ext (E6)) hN (hG.ext (E6)) (glob_size (hG.ext (E6))) ((hI).ext' (E6)) hIf (by omega) hr) ?_))
  rintro _ wnc ⟨Tc, bc, rfl, hMc, hTc, enc⟩
  have hFc : ∀ k, Tc k ≠ 0 → w.heap.size ≤ k := fun k h => Nat.le_trans (Mod.size (E6)) (hTc k h)
  have hS_a_c : Sep Ta Tc := Sep.new hQ7 hTc
  have hS_b_c : Sep Tb Tc := Sep.new hMb hTc
  have E9 : Ext w wnc := Mod.trans (E6) (enc)
  have hQ10 := (hQ7).ext enc
  have hQ11 := (hMb).ext enc
  refine WL.move (v := .tuple #[ptr bc 0, IN 0]) rfl rfl (WL.extract rfl rfl rfl (WL.extract rfl rfl rfl (WL.assign (v := ptr bc 0) rfl rfl (WL.assign (v := IN (0)) rfl rfl (WL.nil (WC.seq (WC.seq (WC.region (WL.move (v := IN (0)) rfl rfl ?_)))))))))
  refine WL.move (v := IN (0)) rfl rfl (WL.bin (v := .bool (false)) rfl rfl rfl (BinR.toB (BinR.neq) (bne_self_eq_false _)) (WL.move (v := .bool (false)) rfl rfl (WL.guardT (rfl) (WL.move (v := IN (0)) rfl rfl (WL.guardT (rfl) (WL.move (v := IN (0)) rfl rfl (WL.guardT (rfl) (WL.bin (v := .bool (false)) rfl rfl rfl (BinR.toB (BinR.neq) (bne_self_eq_false _)) (WL.pick (b := false) rfl rfl rfl ?_)))))))))
  refine WL.nil (WC.condF rfl (WC.skip (WC.seq (WC.seq (WC.region (WL.move (v := IN (0)) rfl rfl (WL.bin (v := .bool (false)) rfl rfl rfl (BinR.toB (BinR.neq) (rfl)) (WL.nil (WC.condF rfl ?_)))))))))
  refine WC.skip (WC.seq (WC.region (WL.move (v := ptr ba 0) rfl rfl (WL.move (v := U8 (p)) rfl rfl (WL.conv rfl rfl (ConvR.u8n Tryz.underlying5 Tryz.underlying3) (WL.call ca11 (rfl) rfl (run_specN Ta ba (newM I inp) _ hQ10 (p).toNat (by omega) ((newM_code hr3)) (hG.ext (E9)) (Mod.cell (E9) hX (fun h => h)) (by show (0 : Nat) ≤ _; omega)) ?_))))))
  rintro v87 wR87 ⟨hv87, TR87, hMR87, mR87, hsR87⟩
  rw [← hMxe] at hMR87
  rw [← hne] at hv87
  obtain rfl : v87 = IN (n) := hv87
  have hFQ12 := floor_turn hFa hsR87 (Mod.size (E9))
  have EMQ13 : Ext w wR87 := Mod.then (E9) mR87 (fun i hi e => absurd (hFa i e) (Nat.not_le_of_lt hi))
  have hSQ14 : Sep TR87 Tb := Sep.turn (hS_a_b) hsR87 hQ11
  have hQ15 := MR.far hQ11 mR87 (hS_a_b)
  have hSQ16 : Sep TR87 Tc := Sep.turn (hS_a_c) hsR87 hMc
  have hQ17 := MR.far hMc mR87 (hS_a_c)
  refine WL.assign (v := IN (n)) rfl rfl (WL.nil (WC.seq (WC.seq ?_)))
  refine WC.cut (fun f' w_ => f' 0 = .agg #[.int .i64 (I.entry), sv, wv] ∧ f' 1 = iv0 ∧ f' 2 = iv1 ∧ f' 3 = U8 (p) ∧ f' 4 = ptr b4 0 ∧ f' 8 = .bool (false) ∧ f' 9 = ptr ba 0 ∧ f' 10 = IN (0) ∧ f' 11 = v60 ∧ f' 12 = ptr bb 0 ∧ f' 13 = IN (0) ∧ f' 14 = ptr bc 0 ∧ f' 15 = IN (0) ∧ f' 16 = IN (n) ∧ f' 23 = ptr b4 2 ∧ f' 24 = wv ∧ f' 25 = IN (I.words.length) ∧ f' 26 = .bool (false) ∧ f' 27 = .bool (false) ∧ f' 28 = ptr b4 1 ∧ f' 29 = sv ∧ f' 30 = IN (I.syms.length) ∧ f' 31 = .bool (false) ∧ f' 32 = .bool (false) ∧ f' 33 = .bool (false) ∧ f' 34 = ptr b4 0 ∧ f' 35 = .int .i64 (I.entry) ∧ f' 36 = .bool (false) ∧ f' 37 = .bool (false) ∧ f' 38 = .bool (false) ∧ f' 39 = iv0 ∧ f' 40 = IN (inp.length) ∧ f' 41 = .bool (false) ∧ f' 42 = .bool (false) ∧ f' 43 = .bool (false) ∧ f' 44 = iv1 ∧ f' 45 = IN (more.length) ∧ f' 46 = .bool (false) ∧ f' 47 = .bool (false) ∧ f' 49 = .tuple #[ptr ba 0, IN 0] ∧ f' 50 = .agg #[.int .i64 (I.entry), sv, wv] ∧ f' 51 = iv0 ∧ f' 52 = .tuple #[ptr ba 0, IN 0] ∧ f' 53 = ptr ba 0 ∧ f' 54 = IN (0) ∧ f' 55 = .slice none 0 0 ∧ f' 56 = iv0 ∧ f' 57 = v57 ∧ f' 58 = v57 ∧ f' 59 = iv1 ∧ f' 60 = v60 ∧ f' 61 = .tuple #[ptr bb 0, IN 0] ∧ f' 62 = .agg #[.int .i64 (I.entry), sv, wv] ∧ f' 63 = v60 ∧ f' 64 = .tuple #[ptr bb 0, IN 0] ∧ f' 65 = ptr bb 0 ∧ f' 66 = IN (0) ∧ f' 67 = .tuple #[ptr bc 0, IN 0] ∧ f' 68 = .agg #[.int .i64 (I.entry), sv, wv] ∧ f' 69 = iv0 ∧ f' 70 = .tuple #[ptr bc 0, IN 0] ∧ f' 71 = ptr bc 0 ∧ f' 72 = IN (0) ∧ f' 73 = IN (0) ∧ f' 74 = IN (0) ∧ f' 75 = .bool (false) ∧ f' 76 = .bool (false) ∧ f' 77 = IN (0) ∧ f' 78 = IN (0) ∧ f' 79 = .bool (false) ∧ f' 80 = .bool (false) ∧ f' 81 = IN (0) ∧ f' 82 = .bool (false) ∧ f' 84 = ptr ba 0 ∧ f' 85 = U8 (p) ∧ f' 86 = IN ((p).toNat) ∧ f' 87 = IN (n) ∧ f' 108 = .bool (false) ∧ (MR TR87 w_ ba Mx) ∧ (MR Tb w_ bb (newM I (inp ++ more))) ∧ (MR Tc w_ bc (newM I inp)) ∧ Ext w w_) ?_ ?_
  · refine WC.region (WL.move (v := IN (n)) rfl rfl (WL.move (v := U8 (p)) rfl rfl (WL.conv rfl rfl (ConvR.u8n Tryz.underlying5 Tryz.underlying3) (WL.bin (v := .bool (false)) rfl rfl rfl (BinR.toB (BinR.gtr) (decide_eq_false (by omega))) (WL.move (v := .bool (false)) rfl rfl (WL.guardT (rfl) (WL.move (v := ptr ba 0) rfl rfl (WL.guardT (rfl) (WL.call ca12 (rfl) rfl (steps_spec TR87 ba Mx _ hMR87) ?_)))))))))
    rintro v94 wg94 ⟨hv94, eg94⟩
    obtain rfl : v94 = IN n := hv94.trans hst
    have E18 : Ext w wg94 := Mod.trans (EMQ13) (eg94)
    have hQ19 := (hMR87).ext eg94
    have hQ20 := (hQ15).ext eg94
    have hQ21 := (hQ17).ext eg94
    refine WL.guardT (rfl) (WL.move (v := IN (n)) rfl rfl (WL.guardT (rfl) (WL.bin (v := .bool (false)) rfl rfl rfl (BinR.toB (BinR.neq) (bne_self_eq_false _)) (WL.pick (b := false) rfl rfl rfl (WL.move (v := .bool (false)) rfl rfl (WL.guardT (rfl) (WL.move (v := IN (n)) rfl rfl (WL.guardT (rfl) (WL.move (v := U8 (p)) rfl rfl ?_)))))))))
    refine WL.guardT (rfl) (WL.conv rfl rfl (ConvR.u8n Tryz.underlying5 Tryz.underlying3) (WL.guardT (rfl) (WL.bin rfl rfl rfl (BinR.lss) (WL.guardT (rfl) (WL.move (v := .bool (decide (((n : Nat) : Int) < (((p).toNat : Nat) : Int)))) rfl rfl ?_)))))
    rcases Bool.eq_false_or_eq_true (decide (((n : Nat) : Int) < (((p).toNat : Nat) : Int))) with hg103 | hg103
    · refine WL.guardT (yf_bool rfl rfl hg103) (WL.move (v := ptr ba 0) rfl rfl (WL.guardT (yf_bool rfl rfl hg103) (WL.call ca13 (rfl) rfl (ended_spec TR87 ba Mx _ hQ19 ) ?_)))
      rintro _ wg105 ⟨rfl, eg105⟩
      have E22 : Ext w wg105 := Mod.trans (E18) (eg105)
      have hQ23 := (hQ19).ext eg105
      have hQ24 := (hQ20).ext eg105
      have hQ25 := (hQ21).ext eg105
      refine WL.guardT (yf_bool rfl rfl hg103) (WL.un rfl rfl UnR.not (WL.guardT (rfl) (WL.pick (b := true) (congrArg Value.bool hg103) rfl rfl (WL.pick (b := false) rfl rfl rfl (WL.nil ?_)))))
      have hcut : (!(Mx.fin.isSome)) = false := by first | rfl | (rw [hend (by have := of_decide_eq_true hg103; omega)]; rfl)
      exact ⟨rfl, rfl, rfl, rfl, rfl, rfl, rfl, rfl, rfl, rfl, rfl, rfl, rfl, rfl, rfl, rfl, rfl, rfl, rfl, rfl, rfl, rfl, rfl, rfl, rfl, rfl, rfl, rfl, rfl, rfl, rfl, rfl, rfl, rfl, rfl, rfl, rfl, rfl, rfl, rfl, rfl, rfl, rfl, rfl, rfl, rfl, rfl, rfl, rfl, rfl, rfl, rfl, rfl, rfl, rfl, rfl, rfl, rfl, rfl, rfl, rfl, rfl, rfl, rfl, rfl, rfl, rfl, rfl, rfl, rfl, rfl, rfl, rfl, rfl, rfl, rfl, rfl, rfl, congrArg Value.bool hcut, hQ23, hQ24, hQ25, E22⟩
    · refine WL.guardF (b' := false) (yf_bool rfl rfl hg103) rfl rfl (WL.guardF (b' := false) (yf_bool rfl rfl hg103) rfl rfl (WL.guardF (b' := false) (yf_bool rfl rfl hg103) rfl rfl (WL.guardT (rfl) (WL.pick (b := false) (congrArg Value.bool hg103) rfl rfl (WL.pick (b := false) rfl rfl rfl (WL.nil ?_))))))
      have hcut : (false) = false := by first | rfl | (rw [hend (by have := of_decide_eq_true hg103; omega)]; rfl)
      exact ⟨rfl, rfl, rfl, rfl, rfl, rfl, rfl, rfl, rfl, rfl, rfl, rfl, rfl, rfl, rfl, rfl, rfl, rfl, rfl, rfl, rfl, rfl, rfl, rfl, rfl, rfl, rfl, rfl, rfl, rfl, rfl, rfl, rfl, rfl, rfl, rfl, rfl, rfl, rfl, rfl, rfl, rfl, rfl, rfl, rfl, rfl, rfl, rfl, rfl, rfl, rfl, rfl, rfl, rfl, rfl, rfl, rfl, rfl, rfl, rfl, rfl, rfl, rfl, rfl, rfl, rfl, rfl, rfl, rfl, rfl, rfl, rfl, rfl, rfl, rfl, rfl, rfl, rfl, congrArg Value.bool hcut, hQ19, hQ20, hQ21, E18⟩
  rintro fc14 wq ⟨hc14_0, hc14_1, hc14_2, hc14_3, hc14_4, hc14_8, hc14_9, hc14_10, hc14_11, hc14_12, hc14_13, hc14_14, hc14_15, hc14_16, hc14_23, hc14_24, hc14_25, hc14_26, hc14_27, hc14_28, hc14_29, hc14_30, hc14_31, hc14_32, hc14_33, hc14_34, hc14_35, hc14_36, hc14_37, hc14_38, hc14_39, hc14_40, hc14_41, hc14_42, hc14_43, hc14_44, hc14_45, hc14_46, hc14_47, hc14_49, hc14_50, hc14_51, hc14_52, hc14_53, hc14_54, hc14_55, hc14_56, hc14_57, hc14_58, hc14_59, hc14_60, hc14_61, hc14_62, hc14_63, hc14_64, hc14_65, hc14_66, hc14_67, hc14_68, hc14_69, hc14_70, hc14_71, hc14_72, hc14_73, hc14_74, hc14_75, hc14_76, hc14_77, hc14_78, hc14_79, hc14_80, hc14_81, hc14_82, hc14_84, hc14_85, hc14_86, hc14_87, hc14_108, hLa, hLb, hLc, hE⟩
  refine WC.condF hc14_108 (WC.skip (WC.seq (WC.region (WL.assign (v := IN (0)) rfl rfl (WL.nil (WC.seq (WC.region (WL.move (v := ptr ba 0) hc14_9 rfl (WL.call ca14 (rfl) rfl (events_spec TR87 ba Mx _ hLa (by omega)) ?_)))))))))
  rintro v110 wv110 ⟨ho110, hf110, ev110⟩
  have E26 : Ext w wv110 := Mod.trans (hE) (ev110)
  have hQ27 := (hLa).ext ev110
  have hQ28 := (hLb).ext ev110
  have hQ29 := (hLc).ext ev110
  have hfarB := FarV.of ho110 hf110 hLb
  have hfarC := FarV.of ho110 hf110 hLc
  refine WL.assign (v := v110) rfl rfl (WL.nil (WC.seq (WC.seq (WC.region (WL.assign (v := IN (0)) rfl rfl (WL.nil (WC.block ?_)))))))
  refine WC.loop (fun k f w_ => ∃ i, (k + i = Mx.events.length) ∧ f 1 = iv0 ∧ f 3 = U8 (p) ∧ f 9 = ptr ba 0 ∧ f 12 = ptr bb 0 ∧ f 14 = ptr bc 0 ∧ f 16 = IN (n) ∧ f 17 = IN ((rdN (Mx.events.take i))) ∧ f 18 = v110 ∧ f 19 = IN (i) ∧ w_ = wv110) (Mx.events.length) ?_ ?_
  · exact ⟨(0), by omega, hc14_1, hc14_3, hc14_9, hc14_12, hc14_14, hc14_16, rfl, rfl, rfl, rfl⟩
  rintro k1 f1 _ ⟨i, hk, h1_1, h3_1, h9_1, h12_1, h14_1, h16_1, h17_1, h18_1, h19_1, rfl⟩
  refine WC.seq (WC.seq (WC.region (WL.move (v := IN (i)) h19_1 rfl (WL.move (v := v110) h18_1 rfl (WL.lenSl (sz := 2) (m := Mx.events.length) (xs := evV Mx.events) el34 rfl (ho110.sl) rfl (WL.bin rfl rfl rfl (BinR.lss) (WL.nil ?_)))))))
  refine WC.cond rfl (fun hc114 => ?_) (fun hc114 => ?_)
  · have hi1 : i < Mx.events.length := by have := of_decide_eq_true hc114; omega
    obtain ⟨bl, ol, cl, el, hcl0⟩ := (ho110.sl).at (by omega)
    refine WC.skip (WC.seq (WC.block (WC.seq (WC.region (WL.move (v := v110) h18_1 rfl (WL.move (v := IN (i)) h19_1 rfl (WL.indexAddr (i := i) (b := bl) (o := ol) el34 sz38 (Eq.trans (rfl) el) rfl (by omega) rfl (WL.fieldAddr rfl fo38_0 rfl (WL.load1 rfl ag36 (hcl0 (i * 2) _ (evV_get Mx.events i hi1).1) rfl ?_)))))))))
    refine WL.bin rfl (vy := U8 (1#8)) rfl rfl (BinR.eqlU8) (WL.nil ?_)
    refine WC.cond rfl (fun hc122 => ?_) (fun hc122 => ?_)
    · refine WC.region (WL.move (v := IN ((rdN (Mx.events.take i)))) h17_1 rfl (WL.bin rfl rfl rfl (BinR.addN (b := 1) (by have := rdN_le (Mx.events.take i); rw [List.length_take] at this; omega)) (WL.assign (v := IN ((rdN (Mx.events.take i) + 1))) rfl rfl (WL.nil (WC.region (WL.move (v := IN (i)) h19_1 rfl (WL.bin rfl rfl rfl (BinR.succN (by omega)) (WL.assign (v := IN (i + 1)) rfl rfl (WL.nil ?_)))))))))
      have hr17 : rdN (Mx.events.take (i + 1)) = (rdN (Mx.events.take i) + 1) := by rw [rdN_take _ _ hi1]; simp [hc122]
      exact ⟨k1 - 1, by omega, (i + 1), by omega, h1_1, h3_1, h9_1, h12_1, h14_1, h16_1, (by rw [hr17]; exact rfl), h18_1, rfl, rfl⟩
    · refine WC.skip (WC.region (WL.move (v := IN (i)) h19_1 rfl (WL.bin rfl rfl rfl (BinR.succN (by omega)) (WL.assign (v := IN (i + 1)) rfl rfl (WL.nil ?_)))))
      have hr17 : rdN (Mx.events.take (i + 1)) = (rdN (Mx.events.take i)) := by rw [rdN_take _ _ hi1]; simp [hc122]
      exact ⟨k1 - 1, by omega, (i + 1), by omega, h1_1, h3_1, h9_1, h12_1, h14_1, h16_1, (by rw [hr17]; exact h17_1), h18_1, rfl, rfl⟩
  · have hre : rdN (Mx.events.take i) = rdN Mx.events := by rw [List.take_of_length_le (by have := of_decide_eq_false hc114; omega)]
    refine WC.exit (WC.seq (WC.seq (WC.region (WL.move (v := ptr bc 0) h14_1 rfl (WL.move (v := U8 (p)) h3_1 rfl (WL.conv rfl rfl (ConvR.u8n Tryz.underlying5 Tryz.underlying3) (WL.call ca11 (rfl) rfl (run_specN Tc bc (newM I inp) _ hQ29 (p).toNat (by omega) ((newM_code hr3)) (hG.ext (E26)) (Mod.cell (E26) hX (fun h => h)) (by show (0 : Nat) ≤ _; omega)) ?_)))))))
    rintro v128 wR128 ⟨hv128, TR128, hMR128, mR128, hsR128⟩
    rw [← hMxe] at hMR128
    rw [← hne] at hv128
    obtain rfl : v128 = IN (n) := hv128
    have hFQ30 := floor_turn hFc hsR128 (Mod.size (E26))
    have EMQ31 : Ext w wR128 := Mod.then (E26) mR128 (fun i hi e => absurd (hFc i e) (Nat.not_le_of_lt hi))
    have hSQ32 : Sep TR128 TR87 := Sep.turn ((hSQ16).symm) hsR128 hQ27
    have hQ33 := MR.far hQ27 mR128 ((hSQ16).symm)
    have hSQ34 : Sep TR128 Tb := Sep.turn ((hS_b_c).symm) hsR128 hQ28
    have hQ35 := MR.far hQ28 mR128 ((hS_b_c).symm)
    have hS1 := Sl.farMod (ho110.sl) hfarC mR128
    have hfarB1 := hfarB.size mR128
    refine WL.move (v := IN (n)) h16_1 rfl (WL.bin (v := .bool (false)) rfl rfl rfl (BinR.toB (BinR.neq) (bne_self_eq_false _)) (WL.move (v := .bool (false)) rfl rfl (WL.guardT (rfl) (WL.move (v := ptr bb 0) h12_1 rfl (WL.guardT (rfl) (WL.move (v := U8 (p)) h3_1 rfl (WL.guardT (rfl) (WL.conv rfl rfl (ConvR.u8n Tryz.underlying5 Tryz.underlying3) (WL.guardT (rfl) ?_)))))))))
    refine WL.call ca11 (rfl) rfl (run_specN Tb bb (newM I (inp ++ more)) _ hQ35 (p).toNat (by omega) ((newM_code hr3)) (hG.ext (EMQ31)) (Mod.cell (EMQ31) hX (fun h => h)) (by show (0 : Nat) ≤ _; omega)) ?_
    rintro v135 wR135 ⟨hv135, TR135, hMR135, mR135, hsR135⟩
    rw [← hMye] at hMR135
    rw [← hnye] at hv135
    obtain rfl : v135 = IN (ny) := hv135
    have hFQ36 := floor_turn hFb hsR135 (Mod.size (EMQ31))
    have EMQ37 : Ext w wR135 := Mod.then (EMQ31) mR135 (fun i hi e => absurd (hFb i e) (Nat.not_le_of_lt hi))
    have hSQ38 : Sep TR135 TR87 := Sep.turn ((hSQ14).symm) hsR135 hQ33
    have hQ39 := MR.far hQ33 mR135 ((hSQ14).symm)
    have hSQ40 : Sep TR135 TR128 := Sep.turn ((hSQ34).symm) hsR135 hMR128
    have hQ41 := MR.far hMR128 mR135 ((hSQ34).symm)
    have hS2 := Sl.farMod hS1 hfarB1 mR135
    refine WL.guardT (rfl) (WL.bin (v := .bool (false)) rfl rfl rfl (BinR.toB (BinR.lss) (decide_eq_false (by omega))) (WL.pick (b := false) rfl rfl rfl (WL.nil (WC.condF rfl (WC.skip (WC.seq (WC.region (WL.move (v := ptr bb 0) h12_1 rfl (WL.call ca14 (rfl) rfl (events_spec TR135 bb My _ hMR135 (by omega)) ?_)))))))))
    rintro v139 wv139 ⟨ho139, hf139, ev139⟩
    have E42 : Ext w wv139 := Mod.trans (EMQ37) (ev139)
    have hQ43 := (hQ39).ext ev139
    have hQ44 := (hMR135).ext ev139
    have hQ45 := (hQ41).ext ev139
    refine WL.move (v := ptr bc 0) h14_1 rfl (WL.call ca14 (rfl) rfl (events_spec TR128 bc Mx _ hQ45 (by omega)) ?_)
    rintro v141 wv141 ⟨ho141, hf141, ev141⟩
    have E46 : Ext w wv141 := Mod.trans (E42) (ev141)
    have hQ47 := (hQ43).ext ev141
    have hQ48 := (hQ44).ext ev141
    have hQ49 := (hQ45).ext ev141
    refine WL.assign (v := v139) rfl rfl (WL.assign (v := v141) rfl rfl (WL.nil (WC.seq (WC.seq ?_))))
    refine WC.cut (fun f' w_ => f' 1 = iv0 ∧ f' 3 = U8 (p) ∧ f' 9 = ptr ba 0 ∧ f' 12 = ptr bb 0 ∧ f' 14 = ptr bc 0 ∧ f' 16 = IN (n) ∧ f' 17 = IN ((rdN (Mx.events.take i))) ∧ f' 18 = v110 ∧ f' 19 = IN (i) ∧ f' 20 = v139 ∧ f' 21 = v141 ∧ f' 111 = IN (i) ∧ f' 112 = v110 ∧ f' 113 = IN (Mx.events.length) ∧ f' 114 = .bool (decide (((i : Nat) : Int) < ((Mx.events.length : Nat) : Int))) ∧ f' 125 = ptr bc 0 ∧ f' 126 = U8 (p) ∧ f' 127 = IN ((p).toNat) ∧ f' 128 = IN (n) ∧ f' 129 = IN (n) ∧ f' 130 = .bool (false) ∧ f' 131 = .bool (false) ∧ f' 132 = ptr bb 0 ∧ f' 133 = U8 (p) ∧ f' 134 = IN ((p).toNat) ∧ f' 135 = IN (ny) ∧ f' 136 = .bool (false) ∧ f' 137 = .bool (false) ∧ f' 138 = ptr bb 0 ∧ f' 139 = v139 ∧ f' 140 = ptr bc 0 ∧ f' 141 = v141 ∧ f' 159 = .bool (false) ∧ wv141 = w_) ?_ ?_
    · refine WC.region (WL.move (v := v141) rfl rfl (WL.lenSl (sz := 2) (m := Mx.events.length) (xs := evV Mx.events) el34 rfl (ho141.sl) rfl (WL.move (v := v110) h18_1 rfl ?_)))
      have S50 := ((hS2).ext' (ev139)).ext' (ev141)
      refine WL.lenSl (sz := 2) (m := Mx.events.length) (xs := evV Mx.events) el34 rfl (S50) rfl (WL.bin (v := .bool (false)) rfl rfl rfl (BinR.toB (BinR.neq) (bne_self_eq_false _)) (WL.move (v := .bool (false)) rfl rfl (WL.guardT (rfl) (WL.move (v := IN ((rdN (Mx.events.take i)))) h17_1 rfl (WL.guardT (rfl) (WL.move (v := iv0) h1_1 rfl (WL.guardT (rfl) (WL.lenSl (sz := 1) (m := inp.length) (xs := inp.map I64) el26 rfl ((hI).ext' (E46)) rfl (WL.guardT (rfl) ?_)))))))))
      refine WL.bin rfl rfl rfl (BinR.leq) (WL.guardT (rfl) (WL.move (v := .bool (decide ((((rdN (Mx.events.take i)) : Nat) : Int) ≤ ((inp.length : Nat) : Int)))) rfl rfl ?_))
      rcases Bool.eq_false_or_eq_true (decide ((((rdN (Mx.events.take i)) : Nat) : Int) ≤ ((inp.length : Nat) : Int))) with hg152 | hg152
      · refine WL.guardT (yf_bool rfl rfl hg152) (WL.move (v := v139) rfl rfl (WL.guardT (yf_bool rfl rfl hg152) ?_))
        have S51 := (ho139.sl).ext' (ev141)
        refine WL.lenSl (sz := 2) (m := My.events.length) (xs := evV My.events) el34 rfl (S51) rfl (WL.guardT (yf_bool rfl rfl hg152) (WL.move (v := v110) h18_1 rfl (WL.guardT (yf_bool rfl rfl hg152) (WL.lenSl (sz := 2) (m := Mx.events.length) (xs := evV Mx.events) el34 rfl (S50) rfl (WL.guardT (yf_bool rfl rfl hg152) (WL.bin rfl rfl rfl (BinR.neq) (WL.guardT (rfl) (WL.pick (b := true) (congrArg Value.bool hg152) rfl rfl (WL.pick (b := false) rfl rfl rfl ?_)))))))))
        refine WL.nil ?_
        have hcut : ((((My.events.length : Nat) : Int) != ((Mx.events.length : Nat) : Int))) = false := by first | rfl | (rw [hAB (by rw [← hre]; have := of_decide_eq_true hg152; omega)]; exact bne_self_eq_false _)
        exact ⟨rfl, h1_1, h3_1, h9_1, h12_1, h14_1, h16_1, h17_1, h18_1, h19_1, rfl, rfl, rfl, rfl, rfl, rfl, rfl, rfl, rfl, rfl, rfl, rfl, rfl, rfl, rfl, rfl, rfl, rfl, rfl, rfl, rfl, rfl, rfl, congrArg Value.bool hcut, rfl⟩
      · refine WL.guardF (b' := false) (yf_bool rfl rfl hg152) rfl rfl (WL.guardF (b' := false) (yf_bool rfl rfl hg152) rfl rfl (WL.guardF (b' := false) (yf_bool rfl rfl hg152) rfl rfl (WL.guardF (b' := false) (yf_bool rfl rfl hg152) rfl rfl (WL.guardF (b' := false) (yf_bool rfl rfl hg152) rfl rfl (WL.guardT (rfl) (WL.pick (b := false) (congrArg Value.bool hg152) rfl rfl (WL.pick (b := false) rfl rfl rfl (WL.nil ?_))))))))
        have hcut : (false) = false := by first | rfl | (rw [hAB (by rw [← hre]; have := of_decide_eq_true hg152; omega)]; exact bne_self_eq_false _)
        exact ⟨rfl, h1_1, h3_1, h9_1, h12_1, h14_1, h16_1, h17_1, h18_1, h19_1, rfl, rfl, rfl, rfl, rfl, rfl, rfl, rfl, rfl, rfl, rfl, rfl, rfl, rfl, rfl, rfl, rfl, rfl, rfl, rfl, rfl, rfl, rfl, congrArg Value.bool hcut, rfl⟩
    rintro fc26 _ ⟨hc26_1, hc26_3, hc26_9, hc26_12, hc26_14, hc26_16, hc26_17, hc26_18, hc26_19, hc26_20, hc26_21, hc26_111, hc26_112, hc26_113, hc26_114, hc26_125, hc26_126, hc26_127, hc26_128, hc26_129, hc26_130, hc26_131, hc26_132, hc26_133, hc26_134, hc26_135, hc26_136, hc26_137, hc26_138, hc26_139, hc26_140, hc26_141, hc26_159, rfl⟩
    refine WC.condF hc26_159 (WC.skip (WC.seq (WC.seq (WC.region (WL.assign (v := IN (0)) rfl rfl (WL.nil (WC.block ?_)))))))
    refine WC.loop (fun k f w_ => ∃ j, (k + j = Mx.events.length) ∧ f 1 = iv0 ∧ f 9 = ptr ba 0 ∧ f 14 = ptr bc 0 ∧ f 17 = IN ((rdN (Mx.events.take i))) ∧ f 18 = v110 ∧ f 20 = v139 ∧ f 21 = v141 ∧ f 22 = IN (j) ∧ (MR TR87 w_ ba Mx) ∧ (MR TR128 w_ bc Mx) ∧ (Sl w_ v110 2 Mx.events.length (evV Mx.events)) ∧ (Sl w_ v141 2 Mx.events.length (evV Mx.events)) ∧ (Sl w_ v139 2 My.events.length (evV My.events)) ∧ (Ext w w_)) (Mx.events.length) ?_ ?_
    have S52 := ((hS2).ext' (ev139)).ext' (ev141)
    have S53 := (ho139.sl).ext' (ev141)
    · exact ⟨(0), by omega, hc26_1, hc26_9, hc26_14, hc26_17, hc26_18, hc26_20, hc26_21, rfl, hQ47, hQ49, S52, ho141.sl, S53, E46⟩
    rintro k2 f2 wr ⟨j, hk, h1_2, h9_2, h14_2, h17_2, h18_2, h20_2, h21_2, h22_2, hLa, hLc, hT1, hT2, hT3, hE⟩
    refine WC.seq (WC.seq (WC.region (WL.move (v := IN (j)) h22_2 rfl (WL.move (v := v110) h18_2 rfl (WL.lenSl (sz := 2) (m := Mx.events.length) (xs := evV Mx.events) el34 rfl (hT1) rfl (WL.bin rfl rfl rfl (BinR.lss) (WL.nil ?_)))))))
    refine WC.cond rfl (fun hc163 => ?_) (fun hc163 => ?_)
    · have hj1 : j < Mx.events.length := by have := of_decide_eq_true hc163; omega
      obtain ⟨bl, ol, cl, el, hcl⟩ := (hT1).at (by omega)
      obtain ⟨bz, oz, cz, ez, hcz⟩ := (hT2).at (by omega)
      have hSa := hT3
      refine WC.skip (WC.seq (WC.block (WC.seq ?_)))
      rcases Bool.eq_false_or_eq_true (decide ((((rdN (Mx.events.take i)) : Nat) : Int) ≤ ((inp.length : Nat) : Int))) with hd31_180 | hd31_180
      · have hev := hAB (by rw [← hre]; have := of_decide_eq_true hd31_180; omega)
        rw [hev] at hSa
        obtain ⟨bya, oya, cya, eya, hca⟩ := hSa.at (by omega)
        refine WC.draw (fun w_ => Ext wr w_) 26 rfl mixed ?_
        intro wd_31 ed_31
        have R54 : Ext wr wd_31 := Mod.trans (Mod.refl _ _) (ed_31)
        have R55 : Ext wr wd_31 := Mod.trans (Mod.refl _ _) (ed_31)
        have E56 : Ext w wd_31 := Mod.trans (hE) (ed_31)
        refine WA.take (i := 0) (m' := 1) (v := v141) rfl rfl rfl rfl (by kernel_rfl) rfl (fun _ _ _ h => h) (fun wx hS => ?_) (R55) ?_
        · exact WL.move (v := v141) h21_2 rfl (WL.nil ⟨rfl, rfl, rfl⟩)
        refine WA.take (i := 1) (m' := 3) (v := IN (j)) rfl rfl rfl rfl (by kernel_rfl) rfl (fun _ _ _ h => h) (fun wx hS => ?_) (R55) ?_
        · exact WL.move (v := IN (j)) h22_2 rfl (WL.nil ⟨rfl, rfl, rfl⟩)
        refine WA.take (i := 2) (m' := 7) (v := ptr bz (oz + (j) * 2)) rfl rfl rfl rfl (by kernel_rfl) rfl (fun _ _ _ h => h) (fun wx hS => ?_) (R55) ?_
        · exact WL.indexAddr (i := j) (b := bz) (o := oz) el34 sz38 (Eq.trans (rfl) ez) rfl (by omega) rfl (WL.nil ⟨rfl, rfl, rfl⟩)
        refine WA.take (i := 3) (m' := 15) (v := .agg #[U8 ((Mx.events[j]).1), I64 ((Mx.events[j]).2)]) rfl rfl rfl rfl (by kernel_rfl) rfl (fun _ _ _ h => h) (fun wx hS => ?_) (R55) ?_
        · exact WL.loadS [U8 ((Mx.events[j]).1), I64 ((Mx.events[j]).2)] rfl ag38 sz38 rfl (cells2 (hcz.ext hS) ((evV_get Mx.events j hj1)).1 ((evV_get Mx.events j hj1)).2) rfl (WL.nil ⟨rfl, rfl, rfl⟩)
        refine WA.take (i := 4) (m' := 31) (v := v110) rfl rfl rfl rfl (by kernel_rfl) rfl (fun _ _ _ h => h) (fun wx hS => ?_) (R55) ?_
        · exact WL.move (v := v110) h18_2 rfl (WL.nil ⟨rfl, rfl, rfl⟩)
        refine WA.take (i := 5) (m' := 63) (v := IN (j)) rfl rfl rfl rfl (by kernel_rfl) rfl (fun _ _ _ h => h) (fun wx hS => ?_) (R55) ?_
        · exact WL.move (v := IN (j)) h22_2 rfl (WL.nil ⟨rfl, rfl, rfl⟩)
        refine WA.take (i := 6) (m' := 127) (v := ptr bl (ol + (j) * 2)) rfl rfl rfl rfl (by kernel_rfl) rfl (fun _ _ _ h => h) (fun wx hS => ?_) (R55) ?_
        · exact WL.indexAddr (i := j) (b := bl) (o := ol) el34 sz38 (Eq.trans (rfl) el) rfl (by omega) rfl (WL.nil ⟨rfl, rfl, rfl⟩)
        refine WA.take (i := 7) (m' := 255) (v := .agg #[U8 ((Mx.events[j]).1), I64 ((Mx.events[j]).2)]) rfl rfl rfl rfl (by kernel_rfl) rfl (fun _ _ _ h => h) (fun wx hS => ?_) (R55) ?_
        · exact WL.loadS [U8 ((Mx.events[j]).1), I64 ((Mx.events[j]).2)] rfl ag38 sz38 rfl (cells2 (hcl.ext hS) ((evV_get Mx.events j hj1)).1 ((evV_get Mx.events j hj1)).2) rfl (WL.nil ⟨rfl, rfl, rfl⟩)
        refine WA.take (i := 8) (m' := 511) (v := .bool (false)) rfl rfl rfl rfl (by kernel_rfl) rfl (fun _ _ _ h => h) (fun wx hS => ?_) (R55) ?_
        · exact WL.bin (v := .bool (false)) rfl rfl rfl (BinR.toB (BinR.neqEv (by kernel_rfl) (by kernel_rfl)) (by simp)) (WL.nil ⟨rfl, rfl, rfl⟩)
        refine WA.take (i := 9) (m' := 1023) (v := .bool (false)) rfl rfl rfl rfl (by kernel_rfl) rfl (fun _ _ _ h => h) (fun wx hS => ?_) (R55) ?_
        · exact WL.move (v := .bool (false)) rfl rfl (WL.nil ⟨rfl, rfl, rfl⟩)
        refine WA.take (i := 10) (m' := 2047) (v := IN ((rdN (Mx.events.take i)))) rfl rfl rfl rfl (by kernel_rfl) rfl (fun _ _ _ h => h) (fun wx hS => ?_) (R55) ?_
        · refine WL.guardT (rfl) (WL.move (v := IN ((rdN (Mx.events.take i)))) h17_2 rfl ?_)
          exact WL.nil ⟨rfl, rfl, rfl⟩
        refine WA.take (i := 11) (m' := 4095) (v := iv0) rfl rfl rfl rfl (by kernel_rfl) rfl (fun _ _ _ h => h) (fun wx hS => ?_) (R55) ?_
        · refine WL.guardT (rfl) (WL.move (v := iv0) h1_2 rfl ?_)
          exact WL.nil ⟨rfl, rfl, rfl⟩
        refine WA.take (i := 12) (m' := 8191) (v := IN (inp.length)) rfl rfl rfl rfl (by kernel_rfl) rfl (fun _ _ _ h => h) (fun wx hS => ?_) (R55) ?_
        · have E69 : Ext w wx := Mod.trans (hE) (hS)
          refine WL.guardT (rfl) (WL.lenSl (sz := 1) (m := inp.length) (xs := inp.map I64) el26 rfl ((hI).ext' (E69)) rfl ?_)
          exact WL.nil ⟨rfl, rfl, rfl⟩
        refine WA.take (i := 13) (m' := 16383) (v := .bool (decide ((((rdN (Mx.events.take i)) : Nat) : Int) ≤ ((inp.length : Nat) : Int)))) rfl rfl rfl rfl (by kernel_rfl) rfl (fun _ _ _ h => h) (fun wx hS => ?_) (R55) ?_
        · refine WL.guardT (rfl) (WL.bin rfl rfl rfl (BinR.leq) ?_)
          exact WL.nil ⟨rfl, rfl, rfl⟩
        refine WA.take (i := 14) (m' := 32767) (v := .bool (decide ((((rdN (Mx.events.take i)) : Nat) : Int) ≤ ((inp.length : Nat) : Int)))) rfl rfl rfl rfl (by kernel_rfl) rfl (fun _ _ _ h => h) (fun wx hS => ?_) (R55) ?_
        · refine WL.guardT (rfl) (WL.move (v := .bool (decide ((((rdN (Mx.events.take i)) : Nat) : Int) ≤ ((inp.length : Nat) : Int)))) rfl rfl ?_)
          exact WL.nil ⟨rfl, rfl, rfl⟩
        refine WA.take (i := 15) (m' := 65535) (v := v139) rfl rfl rfl rfl (by kernel_rfl) rfl (fun _ _ _ h => h) (fun wx hS => ?_) (R55) ?_
        · refine WL.guardT (yf_bool rfl rfl hd31_180) (WL.move (v := v139) h20_2 rfl ?_)
          exact WL.nil ⟨rfl, rfl, rfl⟩
        refine WA.take (i := 16) (m' := 131071) (v := IN (j)) rfl rfl rfl rfl (by kernel_rfl) rfl (fun _ _ _ h => h) (fun wx hS => ?_) (R55) ?_
        · refine WL.guardT (yf_bool rfl rfl hd31_180) (WL.move (v := IN (j)) h22_2 rfl ?_)
          exact WL.nil ⟨rfl, rfl, rfl⟩
        refine WA.take (i := 17) (m' := 262143) (v := ptr bya (oya + (j) * 2)) rfl rfl rfl rfl (by kernel_rfl) rfl (fun _ _ _ h => h) (fun wx hS => ?_) (R55) ?_
        · refine WL.guardT (yf_bool rfl rfl hd31_180) (WL.indexAddr (i := j) (b := bya) (o := oya) el34 sz38 (Eq.trans (rfl) eya) rfl (by omega) rfl ?_)
          exact WL.nil ⟨rfl, rfl, rfl⟩
        refine WA.take (i := 18) (m' := 524287) (v := .agg #[U8 ((Mx.events[j]).1), I64 ((Mx.events[j]).2)]) rfl rfl rfl rfl (by kernel_rfl) rfl (fun _ _ _ h => h) (fun wx hS => ?_) (R55) ?_
        · refine WL.guardT (yf_bool rfl rfl hd31_180) (WL.loadS [U8 ((Mx.events[j]).1), I64 ((Mx.events[j]).2)] rfl ag38 sz38 rfl (cells2 (hca.ext hS) ((evV_get Mx.events j hj1)).1 ((evV_get Mx.events j hj1)).2) rfl ?_)
          exact WL.nil ⟨rfl, rfl, rfl⟩
        refine WA.take (i := 19) (m' := 1048575) (v := v110) rfl rfl rfl rfl (by kernel_rfl) rfl (fun _ _ _ h => h) (fun wx hS => ?_) (R55) ?_
        · refine WL.guardT (yf_bool rfl rfl hd31_180) (WL.move (v := v110) h18_2 rfl ?_)
          exact WL.nil ⟨rfl, rfl, rfl⟩
        refine WA.take (i := 20) (m' := 2097151) (v := IN (j)) rfl rfl rfl rfl (by kernel_rfl) rfl (fun _ _ _ h => h) (fun wx hS => ?_) (R55) ?_
        · refine WL.guardT (yf_bool rfl rfl hd31_180) (WL.move (v := IN (j)) h22_2 rfl ?_)
          exact WL.nil ⟨rfl, rfl, rfl⟩
        refine WA.take (i := 21) (m' := 4194303) (v := ptr bl (ol + (j) * 2)) rfl rfl rfl rfl (by kernel_rfl) rfl (fun _ _ _ h => h) (fun wx hS => ?_) (R55) ?_
        · refine WL.guardT (yf_bool rfl rfl hd31_180) (WL.indexAddr (i := j) (b := bl) (o := ol) el34 sz38 (Eq.trans (rfl) el) rfl (by omega) rfl ?_)
          exact WL.nil ⟨rfl, rfl, rfl⟩
        refine WA.take (i := 22) (m' := 8388607) (v := .agg #[U8 ((Mx.events[j]).1), I64 ((Mx.events[j]).2)]) rfl rfl rfl rfl (by kernel_rfl) rfl (fun _ _ _ h => h) (fun wx hS => ?_) (R55) ?_
        · refine WL.guardT (yf_bool rfl rfl hd31_180) (WL.loadS [U8 ((Mx.events[j]).1), I64 ((Mx.events[j]).2)] rfl ag38 sz38 rfl (cells2 (hcl.ext hS) ((evV_get Mx.events j hj1)).1 ((evV_get Mx.events j hj1)).2) rfl ?_)
          exact WL.nil ⟨rfl, rfl, rfl⟩
        refine WA.take (i := 23) (m' := 16777215) (v := .bool (false)) rfl rfl rfl rfl (by kernel_rfl) rfl (fun _ _ _ h => h) (fun wx hS => ?_) (R55) ?_
        · refine WL.guardT (yf_bool rfl rfl hd31_180) (WL.bin (v := .bool (false)) rfl rfl rfl (BinR.toB (BinR.neqEv (by kernel_rfl) (by kernel_rfl)) (by simp)) ?_)
          exact WL.nil ⟨rfl, rfl, rfl⟩
        refine WA.take (i := 24) (m' := 33554431) (v := .bool (false)) rfl rfl rfl rfl (by kernel_rfl) rfl (fun _ _ _ h => h) (fun wx hS => ?_) (R55) ?_
        · refine WL.guardT (rfl) (WL.pick (b := true) (congrArg Value.bool hd31_180) rfl rfl ?_)
          exact WL.nil ⟨rfl, rfl, rfl⟩
        refine WA.take (i := 25) (m' := 67108863) (v := .bool (false)) rfl rfl rfl rfl (by kernel_rfl) rfl (fun _ _ _ h => h) (fun wx hS => ?_) (R55) ?_
        · exact WL.pick (b := false) rfl rfl rfl (WL.nil ⟨rfl, rfl, rfl⟩)
        refine WA.done (by kernel_rfl) ?_
        refine WC.condF rfl (WC.skip (WC.region (WL.move (v := IN (j)) h22_2 rfl (WL.bin rfl rfl rfl (BinR.succN (by omega)) (WL.assign (v := IN (j + 1)) rfl rfl (WL.nil ?_))))))
        have S83 := (hT1).ext' (ed_31)
        have S84 := (hT2).ext' (ed_31)
        have S85 := (hT3).ext' (ed_31)
        exact ⟨k2 - 1, by omega, (j + 1), by omega, h1_2, h9_2, h14_2, h17_2, h18_2, h20_2, h21_2, rfl, hLa.ext (R54), hLc.ext (R54), S83, S84, S85, E56⟩
      · refine WC.draw (fun w_ => Ext wr w_) 26 rfl mixed ?_
        intro wd_31 ed_31
        have R86 : Ext wr wd_31 := Mod.trans (Mod.refl _ _) (ed_31)
        have R87 : Ext wr wd_31 := Mod.trans (Mod.refl _ _) (ed_31)
        have E88 : Ext w wd_31 := Mod.trans (hE) (ed_31)
        refine WA.take (i := 0) (m' := 1) (v := v141) rfl rfl rfl rfl (by kernel_rfl) rfl (fun _ _ _ h => h) (fun wx hS => ?_) (R87) ?_
        · exact WL.move (v := v141) h21_2 rfl (WL.nil ⟨rfl, rfl, rfl⟩)
        refine WA.take (i := 1) (m' := 3) (v := IN (j)) rfl rfl rfl rfl (by kernel_rfl) rfl (fun _ _ _ h => h) (fun wx hS => ?_) (R87) ?_
        · exact WL.move (v := IN (j)) h22_2 rfl (WL.nil ⟨rfl, rfl, rfl⟩)
        refine WA.take (i := 2) (m' := 7) (v := ptr bz (oz + (j) * 2)) rfl rfl rfl rfl (by kernel_rfl) rfl (fun _ _ _ h => h) (fun wx hS => ?_) (R87) ?_
        · exact WL.indexAddr (i := j) (b := bz) (o := oz) el34 sz38 (Eq.trans (rfl) ez) rfl (by omega) rfl (WL.nil ⟨rfl, rfl, rfl⟩)
        refine WA.take (i := 3) (m' := 15) (v := .agg #[U8 ((Mx.events[j]).1), I64 ((Mx.events[j]).2)]) rfl rfl rfl rfl (by kernel_rfl) rfl (fun _ _ _ h => h) (fun wx hS => ?_) (R87) ?_
        · exact WL.loadS [U8 ((Mx.events[j]).1), I64 ((Mx.events[j]).2)] rfl ag38 sz38 rfl (cells2 (hcz.ext hS) ((evV_get Mx.events j hj1)).1 ((evV_get Mx.events j hj1)).2) rfl (WL.nil ⟨rfl, rfl, rfl⟩)
        refine WA.take (i := 4) (m' := 31) (v := v110) rfl rfl rfl rfl (by kernel_rfl) rfl (fun _ _ _ h => h) (fun wx hS => ?_) (R87) ?_
        · exact WL.move (v := v110) h18_2 rfl (WL.nil ⟨rfl, rfl, rfl⟩)
        refine WA.take (i := 5) (m' := 63) (v := IN (j)) rfl rfl rfl rfl (by kernel_rfl) rfl (fun _ _ _ h => h) (fun wx hS => ?_) (R87) ?_
        · exact WL.move (v := IN (j)) h22_2 rfl (WL.nil ⟨rfl, rfl, rfl⟩)
        refine WA.take (i := 6) (m' := 127) (v := ptr bl (ol + (j) * 2)) rfl rfl rfl rfl (by kernel_rfl) rfl (fun _ _ _ h => h) (fun wx hS => ?_) (R87) ?_
        · exact WL.indexAddr (i := j) (b := bl) (o := ol) el34 sz38 (Eq.trans (rfl) el) rfl (by omega) rfl (WL.nil ⟨rfl, rfl, rfl⟩)
        refine WA.take (i := 7) (m' := 255) (v := .agg #[U8 ((Mx.events[j]).1), I64 ((Mx.events[j]).2)]) rfl rfl rfl rfl (by kernel_rfl) rfl (fun _ _ _ h => h) (fun wx hS => ?_) (R87) ?_
        · exact WL.loadS [U8 ((Mx.events[j]).1), I64 ((Mx.events[j]).2)] rfl ag38 sz38 rfl (cells2 (hcl.ext hS) ((evV_get Mx.events j hj1)).1 ((evV_get Mx.events j hj1)).2) rfl (WL.nil ⟨rfl, rfl, rfl⟩)
        refine WA.take (i := 8) (m' := 511) (v := .bool (false)) rfl rfl rfl rfl (by kernel_rfl) rfl (fun _ _ _ h => h) (fun wx hS => ?_) (R87) ?_
        · exact WL.bin (v := .bool (false)) rfl rfl rfl (BinR.toB (BinR.neqEv (by kernel_rfl) (by kernel_rfl)) (by simp)) (WL.nil ⟨rfl, rfl, rfl⟩)
        refine WA.take (i := 9) (m' := 1023) (v := .bool (false)) rfl rfl rfl rfl (by kernel_rfl) rfl (fun _ _ _ h => h) (fun wx hS => ?_) (R87) ?_
        · exact WL.move (v := .bool (false)) rfl rfl (WL.nil ⟨rfl, rfl, rfl⟩)
        refine WA.take (i := 10) (m' := 2047) (v := IN ((rdN (Mx.events.take i)))) rfl rfl rfl rfl (by kernel_rfl) rfl (fun _ _ _ h => h) (fun wx hS => ?_) (R87) ?_
        · refine WL.guardT (rfl) (WL.move (v := IN ((rdN (Mx.events.take i)))) h17_2 rfl ?_)
          exact WL.nil ⟨rfl, rfl, rfl⟩
        refine WA.take (i := 11) (m' := 4095) (v := iv0) rfl rfl rfl rfl (by kernel_rfl) rfl (fun _ _ _ h => h) (fun wx hS => ?_) (R87) ?_
        · refine WL.guardT (rfl) (WL.move (v := iv0) h1_2 rfl ?_)
          exact WL.nil ⟨rfl, rfl, rfl⟩
        refine WA.take (i := 12) (m' := 8191) (v := IN (inp.length)) rfl rfl rfl rfl (by kernel_rfl) rfl (fun _ _ _ h => h) (fun wx hS => ?_) (R87) ?_
        · have E101 : Ext w wx := Mod.trans (hE) (hS)
          refine WL.guardT (rfl) (WL.lenSl (sz := 1) (m := inp.length) (xs := inp.map I64) el26 rfl ((hI).ext' (E101)) rfl ?_)
          exact WL.nil ⟨rfl, rfl, rfl⟩
        refine WA.take (i := 13) (m' := 16383) (v := .bool (decide ((((rdN (Mx.events.take i)) : Nat) : Int) ≤ ((inp.length : Nat) : Int)))) rfl rfl rfl rfl (by kernel_rfl) rfl (fun _ _ _ h => h) (fun wx hS => ?_) (R87) ?_
        · refine WL.guardT (rfl) (WL.bin rfl rfl rfl (BinR.leq) ?_)
          exact WL.nil ⟨rfl, rfl, rfl⟩
        refine WA.take (i := 14) (m' := 32767) (v := .bool (decide ((((rdN (Mx.events.take i)) : Nat) : Int) ≤ ((inp.length : Nat) : Int)))) rfl rfl rfl rfl (by kernel_rfl) rfl (fun _ _ _ h => h) (fun wx hS => ?_) (R87) ?_
        · refine WL.guardT (rfl) (WL.move (v := .bool (decide ((((rdN (Mx.events.take i)) : Nat) : Int) ≤ ((inp.length : Nat) : Int)))) rfl rfl ?_)
          exact WL.nil ⟨rfl, rfl, rfl⟩
        refine WA.off (i := 15) (m' := 65535) (y := some false) rfl rfl rfl rfl (by kernel_rfl) rfl (fun _ _ _ h => h) (yf_bool rfl rfl hd31_180) rfl (R87) ?_
        refine WA.off (i := 16) (m' := 131071) (y := some false) rfl rfl rfl rfl (by kernel_rfl) rfl (fun _ _ _ h => h) (yf_bool rfl rfl hd31_180) rfl (R87) ?_
        refine WA.off (i := 17) (m' := 262143) (y := some false) rfl rfl rfl rfl (by kernel_rfl) rfl (fun _ _ _ h => h) (yf_bool rfl rfl hd31_180) rfl (R87) ?_
        refine WA.off (i := 18) (m' := 524287) (y := some false) rfl rfl rfl rfl (by kernel_rfl) rfl (fun _ _ _ h => h) (yf_bool rfl rfl hd31_180) rfl (R87) ?_
        refine WA.off (i := 19) (m' := 1048575) (y := some false) rfl rfl rfl rfl (by kernel_rfl) rfl (fun _ _ _ h => h) (yf_bool rfl rfl hd31_180) rfl (R87) ?_
        refine WA.off (i := 20) (m' := 2097151) (y := some false) rfl rfl rfl rfl (by kernel_rfl) rfl (fun _ _ _ h => h) (yf_bool rfl rfl hd31_180) rfl (R87) ?_
        refine WA.off (i := 21) (m' := 4194303) (y := some false) rfl rfl rfl rfl (by kernel_rfl) rfl (fun _ _ _ h => h) (yf_bool rfl rfl hd31_180) rfl (R87) ?_
        refine WA.off (i := 22) (m' := 8388607) (y := some false) rfl rfl rfl rfl (by kernel_rfl) rfl (fun _ _ _ h => h) (yf_bool rfl rfl hd31_180) rfl (R87) ?_
        refine WA.off (i := 23) (m' := 16777215) (y := some false) rfl rfl rfl rfl (by kernel_rfl) rfl (fun _ _ _ h => h) (yf_bool rfl rfl hd31_180) rfl (R87) ?_
        refine WA.take (i := 24) (m' := 33554431) (v := .bool (false)) rfl rfl rfl rfl (by kernel_rfl) rfl (fun _ _ _ h => h) (fun wx hS => ?_) (R87) ?_
        · refine WL.guardT (rfl) (WL.pick (b := false) (congrArg Value.bool hd31_180) rfl rfl ?_)
          exact WL.nil ⟨rfl, rfl, rfl⟩
        refine WA.take (i := 25) (m' := 67108863) (v := .bool (false)) rfl rfl rfl rfl (by kernel_rfl) rfl (fun _ _ _ h => h) (fun wx hS => ?_) (R87) ?_
        · exact WL.pick (b := false) rfl rfl rfl (WL.nil ⟨rfl, rfl, rfl⟩)
        refine WA.done (by kernel_rfl) ?_
        refine WC.condF rfl (WC.skip (WC.region (WL.move (v := IN (j)) h22_2 rfl (WL.bin rfl rfl rfl (BinR.succN (by omega)) (WL.assign (v := IN (j + 1)) rfl rfl (WL.nil ?_))))))
        have S106 := (hT1).ext' (ed_31)
        have S107 := (hT2).ext' (ed_31)
        have S108 := (hT3).ext' (ed_31)
        exact ⟨k2 - 1, by omega, (j + 1), by omega, h1_2, h9_2, h14_2, h17_2, h18_2, h20_2, h21_2, rfl, hLa.ext (R86), hLc.ext (R86), S106, S107, S108, E88⟩
    · refine WC.exit (WC.seq (WC.region (WL.move (v := ptr ba 0) h9_2 rfl (WL.call ca15 (rfl) rfl (pc_spec TR87 ba Mx _ hLa ) ?_))))
      rintro _ wg193 ⟨rfl, eg193⟩
      have E110 : Ext w wg193 := Mod.trans (hE) (eg193)
      have hQ111 := (hLa).ext eg193
      have hQ112 := (hLc).ext eg193
      refine WL.move (v := ptr bc 0) h14_2 rfl (WL.call ca15 (rfl) rfl (pc_spec TR128 bc Mx _ hQ112 ) ?_)
      rintro _ wg195 ⟨rfl, eg195⟩
      have E114 : Ext w wg195 := Mod.trans (E110) (eg195)
      have hQ115 := (hQ111).ext eg195
      have hQ116 := (hQ112).ext eg195
      refine WL.bin (v := .bool (true)) rfl rfl rfl (BinR.toB (BinR.eqlU64) (beq_self_eq_true _)) (WL.move (v := .bool (true)) rfl rfl (WL.guardT (rfl) (WL.call ca9 (rfl) rfl (works_spec _ (hG.ext (E114)) (Mod.cell (E114) hX (fun h => h))) ?_)))
      rintro _ wk198 ⟨rfl, ek198⟩
      have E118 : Ext w wk198 := Mod.trans (E114) (ek198)
      refine WL.pick (b := true) rfl rfl rfl (WL.assign (v := .bool (true)) rfl rfl (WL.nil (WC.ret ?_)))
      exact ⟨_, Res.one (v := .bool (true)) rfl rfl, rfl, E118⟩
end Go.Proofs.S
end
section
/- The law MachineInput, its cases joined: it returns true, and nothing that stood is written. -/
set_option linter.unusedVariables false
namespace Go.Proofs.S
open Go Go.Ux Go.Ux.Mach Go.Proofs Go.Proofs.M Go.Ux.Image
theorem input_spec (I : Img) (sv wv iv0 : Value) (inp : List (BitVec 64)) (iv1 : Value) (more : List (BitVec 64)) (p : BitVec 8) (w : World) (hG : Glob w) (hX : w.cell? ⟨3, 0, none⟩ = some (.iface 206 (.agg #[.pointer (some ⟨6, 83, none⟩)]))) (hs : Sl w sv 2 I.syms.length (symCells I.syms)) (hw : Sl w wv 1 I.words.length (wordCells I.words)) (hN : ∀ s ∈ I.syms, True ∧ s.2 ≤ 9223372036854775807) (hI : Sl w iv0 1 inp.length (inp.map I64)) (hIf : iv0 = .slice none 0 0 ∨ ∃ a c, iv0 = .slice (some a) inp.length c) (hI2 : Sl w iv1 1 more.length (more.map I64)) : CallsR Tryz.prog 3 #[.agg #[.int .i64 (I.entry), sv, wv], iv0, iv1, U8 (p)] w (fun v w' => v = .bool true ∧ Ext w w') := by
  by_cases d0 : 300 < I.words.length
  · exact input_big1 I sv wv iv0 inp iv1 more p w hG hX hs hw hN hI hIf hI2 d0
  by_cases d1 : 70 < I.syms.length
  · exact input_big2 I sv wv iv0 inp iv1 more p w hG hX hs hw hN hI hIf hI2 d0 d1
  by_cases d2 : 4096 < I.entry
  · exact input_big3 I sv wv iv0 inp iv1 more p w hG hX hs hw hN hI hIf hI2 d0 d1 d2
  by_cases d3 : 30 < inp.length
  · exact input_big4 I sv wv iv0 inp iv1 more p w hG hX hs hw hN hI hIf hI2 d0 d1 d2 d3
  by_cases d4 : 30 < more.length
  · exact input_big5 I sv wv iv0 inp iv1 more p w hG hX hs hw hN hI hIf hI2 d0 d1 d2 d3 d4
  cases hr : rightB I with
  | false => exact input_no I sv wv iv0 inp iv1 more p w hG hX hs hw hN hI hIf hI2 (by omega) (by omega) (by omega) (by omega) (by omega) hr
  | true => exact input_ok I sv wv iv0 inp iv1 more p w hG hX hs hw hN hI hIf hI2 (by omega) (by omega) (by omega) (by omega) (by omega) hr
end Go.Proofs.S
end
