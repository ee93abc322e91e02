import Derived.Test.YtljcijdkoncodaaImgBig
import Derived.Test.YtljcijdkoncodaaRows
import Derived.Test.YtljcijdkoncodaaImY4
import Derived.Test.YtljcijdkoncodaaImgBytes
set_option linter.unusedSimpArgs false
set_option linter.unusedVariables false
namespace Go.Proofs.I
open Go Go.Ux Go.Ux.Image Go.Proofs
theorem ca18 : callable Try.prog 18 = true := by kernel_rfl
theorem bls9_10  : ∀ w : World, (Instr.buildSlice 28 4 #[(0, .int .u8 (80)), (1, .int .u8 (77)), (2, .int .u8 (73)), (3, .int .u8 (49))]).run Try.prog w = .ok (.slice (some ⟨w.heap.size, 0, none⟩) 4 4) (w.alloc (.cells #[.int .u8 (80), .int .u8 (77), .int .u8 (73), .int .u8 (49)] 5)) := fun _ => by kernel_rfl
theorem ca19 : callable Try.prog 19 = true := by kernel_rfl
theorem bls9_39 (z : Int) : ∀ w : World, (Instr.buildSlice 28 1 #[(0, .int .u8 (z))]).run Try.prog w = .ok (.slice (some ⟨w.heap.size, 0, none⟩) 1 1) (w.alloc (.cells #[.int .u8 (z)] 5)) := fun _ => by kernel_rfl

theorem rput_no (sv wv : Value) (I : Img) (w : World) (hR : Rep w sv wv I) (hr : rightB I = false) : CallsR Try.prog 9 #[.agg #[.int .i64 (I.entry), sv, wv]] w (fun v w' => v = .tuple #[.slice none 0 0, .bool false] ∧ Ext w w') := by
  refine callsR_of Try.func9 rfl rfl rfl ?_
  refine WC.seq ?_
  refine WC.region ?_
  refine WL.box (v := .agg #[.int .i64 (I.entry), sv, wv]) rfl rfl ?_
  intro b1 w1 n1
  have E1 : Ext w w1 := Mod.trans (Mod.refl _ _) (n1.ext)
  refine WL.assign (v := .slice none 0 0) rfl rfl ?_
  refine WL.assign (v := .bool (false)) rfl rfl ?_
  refine WL.nil ?_
  refine WC.seq ?_
  refine WC.seq ?_
  refine WC.region ?_
  refine WL.loadS [.int .i64 (I.entry), sv, wv] rfl ag33 sz33 rfl (n1.blk.sub (o := 0) (vs := [.int .i64 (I.entry), sv, wv]) rfl) rfl ?_
  refine WL.call ca18 (rfl) rfl (rright_spec sv wv I _ (hR.ext (E1))) ?_
  rintro _ wd8 ⟨rfl, ed8⟩
  rw [hr]
  have E2 : Ext w wd8 := Mod.trans (E1) (ed8)
  refine WL.un rfl rfl UnR.not ?_
  refine WL.nil ?_
  refine WC.condT rfl ?_
  refine WC.seq ?_
  refine WC.region ?_
  refine WL.assign (v := .slice none 0 0) rfl rfl ?_
  refine WL.assign (v := .bool (false)) rfl rfl ?_
  refine WL.nil ?_
  refine WC.ret ?_
  exact ⟨_, Res.two (v := .slice none 0 0) (v' := .bool (false)) rfl rfl rfl, rfl, E2⟩

theorem rput_ok (sv wv : Value) (I : Img) (w : World) (hR : Rep w sv wv I) (hr : rightB I = true) : CallsR Try.prog 9 #[.agg #[.int .i64 (I.entry), sv, wv]] w (fun v w' => ∃ u, v = .tuple #[u, .bool true] ∧ Own w' 1 u (bytesOf I).length (bs (bytesOf I)) ∧ From w.heap.size u ∧ Ext w w') := by
  have hI1 := hR.ls
  have hI2 := hR.lw
  obtain ⟨hb1, hb2, hb3, hb4, hb5, hb6, hb7, hb8⟩ := right_bounds hr
  refine callsR_of Try.func9 rfl rfl rfl ?_
  refine WC.seq ?_
  refine WC.region ?_
  refine WL.box (v := .agg #[.int .i64 (I.entry), sv, wv]) rfl rfl ?_
  intro b1 w1 n1
  have E1 : Ext w w1 := Mod.trans (Mod.refl _ _) (n1.ext)
  refine WL.assign (v := .slice none 0 0) rfl rfl ?_
  refine WL.assign (v := .bool (false)) rfl rfl ?_
  refine WL.nil ?_
  refine WC.seq ?_
  refine WC.seq ?_
  refine WC.region ?_
  refine WL.loadS [.int .i64 (I.entry), sv, wv] rfl ag33 sz33 rfl (n1.blk.sub (o := 0) (vs := [.int .i64 (I.entry), sv, wv]) rfl) rfl ?_
  refine WL.call ca18 (rfl) rfl (rright_spec sv wv I _ (hR.ext (E1))) ?_
  rintro _ wd8 ⟨rfl, ed8⟩
  rw [hr]
  have E2 : Ext w wd8 := Mod.trans (E1) (ed8)
  refine WL.un rfl rfl UnR.not ?_
  refine WL.nil ?_
  refine WC.condF rfl ?_
  refine WC.skip ?_
  refine WC.seq ?_
  refine WC.region ?_
  refine WL.buildSlice (vs := [(0, .int .u8 (80)), (1, .int .u8 (77)), (2, .int .u8 (73)), (3, .int .u8 (49))]) rfl (bls9_10) rfl ?_
  intro b10 w10 n10
  have E3 : Ext w w10 := Mod.trans (E2) (n10.ext)
  have hgeb10 : w.heap.size ≤ b10 := by have := (E2).size; have := n10.num; omega
  refine WL.bytesConst (bl := magic) Try.underlying28 Try.underlying5 rfl rfl (n10.blk) rfl ?_
  intro wq oq mq
  have hl_b1 : b1 < b10 := by have := (((n1.blk).ext (ed8))).lt; have := n10.num; omega
  have nq_b1 : (.slice (some ⟨b10, 0, none⟩) 4 4 : Value).ownBlock ≠ some b1 := ne_slice hl_b1
  have E4 : Ext w wq := Mod.own (E2) n10 (E3) (mq)
  refine WL.assign (v := .slice (some ⟨b10, 0, none⟩) 4 4) rfl rfl ?_
  refine WL.nil ?_
  refine WC.seq ?_
  refine WC.region ?_
  refine WL.move (v := .slice (some ⟨b10, 0, none⟩) 4 4) rfl rfl ?_
  refine WL.fieldAddr rfl fo33_0 rfl ?_
  have B5 := (((n1.blk).ext (ed8)).ext (n10.ext)).mod (mq) ((by omega))
  refine WL.load1 rfl ag3 (B5.cell (j := 0) rfl) rfl ?_
  refine WL.call ca19 (rfl) rfl (number_spec (I.entry) 4 _ (by decide)) ?_
  rintro v15 wd15 ⟨o15, e15, f15⟩
  have E6 : Ext w wd15 := Mod.trans (E4) (e15)
  have O7 := (oq).ext (e15)
  refine WL.append (k := 4) (m := 4) (xs := bs magic) (news := bs (be 4 (I.entry))) ap28 rfl rfl rfl (O7) ((o15).sl.src Try.underlying28 (bs_one _)) (by omega) (by omega) rfl ?_
  intro v16 w16 o16 m16 l16
  have o16b : Own w16 1 v16 (8) (bs (magic ++ be 4 I.entry)) := by rw [← bs_append] at o16; exact o16
  have F8 : From w.heap.size v16 := LocV.from l16 (Mod.size (E6)) (From.slice hgeb10)
  have B10 := (B5).ext (e15)
  have N9 : v16.ownBlock ≠ some b1 := LocV.ne l16 ((B10).lt) nq_b1
  have E11 : Ext w w16 := Mod.from (E6) m16 (From.slice hgeb10)
  refine WL.assign (v := v16) rfl rfl ?_
  refine WL.nil ?_
  refine WC.seq ?_
  refine WC.region ?_
  refine WL.move (v := v16) rfl rfl ?_
  refine WL.fieldAddr rfl fo33_1 rfl ?_
  have B12 := (B10).mod (m16) (nq_b1)
  refine WL.load1 rfl ag31 (B12.cell (j := 1) rfl) rfl ?_
  refine WL.lenSl (sz := 2) (m := I.syms.length) (xs := symCells I.syms) el31 rfl ((hR.s).ext' (E11)) rfl ?_
  refine WL.call ca19 (rfl) rfl (number_spec (((I.syms.length : Nat) : Int)) 2 _ (by decide)) ?_
  rintro v21 wd21 ⟨o21, e21, f21⟩
  have E13 : Ext w wd21 := Mod.trans (E11) (e21)
  have O14 := (o16b).ext (e21)
  refine WL.append (k := 8) (m := 2) (xs := bs (magic ++ be 4 I.entry)) (news := bs (be 2 (((I.syms.length : Nat) : Int)))) ap28 rfl rfl rfl (O14) ((o21).sl.src Try.underlying28 (bs_one _)) (by omega) (by omega) rfl ?_
  intro v22 w22 o22 m22 l22
  have o22b : Own w22 1 v22 (10) (bs (headOf I)) := by rw [← bs_append] at o22; exact o22
  have F15 : From w.heap.size v22 := LocV.from l22 (Mod.size (E13)) (F8)
  have B17 := (B12).ext (e21)
  have N16 : v22.ownBlock ≠ some b1 := LocV.ne l22 ((B17).lt) N9
  have E18 : Ext w w22 := Mod.from (E13) m22 (F8)
  refine WL.assign (v := v22) rfl rfl ?_
  refine WL.nil ?_
  refine WC.seq ?_
  refine WC.seq ?_
  refine WC.region ?_
  refine WL.assign (v := IN (0)) rfl rfl ?_
  refine WL.nil ?_
  refine WC.block ?_
  refine WC.loop (fun k f w_ => ∃ i v, (k + i = I.syms.length) ∧ f 0 = .agg #[.int .i64 (I.entry), sv, wv] ∧ f 1 = ptr b1 0 ∧ f 2 = .slice none 0 0 ∧ f 3 = .bool (false) ∧ f 4 = v ∧ f 5 = IN (i) ∧ f 7 = .agg #[.int .i64 (I.entry), sv, wv] ∧ f 8 = .bool (true) ∧ f 9 = .bool (false) ∧ f 10 = .slice (some ⟨b10, 0, none⟩) 4 4 ∧ f 11 = .slice (some ⟨b10, 0, none⟩) 4 4 ∧ f 12 = .slice (some ⟨b10, 0, none⟩) 4 4 ∧ f 13 = ptr b1 0 ∧ f 14 = .int .i64 (I.entry) ∧ f 15 = v15 ∧ f 16 = v16 ∧ f 17 = v16 ∧ f 18 = ptr b1 1 ∧ f 19 = sv ∧ f 20 = IN (I.syms.length) ∧ f 21 = v21 ∧ f 22 = v22 ∧ (Ext w w_) ∧ (Blk w_ b1 #[.int .i64 I.entry, sv, wv] 33) ∧ (Own w_ 1 v (bytesTo I i).length (bs (bytesTo I i))) ∧ (From w.heap.size v) ∧ (v.ownBlock ≠ some b1)) (I.syms.length) ?_ ?_
  have B19 := (B17).mod (m22) (N9)
  · exact ⟨(0), (v22), by omega, rfl, rfl, rfl, rfl, rfl, rfl, rfl, rfl, rfl, rfl, rfl, rfl, rfl, rfl, rfl, rfl, rfl, rfl, rfl, rfl, rfl, rfl, E18, B19, by rw [bytesTo_zero, headOf_length]; exact o22b, F15, N16⟩
  rintro ka f1 wr ⟨i, v, hk1, h0_1, h1_1, h2_1, h3_1, h4_1, h5_1, h7_1, h8_1, h9_1, h10_1, h11_1, h12_1, h13_1, h14_1, h15_1, h16_1, h17_1, h18_1, h19_1, h20_1, h21_1, h22_1, hE, hB, hO, hF, hn⟩
  refine WC.seq ?_
  refine WC.seq ?_
  refine WC.region ?_
  refine WL.move (v := IN (i)) h5_1 rfl ?_
  refine WL.fieldAddr h1_1 fo33_1 rfl ?_
  refine WL.load1 rfl ag31 (hB.cell (j := 1) rfl) rfl ?_
  refine WL.lenSl (sz := 2) (m := I.syms.length) (xs := symCells I.syms) el31 rfl ((hR.s).ext' (hE)) rfl ?_
  refine WL.bin rfl rfl rfl (BinR.lss) ?_
  refine WL.nil ?_
  refine WC.cond rfl (fun hc27 => ?_) (fun hc27 => ?_)
  · have hi : i < I.syms.length := by have := of_decide_eq_true hc27; omega
    obtain ⟨bs0, os0, cs0, es0, hcs0⟩ := hR.s.at (by omega)
    have hnl := hb3 _ (List.getElem_mem hi)
    have hle := bytesTo_le I hb3 i (by omega)
    refine WC.skip ?_
    refine WC.seq ?_
    refine WC.block ?_
    refine WC.seq ?_
    refine WC.region ?_
    refine WL.move (v := v) h4_1 rfl ?_
    refine WL.fieldAddr h1_1 fo33_1 rfl ?_
    refine WL.load1 rfl ag31 (hB.cell (j := 1) rfl) rfl ?_
    refine WL.move (v := IN (i)) h5_1 rfl ?_
    refine WL.indexAddr (i := i) (b := bs0) (o := os0) el31 sz54 (Eq.trans (rfl) es0) rfl (by omega) rfl ?_
    refine WL.fieldAddr rfl fo54_0 rfl ?_
    refine WL.load1 rfl ag9 ((hcs0.ext (hE)) (i * 2) _ (symCells_get I.syms i (by omega)).1) rfl ?_
    refine WL.lenSt Try.underlying9 rfl rfl ?_
    refine WL.conv rfl rfl (conv_u8 Try.underlying3 Try.underlying5 _) ?_
    refine WL.buildSlice (vs := [(0, .int .u8 (((dig (((I.syms[i]).1.length : Nat) : Int) 0).toNat : Int)))]) rfl (bls9_39 ((dig (((I.syms[i]).1.length : Nat) : Int) 0).toNat : Int)) rfl ?_
    intro b39 w39 n39
    have R20 : Ext wr w39 := Mod.trans (Mod.refl _ _) (n39.ext)
    have E21 : Ext w w39 := Mod.trans (hE) (n39.ext)
    have O22 := (hO).ext (n39.ext)
    refine WL.append (k := (bytesTo I i).length) (m := 1) (xs := bs (bytesTo I i)) (news := bs [dig (((I.syms[i]).1.length : Nat) : Int) 0]) ap28 rfl rfl rfl (O22) (Src.ofSlice _ Try.underlying28 ⟨b39, 0, none⟩ 1 1 _ rfl (fun j u hj => by rw [addr_add]; exact (n39.blk).cells j u hj) (bs_one _)) (by omega) (by omega) rfl ?_
    intro v40 w40 o40 m40 l40
    have o40b : Own w40 1 v40 ((bytesTo I i).length + 1) (bs (bytesTo I i ++ be 1 (((I.syms[i]).1.length : Nat) : Int))) := by rw [← bs_append] at o40; exact o40
    have F23 : From w.heap.size v40 := LocV.from l40 (Mod.size (E21)) (hF)
    have B25 := (hB).ext (n39.ext)
    have N24 : v40.ownBlock ≠ some b1 := LocV.ne l40 ((B25).lt) hn
    have E26 : Ext w w40 := Mod.from (E21) m40 (hF)
    refine WL.assign (v := v40) rfl rfl ?_
    refine WL.nil ?_
    refine WC.seq ?_
    refine WC.region ?_
    refine WL.move (v := v40) rfl rfl ?_
    refine WL.fieldAddr h1_1 fo33_1 rfl ?_
    have B27 := (B25).mod (m40) (hn)
    refine WL.load1 rfl ag31 (B27.cell (j := 1) rfl) rfl ?_
    refine WL.move (v := IN (i)) h5_1 rfl ?_
    refine WL.indexAddr (i := i) (b := bs0) (o := os0) el31 sz54 (Eq.trans (rfl) es0) rfl (by omega) rfl ?_
    refine WL.fieldAddr rfl fo54_0 rfl ?_
    refine WL.load1 rfl ag9 ((hcs0.ext (E26)) (i * 2) _ (symCells_get I.syms i (by omega)).1) rfl ?_
    refine WL.toBytes (bl := (I.syms[i]).1) Try.underlying9 Try.underlying28 Try.underlying5 rfl rfl ?_
    intro v48 w48 o48 e48 f48
    have E28 : Ext w w48 := Mod.trans (E26) (e48)
    have F29 : From w.heap.size v48 := fun g hg => Nat.le_trans (Mod.size (E26)) (f48 g hg)
    have N30 : v48.ownBlock ≠ some b1 := From.ne f48 (B27).lt
    have O32 := (o40b).ext (e48)
    refine WL.append (k := (bytesTo I i).length + 1) (m := (I.syms[i]).1.length) (xs := bs (bytesTo I i ++ be 1 (((I.syms[i]).1.length : Nat) : Int))) (news := bs ((I.syms[i]).1)) ap28 rfl rfl rfl (O32) ((o48).sl.src Try.underlying28 (bs_one _)) (by omega) (by omega) rfl ?_
    intro v49 w49 o49 m49 l49
    have o49b : Own w49 1 v49 ((bytesTo I i).length + 1 + (I.syms[i]).1.length) (bs (bytesTo I i ++ be 1 (((I.syms[i]).1.length : Nat) : Int) ++ (I.syms[i]).1)) := by rw [← bs_append] at o49; exact o49
    have F33 : From w.heap.size v49 := LocV.from l49 (Mod.size (E28)) (F23)
    have B35 := (B27).ext (e48)
    have N34 : v49.ownBlock ≠ some b1 := LocV.ne l49 ((B35).lt) N24
    have E36 : Ext w w49 := Mod.from (E28) m49 (F23)
    refine WL.assign (v := v49) rfl rfl ?_
    refine WL.nil ?_
    refine WC.region ?_
    refine WL.move (v := v49) rfl rfl ?_
    refine WL.fieldAddr h1_1 fo33_1 rfl ?_
    have B37 := (B35).mod (m49) (N24)
    refine WL.load1 rfl ag31 (B37.cell (j := 1) rfl) rfl ?_
    refine WL.move (v := IN (i)) h5_1 rfl ?_
    refine WL.indexAddr (i := i) (b := bs0) (o := os0) el31 sz54 (Eq.trans (rfl) es0) rfl (by omega) rfl ?_
    refine WL.fieldAddr rfl fo54_1 rfl ?_
    refine WL.load1 rfl ag3 ((hcs0.ext (E36)) (i * 2 + 1) _ (symCells_get I.syms i (by omega)).2) rfl ?_
    refine WL.call ca19 (rfl) rfl (number_spec ((I.syms[i]).2) 4 _ (by decide)) ?_
    rintro v57 wd57 ⟨o57, e57, f57⟩
    have E38 : Ext w wd57 := Mod.trans (E36) (e57)
    have O39 := (o49b).ext (e57)
    refine WL.append (k := (bytesTo I i).length + 1 + (I.syms[i]).1.length) (m := 4) (xs := bs (bytesTo I i ++ be 1 (((I.syms[i]).1.length : Nat) : Int) ++ (I.syms[i]).1)) (news := bs (be 4 ((I.syms[i]).2))) ap28 rfl rfl rfl (O39) ((o57).sl.src Try.underlying28 (bs_one _)) (by omega) (by omega) rfl ?_
    intro v58 w58 o58 m58 l58
    have o58b : Own w58 1 v58 ((bytesTo I (i + 1)).length) (bs (bytesTo I (i + 1))) := by rw [← bs_append, ← bytesTo_step I i hi, ← bytesTo_len I i hi] at o58; exact o58
    have F40 : From w.heap.size v58 := LocV.from l58 (Mod.size (E38)) (F33)
    have B42 := (B37).ext (e57)
    have N41 : v58.ownBlock ≠ some b1 := LocV.ne l58 ((B42).lt) N34
    have E43 : Ext w w58 := Mod.from (E38) m58 (F33)
    refine WL.assign (v := v58) rfl rfl ?_
    refine WL.nil ?_
    refine WC.region ?_
    refine WL.move (v := IN (i)) h5_1 rfl ?_
    refine WL.bin rfl rfl rfl (BinR.succN (by omega)) ?_
    refine WL.assign (v := IN (i + 1)) rfl rfl ?_
    refine WL.nil ?_
    have B44 := (B42).mod (m58) (N34)
    exact ⟨ka - 1, by omega, (i + 1), (v58), by omega, h0_1, h1_1, h2_1, h3_1, rfl, rfl, h7_1, h8_1, h9_1, h10_1, h11_1, h12_1, h13_1, h14_1, h15_1, h16_1, h17_1, h18_1, h19_1, h20_1, h21_1, h22_1, E43, B44, o58b, F40, N41⟩
  · have hi : I.syms.length ≤ i := by have := of_decide_eq_false hc27; omega
    have hix : i = I.syms.length := by omega
    have hle3 := bytesTo_le I hb3 i (by omega)
    refine WC.exit ?_
    refine WC.seq ?_
    refine WC.region ?_
    refine WL.move (v := v) h4_1 rfl ?_
    refine WL.fieldAddr h1_1 fo33_2 rfl ?_
    refine WL.load1 rfl ag23 (hB.cell (j := 2) rfl) rfl ?_
    refine WL.lenSl (sz := 1) (m := I.words.length) (xs := wordCells I.words) el23 rfl ((hR.w).ext' (hE)) rfl ?_
    refine WL.call ca19 (rfl) rfl (number_spec (((I.words.length : Nat) : Int)) 4 _ (by decide)) ?_
    rintro v63 wd63 ⟨o63, e63, f63⟩
    have R45 : Ext wr wd63 := Mod.trans (Mod.refl _ _) (e63)
    have E46 : Ext w wd63 := Mod.trans (hE) (e63)
    have O47 := (hO).ext (e63)
    refine WL.append (k := (bytesTo I i).length) (m := 4) (xs := bs (bytesTo I i)) (news := bs (be 4 (((I.words.length : Nat) : Int)))) ap28 rfl rfl rfl (O47) ((o63).sl.src Try.underlying28 (bs_one _)) (by omega) (by omega) rfl ?_
    intro v64 w64 o64 m64 l64
    have o64b : Own w64 1 v64 ((codeTo I 0).length) (bs (codeTo I 0)) := by rw [← bs_append, hix, ← codeTo_zero, show (bytesTo I I.syms.length).length + 4 = (codeTo I 0).length by rw [codeTo_zero, List.length_append, be_length]] at o64; exact o64
    have F48 : From w.heap.size v64 := LocV.from l64 (Mod.size (E46)) (hF)
    have B50 := (hB).ext (e63)
    have N49 : v64.ownBlock ≠ some b1 := LocV.ne l64 ((B50).lt) hn
    have E51 : Ext w w64 := Mod.from (E46) m64 (hF)
    refine WL.assign (v := v64) rfl rfl ?_
    refine WL.nil ?_
    refine WC.seq ?_
    refine WC.seq ?_
    refine WC.region ?_
    refine WL.assign (v := IN (0)) rfl rfl ?_
    refine WL.nil ?_
    refine WC.block ?_
    refine WC.loop (fun k f w_ => ∃ i v, (k + i = I.words.length) ∧ f 0 = .agg #[.int .i64 (I.entry), sv, wv] ∧ f 1 = ptr b1 0 ∧ f 2 = .slice none 0 0 ∧ f 3 = .bool (false) ∧ f 4 = v ∧ f 6 = IN (i) ∧ f 7 = .agg #[.int .i64 (I.entry), sv, wv] ∧ f 8 = .bool (true) ∧ f 9 = .bool (false) ∧ f 10 = .slice (some ⟨b10, 0, none⟩) 4 4 ∧ f 11 = .slice (some ⟨b10, 0, none⟩) 4 4 ∧ f 12 = .slice (some ⟨b10, 0, none⟩) 4 4 ∧ f 13 = ptr b1 0 ∧ f 14 = .int .i64 (I.entry) ∧ f 15 = v15 ∧ f 16 = v16 ∧ f 17 = v16 ∧ f 18 = ptr b1 1 ∧ f 19 = sv ∧ f 20 = IN (I.syms.length) ∧ f 21 = v21 ∧ f 22 = v22 ∧ f 24 = ptr b1 1 ∧ f 25 = sv ∧ f 26 = IN (I.syms.length) ∧ f 60 = ptr b1 2 ∧ f 61 = wv ∧ f 62 = IN (I.words.length) ∧ f 63 = v63 ∧ f 64 = v64 ∧ (Ext w w_) ∧ (Blk w_ b1 #[.int .i64 I.entry, sv, wv] 33) ∧ (Own w_ 1 v (codeTo I i).length (bs (codeTo I i))) ∧ (From w.heap.size v) ∧ (v.ownBlock ≠ some b1)) (I.words.length) ?_ ?_
    have B52 := (B50).mod (m64) (hn)
    · exact ⟨(0), (v64), by omega, h0_1, h1_1, h2_1, h3_1, rfl, rfl, h7_1, h8_1, h9_1, h10_1, h11_1, h12_1, h13_1, h14_1, h15_1, h16_1, h17_1, h18_1, h19_1, h20_1, h21_1, h22_1, rfl, rfl, rfl, rfl, rfl, rfl, rfl, rfl, E51, B52, o64b, F48, N49⟩
    rintro ka f2 wr ⟨i, v, hk1, h0_2, h1_2, h2_2, h3_2, h4_2, h6_2, h7_2, h8_2, h9_2, h10_2, h11_2, h12_2, h13_2, h14_2, h15_2, h16_2, h17_2, h18_2, h19_2, h20_2, h21_2, h22_2, h24_2, h25_2, h26_2, h60_2, h61_2, h62_2, h63_2, h64_2, hE, hB, hO, hF, hn⟩
    refine WC.seq ?_
    refine WC.seq ?_
    refine WC.region ?_
    refine WL.move (v := IN (i)) h6_2 rfl ?_
    refine WL.fieldAddr h1_2 fo33_2 rfl ?_
    refine WL.load1 rfl ag23 (hB.cell (j := 2) rfl) rfl ?_
    refine WL.lenSl (sz := 1) (m := I.words.length) (xs := wordCells I.words) el23 rfl ((hR.w).ext' (hE)) rfl ?_
    refine WL.bin rfl rfl rfl (BinR.lss) ?_
    refine WL.nil ?_
    refine WC.cond rfl (fun hc69 => ?_) (fun hc69 => ?_)
    · have hi : i < I.words.length := by have := of_decide_eq_true hc69; omega
      obtain ⟨bw0, ow0, cw0, ew0, hcw0⟩ := hR.w.at (by omega)
      have hwl := (I.words[i]).isLt
      have hle := codeTo_le I i (by omega)
      have hle2 := bytesTo_le I hb3 I.syms.length (by omega)
      refine WC.skip ?_
      refine WC.seq ?_
      refine WC.block ?_
      refine WC.region ?_
      refine WL.move (v := v) h4_2 rfl ?_
      refine WL.fieldAddr h1_2 fo33_2 rfl ?_
      refine WL.load1 rfl ag23 (hB.cell (j := 2) rfl) rfl ?_
      refine WL.move (v := IN (i)) h6_2 rfl ?_
      refine WL.indexAddr (i := i) (b := bw0) (o := ow0) el23 sz42 (Eq.trans (rfl) ew0) rfl (by omega) rfl ?_
      refine WL.load1 rfl ag42 ((hcw0.ext (hE)) (i * 1) _ (by rw [Nat.mul_one]; exact word_get I.words i (by omega))) rfl ?_
      refine WL.conv (v := .int .i64 ((I.words[i]).toNat)) rfl rfl (ConvR.toI Try.underlying42 Try.underlying3 (by omega)) ?_
      refine WL.call ca19 (rfl) rfl (number_spec (((I.words[i]).toNat : Int)) 4 _ (by decide)) ?_
      rintro v79 wd79 ⟨o79, e79, f79⟩
      have R53 : Ext wr wd79 := Mod.trans (Mod.refl _ _) (e79)
      have E54 : Ext w wd79 := Mod.trans (hE) (e79)
      have O55 := (hO).ext (e79)
      refine WL.append (k := (codeTo I i).length) (m := 4) (xs := bs (codeTo I i)) (news := bs (be 4 ((I.words[i]).toNat : Int))) ap28 rfl rfl rfl (O55) ((o79).sl.src Try.underlying28 (bs_one _)) (by omega) (by omega) rfl ?_
      intro v80 w80 o80 m80 l80
      have o80b : Own w80 1 v80 ((codeTo I (i + 1)).length) (bs (codeTo I (i + 1))) := by rw [← bs_append, ← codeTo_step I i hi, ← codeTo_len I i hi] at o80; exact o80
      have F56 : From w.heap.size v80 := LocV.from l80 (Mod.size (E54)) (hF)
      have B58 := (hB).ext (e79)
      have N57 : v80.ownBlock ≠ some b1 := LocV.ne l80 ((B58).lt) hn
      have E59 : Ext w w80 := Mod.from (E54) m80 (hF)
      refine WL.assign (v := v80) rfl rfl ?_
      refine WL.nil ?_
      refine WC.region ?_
      refine WL.move (v := IN (i)) h6_2 rfl ?_
      refine WL.bin rfl rfl rfl (BinR.succN (by omega)) ?_
      refine WL.assign (v := IN (i + 1)) rfl rfl ?_
      refine WL.nil ?_
      have B60 := (B58).mod (m80) (hn)
      exact ⟨ka - 1, by omega, (i + 1), (v80), by omega, h0_2, h1_2, h2_2, h3_2, rfl, rfl, h7_2, h8_2, h9_2, h10_2, h11_2, h12_2, h13_2, h14_2, h15_2, h16_2, h17_2, h18_2, h19_2, h20_2, h21_2, h22_2, h24_2, h25_2, h26_2, h60_2, h61_2, h62_2, h63_2, h64_2, E59, B60, o80b, F56, N57⟩
    · have hi : I.words.length ≤ i := by have := of_decide_eq_false hc69; omega
      refine WC.exit ?_
      refine WC.seq ?_
      refine WC.region ?_
      refine WL.move (v := v) h4_2 rfl ?_
      refine WL.assign (v := v) rfl rfl ?_
      refine WL.assign (v := .bool (true)) rfl rfl ?_
      refine WL.nil ?_
      refine WC.ret ?_
      exact ⟨_, Res.two (v := v) (v' := .bool (true)) rfl rfl rfl, v, rfl, (by have h := hO; rw [show i = I.words.length by omega, codeTo_all] at h; exact h), hF, hE⟩
end Go.Proofs.I
