import Derived.Test.YtljcijdkoncodaaImgBig
import Derived.Test.YtljcijdkoncodaaRows
import Derived.Test.YtljcijdkoncodaaImY5
set_option linter.unusedSimpArgs false
set_option linter.unusedVariables false
namespace Go.Proofs.I
open Go Go.Ux Go.Ux.Image Go.Proofs
theorem ag25 : isAggT Try.prog 25 = some true := by kernel_rfl
theorem sz25 : sizeT Try.prog 25 = some 3 := by kernel_rfl
theorem ca12 : callable Try.prog 12 = true := by kernel_rfl
theorem bls11_12  : ∀ w : World, (Instr.buildSlice 28 4 #[(0, .int .u8 (80)), (1, .int .u8 (77)), (2, .int .u8 (73)), (3, .int .u8 (49))]).run Try.prog w = .ok (.slice (some ⟨w.heap.size, 0, none⟩) 4 4) (w.alloc (.cells #[.int .u8 (80), .int .u8 (77), .int .u8 (73), .int .u8 (49)] 5)) := fun _ => by kernel_rfl
theorem bls11_16 (z : Int) : ∀ w : World, (Instr.buildSlice 73 1 #[(0, .int .i64 (z))]).run Try.prog w = .ok (.slice (some ⟨w.heap.size, 0, none⟩) 1 1) (w.alloc (.cells #[.int .i64 (z)] 3)) := fun _ => by kernel_rfl
theorem ca20 : callable Try.prog 20 = true := by kernel_rfl
theorem bls11_22 (z : Int) : ∀ w : World, (Instr.buildSlice 73 1 #[(0, .int .i64 (z))]).run Try.prog w = .ok (.slice (some ⟨w.heap.size, 0, none⟩) 1 1) (w.alloc (.cells #[.int .i64 (z)] 3)) := fun _ => by kernel_rfl
theorem zt49 : zeroT Try.prog 49 = some #[.string ⟨#[]⟩, .int .i64 0] := by kernel_rfl
theorem bls11_35 (z : Int) : ∀ w : World, (Instr.buildSlice 73 1 #[(0, .int .i64 (z))]).run Try.prog w = .ok (.slice (some ⟨w.heap.size, 0, none⟩) 1 1) (w.alloc (.cells #[.int .i64 (z)] 3)) := fun _ => by kernel_rfl
theorem bls11_42 (z : Int) : ∀ w : World, (Instr.buildSlice 73 1 #[(0, .int .i64 (z))]).run Try.prog w = .ok (.slice (some ⟨w.heap.size, 0, none⟩) 1 1) (w.alloc (.cells #[.int .i64 (z)] 3)) := fun _ => by kernel_rfl
theorem bls11_49 (z : Int) : ∀ w : World, (Instr.buildSlice 73 1 #[(0, .int .i64 (z))]).run Try.prog w = .ok (.slice (some ⟨w.heap.size, 0, none⟩) 1 1) (w.alloc (.cells #[.int .i64 (z)] 3)) := fun _ => by kernel_rfl
theorem bls11_61 (z : Int) : ∀ w : World, (Instr.buildSlice 73 1 #[(0, .int .i64 (z))]).run Try.prog w = .ok (.slice (some ⟨w.heap.size, 0, none⟩) 1 1) (w.alloc (.cells #[.int .i64 (z)] 3)) := fun _ => by kernel_rfl

theorem bytesTo_ge (I : Img) (i : Nat) : 10 ≤ (bytesTo I i).length := by
  unfold bytesTo; rw [List.length_append, headOf_length]; omega
theorem codeTo_ge (I : Img) (i : Nat) : 10 ≤ (codeTo I i).length := by
  have := bytesTo_ge I I.syms.length
  unfold codeTo; rw [List.length_append, List.length_append]; omega

theorem put_no (sv wv : Value) (I : Img) (w : World) (hR : Rep w sv wv I) (hN : ∀ s ∈ I.syms, s.1.length ≤ 1000000000 ∧ s.2 ≤ 9223372036854775807) (hr : rightB I = false) : CallsR Try.prog 11 #[.agg #[.int .i64 (I.entry), sv, wv]] w (fun v w' => v = .tuple #[.slice none 0 0, .int .i64 2] ∧ Ext w w') := by
  refine callsR_of Try.func11 rfl rfl rfl ?_
  refine WC.seq ?_
  refine WC.region ?_
  refine WL.box (v := .agg #[.int .i64 (I.entry), sv, wv]) rfl rfl ?_
  intro b1 w1 n1
  have E1 : Ext w w1 := Mod.trans (Mod.refl _ _) (n1.ext)
  refine WL.assign (v := .slice none 0 0) rfl rfl ?_
  refine WL.assign (v := IN (0)) rfl rfl ?_
  refine WL.nil ?_
  refine WC.seq ?_
  refine WC.seq ?_
  refine WC.region ?_
  refine WL.loadS [.int .i64 (I.entry), sv, wv] rfl ag25 sz25 rfl (n1.blk.sub (o := 0) (vs := [.int .i64 (I.entry), sv, wv]) rfl) rfl ?_
  refine WL.call ca12 (rfl) rfl (right_spec sv wv I _ (hR.ext (E1)) hN) ?_
  rintro _ wd10 ⟨rfl, ed10⟩
  rw [hr]
  have E2 : Ext w wd10 := Mod.trans (E1) (ed10)
  refine WL.un rfl rfl UnR.not ?_
  refine WL.nil ?_
  refine WC.condT rfl ?_
  refine WC.seq ?_
  refine WC.region ?_
  refine WL.assign (v := .slice none 0 0) rfl rfl ?_
  refine WL.assign (v := IN (2)) rfl rfl ?_
  refine WL.nil ?_
  refine WC.ret ?_
  exact ⟨_, Res.two (v := .slice none 0 0) (v' := IN (2)) rfl rfl rfl, rfl, E2⟩

theorem put_ok (sv wv : Value) (I : Img) (w : World) (hR : Rep w sv wv I) (hN : ∀ s ∈ I.syms, s.1.length ≤ 1000000000 ∧ s.2 ≤ 9223372036854775807) (hr : rightB I = true) : CallsR Try.prog 11 #[.agg #[.int .i64 (I.entry), sv, wv]] w (fun v w' => ∃ u, v = .tuple #[u, .int .i64 0] ∧ Own w' 1 u (bytesOf I).length (bs (bytesOf I)) ∧ From w.heap.size u ∧ Ext w w') := by
  have hI1 := hR.ls
  have hI2 := hR.lw
  obtain ⟨hb1, hb2, hb3, hb4, hb5, hb6, hb7, hb8⟩ := right_bounds hr
  refine callsR_of Try.func11 rfl rfl rfl ?_
  refine WC.seq ?_
  refine WC.region ?_
  refine WL.box (v := .agg #[.int .i64 (I.entry), sv, wv]) rfl rfl ?_
  intro b1 w1 n1
  have E1 : Ext w w1 := Mod.trans (Mod.refl _ _) (n1.ext)
  refine WL.assign (v := .slice none 0 0) rfl rfl ?_
  refine WL.assign (v := IN (0)) rfl rfl ?_
  refine WL.nil ?_
  refine WC.seq ?_
  refine WC.seq ?_
  refine WC.region ?_
  refine WL.loadS [.int .i64 (I.entry), sv, wv] rfl ag25 sz25 rfl (n1.blk.sub (o := 0) (vs := [.int .i64 (I.entry), sv, wv]) rfl) rfl ?_
  refine WL.call ca12 (rfl) rfl (right_spec sv wv I _ (hR.ext (E1)) hN) ?_
  rintro _ wd10 ⟨rfl, ed10⟩
  rw [hr]
  have E2 : Ext w wd10 := Mod.trans (E1) (ed10)
  refine WL.un rfl rfl UnR.not ?_
  refine WL.nil ?_
  refine WC.condF rfl ?_
  refine WC.skip ?_
  refine WC.seq ?_
  refine WC.region ?_
  refine WL.buildSlice (vs := [(0, .int .u8 (80)), (1, .int .u8 (77)), (2, .int .u8 (73)), (3, .int .u8 (49))]) rfl (bls11_12) rfl ?_
  intro b12 w12 n12
  have E3 : Ext w w12 := Mod.trans (E2) (n12.ext)
  have hgeb12 : w.heap.size ≤ b12 := by have := (E2).size; have := n12.num; omega
  refine WL.bytesConst (bl := magic) Try.underlying28 Try.underlying5 rfl rfl (n12.blk) rfl ?_
  intro wq oq mq
  have hl_b1 : b1 < b12 := by have := (((n1.blk).ext (ed10))).lt; have := n12.num; omega
  have nq_b1 : (.slice (some ⟨b12, 0, none⟩) 4 4 : Value).ownBlock ≠ some b1 := ne_slice hl_b1
  have E4 : Ext w wq := Mod.own (E2) n12 (E3) (mq)
  refine WL.fieldAddr rfl fo25_0 rfl ?_
  have B5 := (((n1.blk).ext (ed10)).ext (n12.ext)).mod (mq) ((by omega))
  refine WL.load1 rfl ag3 (B5.cell (j := 0) rfl) rfl ?_
  refine WL.buildSlice (vs := [(0, .int .i64 (I.entry))]) rfl (bls11_16 (I.entry)) rfl ?_
  intro b16 w16 n16
  have N6 : (.slice (some ⟨b12, 0, none⟩) 4 4 : Value).ownBlock ≠ some b16 := fun e => by have := (oq).lt (by omega) (by decide) e; have := n16.num; omega
  have E7 : Ext w w16 := Mod.trans (E4) (n16.ext)
  have O8 := (oq).ext (n16.ext)
  refine WL.call ca20 (rfl) rfl (puts_spec (.slice (some ⟨b12, 0, none⟩) 4 4) 4 (4) (bs magic) b16 (I.entry) _ (by decide) (by omega) O8 n16.blk N6) ?_
  rintro v17 w17 ⟨o17, m17, l17⟩
  have o17b : Own w17 1 v17 (8) (bs (magic ++ be 4 I.entry)) := by rw [← bs_append] at o17; exact o17
  have F9 : From w.heap.size v17 := LocV.from l17 (Mod.size (E7)) (From.slice hgeb12)
  have B11 := (B5).ext (n16.ext)
  have N10 : v17.ownBlock ≠ some b1 := LocV.ne l17 ((B11).lt) nq_b1
  have N12 : v17.ownBlock ≠ some b16 := LocV.ne l17 ((n16.blk).lt) N6
  have E13 : Ext w w17 := Mod.from (E7) m17 (From.slice hgeb12)
  refine WL.assign (v := v17) rfl rfl ?_
  refine WL.nil ?_
  refine WC.seq ?_
  refine WC.region ?_
  refine WL.move (v := v17) rfl rfl ?_
  refine WL.fieldAddr rfl fo25_1 rfl ?_
  have B14 := (B11).mod (m17) (nq_b1)
  refine WL.load1 rfl ag22 (B14.cell (j := 1) rfl) rfl ?_
  refine WL.lenSl (sz := 2) (m := I.syms.length) (xs := symCells I.syms) el22 rfl ((hR.s).ext' (E13)) rfl ?_
  refine WL.buildSlice (vs := [(0, IN (I.syms.length))]) rfl (bls11_22 (((I.syms.length : Nat) : Int))) rfl ?_
  intro b22 w22 n22
  have N15 : (v17 : Value).ownBlock ≠ some b22 := fun e => by have := (o17b).lt (by omega) (by decide) e; have := n22.num; omega
  have E16 : Ext w w22 := Mod.trans (E13) (n22.ext)
  have O17 := (o17b).ext (n22.ext)
  refine WL.call ca20 (rfl) rfl (puts_spec (v17) 2 (8) (bs (magic ++ be 4 I.entry)) b22 (((I.syms.length : Nat) : Int)) _ (by decide) (by omega) O17 n22.blk N15) ?_
  rintro v23 w23 ⟨o23, m23, l23⟩
  have o23b : Own w23 1 v23 (10) (bs (headOf I)) := by rw [← bs_append] at o23; exact o23
  have F18 : From w.heap.size v23 := LocV.from l23 (Mod.size (E16)) (F9)
  have B20 := (B14).ext (n22.ext)
  have N19 : v23.ownBlock ≠ some b1 := LocV.ne l23 ((B20).lt) N10
  have B22 := ((n16.blk).mod (m17) (N6)).ext (n22.ext)
  have N21 : v23.ownBlock ≠ some b16 := LocV.ne l23 ((B22).lt) N12
  have N23 : v23.ownBlock ≠ some b22 := LocV.ne l23 ((n22.blk).lt) N15
  have E24 : Ext w w23 := Mod.from (E16) m23 (F9)
  refine WL.assign (v := v23) rfl rfl ?_
  refine WL.nil ?_
  refine WC.seq ?_
  refine WC.seq ?_
  refine WC.region ?_
  refine WL.fieldAddr rfl fo25_1 rfl ?_
  have B25 := (B20).mod (m23) (N10)
  refine WL.load1 rfl ag22 (B25.cell (j := 1) rfl) rfl ?_
  refine WL.lenSl (sz := 2) (m := I.syms.length) (xs := symCells I.syms) el22 rfl ((hR.s).ext' (E24)) rfl ?_
  refine WL.move (v := IN (0)) rfl rfl ?_
  refine WL.nil ?_
  refine WC.block ?_
  refine WC.loop (fun k f w_ => ∃ i v, (k + i = I.syms.length) ∧ f 0 = .agg #[.int .i64 (I.entry), sv, wv] ∧ f 1 = ptr b1 0 ∧ f 2 = .slice none 0 0 ∧ f 3 = IN (0) ∧ f 4 = v ∧ f 9 = .agg #[.int .i64 (I.entry), sv, wv] ∧ f 10 = .bool (true) ∧ f 11 = .bool (false) ∧ f 12 = .slice (some ⟨b12, 0, none⟩) 4 4 ∧ f 13 = .slice (some ⟨b12, 0, none⟩) 4 4 ∧ f 14 = ptr b1 0 ∧ f 15 = .int .i64 (I.entry) ∧ f 16 = .slice (some ⟨b16, 0, none⟩) 1 1 ∧ f 17 = v17 ∧ f 18 = v17 ∧ f 19 = ptr b1 1 ∧ f 20 = sv ∧ f 21 = IN (I.syms.length) ∧ f 22 = .slice (some ⟨b22, 0, none⟩) 1 1 ∧ f 23 = v23 ∧ f 24 = ptr b1 1 ∧ f 25 = sv ∧ f 26 = IN (I.syms.length) ∧ f 27 = IN (i) ∧ (Ext w w_) ∧ (Blk w_ b1 #[.int .i64 I.entry, sv, wv] 25) ∧ (Own w_ 1 v (bytesTo I i).length (bs (bytesTo I i))) ∧ (From w.heap.size v) ∧ (v.ownBlock ≠ some b1)) (I.syms.length) ?_ ?_
  · exact ⟨(0), (v23), by omega, rfl, rfl, rfl, rfl, rfl, rfl, rfl, rfl, rfl, rfl, rfl, rfl, rfl, rfl, rfl, rfl, rfl, rfl, rfl, rfl, rfl, rfl, rfl, rfl, E24, B25, by rw [bytesTo_zero, headOf_length]; exact o23b, F18, N19⟩
  rintro ka f1 wr ⟨i, v, hk1, h0_1, h1_1, h2_1, h3_1, h4_1, h9_1, h10_1, h11_1, h12_1, h13_1, h14_1, h15_1, h16_1, h17_1, h18_1, h19_1, h20_1, h21_1, h22_1, h23_1, h24_1, h25_1, h26_1, h27_1, hE, hB, hO, hF, hn⟩
  refine WC.seq ?_
  refine WC.region ?_
  refine WL.bin h27_1 h26_1 rfl (BinR.lss) ?_
  refine WL.nil ?_
  refine WC.seq ?_
  refine WC.cond rfl (fun hc28 => ?_) (fun hc28 => ?_)
  · have hi : i < I.syms.length := by have := of_decide_eq_true hc28; omega
    obtain ⟨bs0, os0, cs0, es0, hcs0⟩ := hR.s.at (by omega)
    have hnl := hb3 _ (List.getElem_mem hi)
    have hle := bytesTo_le I hb3 i (by omega)
    have hge := bytesTo_ge I i
    refine WC.skip ?_
    refine WC.seq ?_
    refine WC.block ?_
    refine WC.seq ?_
    refine WC.region ?_
    refine WL.indexAddr (i := i) (b := bs0) (o := os0) el22 sz49 (Eq.trans (h25_1) es0) h27_1 (by omega) rfl ?_
    refine WL.loadS [St (I.syms[i]).1, .int .i64 ((I.syms[i]).2)] rfl ag49 sz49 rfl (cells2 (hcs0.ext (hE)) ((symCells_get I.syms i (by omega))).1 ((symCells_get I.syms i (by omega))).2) rfl ?_
    refine WL.allocStore (v := .agg #[St (I.syms[i]).1, .int .i64 ((I.syms[i]).2)]) zt49 rfl sz49 rfl rfl rfl rfl ?_
    intro b6 w6 n6
    have N26 : (v : Value).ownBlock ≠ some b6 := fun e => by have := (hO).lt (by omega) (by decide) e; have := n6.num; omega
    have hl_b1_b6 : b1 < b6 := by have := (hB).lt; have := n6.num; omega
    have R27 : Ext wr w6 := Mod.trans (Mod.refl _ _) (n6.ext)
    have E28 : Ext w w6 := Mod.trans (hE) (n6.ext)
    refine WL.nil ?_
    refine WC.draw (fun w_ => Ext w w_ ∧ Blk w_ b6 #[St (I.syms[i]).1, .int .i64 (I.syms[i]).2] 49) 14 rfl mixed ?_
    intro wd_8 ed_8
    have R29 : Ext wr wd_8 := Mod.trans (R27) (ed_8)
    have E30 : Ext w wd_8 := Mod.trans (E28) (ed_8)
    have B31 := (n6.blk).ext (ed_8)
    refine WA.take (i := 0) (m' := 1) (v := v) rfl rfl rfl rfl (by kernel_rfl) rfl (fun _ _ _ h => h) (fun wx hS => ?_) (⟨E30, B31⟩) ?_
    · refine WL.move (v := v) h4_1 rfl ?_
      exact WL.nil ⟨rfl, rfl, rfl⟩
    refine WA.take (i := 1) (m' := 3) (v := ptr b6 0) rfl rfl rfl rfl (by kernel_rfl) rfl (fun _ _ _ h => h) (fun wx hS => ?_) (⟨E30, B31⟩) ?_
    · refine WL.fieldAddr rfl fo49_0 rfl ?_
      exact WL.nil ⟨rfl, rfl, rfl⟩
    refine WA.take (i := 2) (m' := 7) (v := St (I.syms[i]).1) rfl rfl rfl rfl (by kernel_rfl) rfl (fun _ _ _ h => h) (fun wx hS => ?_) (⟨E30, B31⟩) ?_
    · refine WL.load1 rfl ag9 (hS.2.cell (j := 0) rfl) rfl ?_
      exact WL.nil ⟨rfl, rfl, rfl⟩
    refine WA.take (i := 3) (m' := 15) (v := IN ((I.syms[i]).1.length)) rfl rfl rfl rfl (by kernel_rfl) rfl (fun _ _ _ h => h) (fun wx hS => ?_) (⟨E30, B31⟩) ?_
    · refine WL.lenSt Try.underlying9 rfl rfl ?_
      exact WL.nil ⟨rfl, rfl, rfl⟩
    refine WA.take (i := 6) (m' := 79) (v := ptr b6 0) rfl rfl rfl rfl (by kernel_rfl) rfl (fun _ _ _ h => h) (fun wx hS => ?_) (⟨E30, B31⟩) ?_
    · refine WL.fieldAddr rfl fo49_0 rfl ?_
      exact WL.nil ⟨rfl, rfl, rfl⟩
    refine WA.take (i := 7) (m' := 207) (v := St (I.syms[i]).1) rfl rfl rfl rfl (by kernel_rfl) rfl (fun _ _ _ h => h) (fun wx hS => ?_) (⟨E30, B31⟩) ?_
    · refine WL.load1 rfl ag9 (hS.2.cell (j := 0) rfl) rfl ?_
      exact WL.nil ⟨rfl, rfl, rfl⟩
    refine WA.take (i := 9) (m' := 719) (v := ptr b6 1) rfl rfl rfl rfl (by kernel_rfl) rfl (fun _ _ _ h => h) (fun wx hS => ?_) (⟨E30, B31⟩) ?_
    · refine WL.fieldAddr rfl fo49_1 rfl ?_
      exact WL.nil ⟨rfl, rfl, rfl⟩
    refine WA.take (i := 10) (m' := 1743) (v := .int .i64 ((I.syms[i]).2)) rfl rfl rfl rfl (by kernel_rfl) rfl (fun _ _ _ h => h) (fun wx hS => ?_) (⟨E30, B31⟩) ?_
    · refine WL.load1 rfl ag3 (hS.2.cell (j := 1) rfl) rfl ?_
      exact WL.nil ⟨rfl, rfl, rfl⟩
    refine WA.two (i := 4) (j := 11) (mi := 1759) (mj := 3791) (by kernel_rfl) rfl rfl rfl rfl ?_ ?_
    · have O32 := ((hO).ext (n6.ext)).ext (ed_8)
      refine WL.buildSlice (vs := [(0, IN ((I.syms[i]).1.length))]) rfl (bls11_35 ((((I.syms[i]).1.length : Nat) : Int))) rfl ?_
      intro b35 w35 n35
      have N33 : (v : Value).ownBlock ≠ some b35 := fun e => by have := (O32).lt (by omega) (by decide) e; have := n35.num; omega
      have R34 : Ext wr w35 := Mod.trans (R29) (n35.ext)
      have E35 : Ext w w35 := Mod.trans (E30) (n35.ext)
      have B36 := (B31).ext (n35.ext)
      refine WL.behind (⟨E35, B36⟩) ?_
      refine WA.two (i := 5) (j := 11) (mi := 1791) (mj := 3807) (by kernel_rfl) rfl rfl rfl rfl ?_ ?_
      · have O37 := (O32).ext (n35.ext)
        refine WL.call ca20 (rfl) rfl (puts_spec (v) 1 ((bytesTo I i).length) (bs (bytesTo I i)) b35 ((((I.syms[i]).1.length : Nat) : Int)) _ (by decide) (by omega) O37 n35.blk N33) ?_
        rintro v36 w36 ⟨o36, m36, l36⟩
        have o36b : Own w36 1 v36 ((bytesTo I i).length + 1) (bs (bytesTo I i ++ be 1 ((((I.syms[i]).1.length : Nat) : Int)))) := by rw [← bs_append] at o36; exact o36
        have F38 : From w.heap.size v36 := LocV.from l36 (Mod.size (E35)) (hF)
        have B40 := (((hB).ext (n6.ext)).ext (ed_8)).ext (n35.ext)
        have N39 : v36.ownBlock ≠ some b1 := LocV.ne l36 ((B40).lt) hn
        have N41 : v36.ownBlock ≠ some b6 := LocV.ne l36 ((B36).lt) N26
        have N42 : v36.ownBlock ≠ some b35 := LocV.ne l36 ((n35.blk).lt) N33
        have E43 : Ext w w36 := Mod.from (E35) m36 (hF)
        have B44 := (B36).mod (m36) (N26)
        refine WL.behind (⟨E43, B44⟩) ?_
        refine WA.two (i := 8) (j := 11) (mi := 2047) (mj := 3839) (by kernel_rfl) rfl rfl rfl rfl ?_ ?_
        · refine WL.append (k := (bytesTo I i).length + 1) (m := (I.syms[i]).1.length) (xs := bs (bytesTo I i ++ be 1 ((((I.syms[i]).1.length : Nat) : Int)))) (news := bs ((I.syms[i]).1)) ap28 rfl rfl rfl (o36b) (srcSt Try.underlying9 _) (by omega) (by omega) rfl ?_
          intro v39 w39 o39 m39 l39
          have o39b : Own w39 1 v39 ((bytesTo I i).length + 1 + (I.syms[i]).1.length) (bs (bytesTo I i ++ be 1 ((((I.syms[i]).1.length : Nat) : Int)) ++ (I.syms[i]).1)) := by rw [← bs_append] at o39; exact o39
          have F45 : From w.heap.size v39 := LocV.from l39 (Mod.size (E43)) (F38)
          have B47 := (B40).mod (m36) (hn)
          have N46 : v39.ownBlock ≠ some b1 := LocV.ne l39 ((B47).lt) N39
          have N48 : v39.ownBlock ≠ some b6 := LocV.ne l39 ((B44).lt) N41
          have B50 := (n35.blk).mod (m36) (N33)
          have N49 : v39.ownBlock ≠ some b35 := LocV.ne l39 ((B50).lt) N42
          have E51 : Ext w w39 := Mod.from (E43) m39 (F38)
          have B52 := (B44).mod (m39) (N41)
          refine WL.behind (⟨E51, B52⟩) ?_
          refine WA.one (i := 11) (m' := 4095) (by kernel_rfl) rfl rfl ?_
          refine WL.buildSlice (vs := [(0, .int .i64 ((I.syms[i]).2))]) rfl (bls11_42 ((I.syms[i]).2)) rfl ?_
          intro b42 w42 n42
          have N53 : (v39 : Value).ownBlock ≠ some b42 := fun e => by have := (o39b).lt (by omega) (by decide) e; have := n42.num; omega
          have E54 : Ext w w42 := Mod.trans (E51) (n42.ext)
          have B55 := (B52).ext (n42.ext)
          refine WL.behind (⟨E54, B55⟩) ?_
          refine WA.one (i := 12) (m' := 8191) (by kernel_rfl) rfl rfl ?_
          have O56 := (o39b).ext (n42.ext)
          refine WL.call ca20 (rfl) rfl (puts_spec (v39) 4 ((bytesTo I i).length + 1 + (I.syms[i]).1.length) (bs (bytesTo I i ++ be 1 ((((I.syms[i]).1.length : Nat) : Int)) ++ (I.syms[i]).1)) b42 ((I.syms[i]).2) _ (by decide) (by omega) O56 n42.blk N53) ?_
          rintro v43 w43 ⟨o43, m43, l43⟩
          have o43b : Own w43 1 v43 ((bytesTo I (i + 1)).length) (bs (bytesTo I (i + 1))) := by rw [← bs_append, ← bytesTo_step I i hi, ← bytesTo_len I i hi] at o43; exact o43
          have F57 : From w.heap.size v43 := LocV.from l43 (Mod.size (E54)) (F45)
          have B59 := ((B47).mod (m39) (N39)).ext (n42.ext)
          have N58 : v43.ownBlock ≠ some b1 := LocV.ne l43 ((B59).lt) N46
          have N60 : v43.ownBlock ≠ some b6 := LocV.ne l43 ((B55).lt) N48
          have B62 := ((B50).mod (m39) (N42)).ext (n42.ext)
          have N61 : v43.ownBlock ≠ some b35 := LocV.ne l43 ((B62).lt) N49
          have N63 : v43.ownBlock ≠ some b42 := LocV.ne l43 ((n42.blk).lt) N53
          have E64 : Ext w w43 := Mod.from (E54) m43 (F45)
          have B65 := (B55).mod (m43) (N48)
          refine WL.behind (⟨E64, B65⟩) ?_
          refine WA.take (i := 13) (m' := 16383) (v := v43) rfl rfl rfl rfl (by kernel_rfl) rfl (fun _ _ _ h => h) (fun wx hS => ?_) (⟨E64, B65⟩) ?_
          · refine WL.assign (v := v43) rfl rfl ?_
            exact WL.nil ⟨rfl, rfl, rfl⟩
          refine WA.done (by kernel_rfl) ?_
          refine WC.region ?_
          refine WL.bin h27_1 rfl rfl (BinR.succN (by omega)) ?_
          refine WL.move (v := IN (i + 1)) rfl rfl ?_
          refine WL.nil ?_
          have B66 := (B59).mod (m43) (N46)
          exact ⟨ka - 1, by omega, (i + 1), (v43), by omega, h0_1, h1_1, h2_1, h3_1, rfl, h9_1, h10_1, h11_1, h12_1, h13_1, h14_1, h15_1, h16_1, h17_1, h18_1, h19_1, h20_1, h21_1, h22_1, h23_1, h24_1, h25_1, h26_1, rfl, E64, B66, o43b, F57, N58⟩
        · refine WL.buildSlice (vs := [(0, .int .i64 ((I.syms[i]).2))]) rfl (bls11_42 ((I.syms[i]).2)) rfl ?_
          intro b42 w42 n42
          have N67 : (v36 : Value).ownBlock ≠ some b42 := fun e => by have := (o36b).lt (by omega) (by decide) e; have := n42.num; omega
          have E68 : Ext w w42 := Mod.trans (E43) (n42.ext)
          have B69 := (B44).ext (n42.ext)
          refine WL.behind (⟨E68, B69⟩) ?_
          refine WA.one (i := 8) (m' := 4095) (by kernel_rfl) rfl rfl ?_
          have O70 := (o36b).ext (n42.ext)
          refine WL.append (k := (bytesTo I i).length + 1) (m := (I.syms[i]).1.length) (xs := bs (bytesTo I i ++ be 1 ((((I.syms[i]).1.length : Nat) : Int)))) (news := bs ((I.syms[i]).1)) ap28 rfl rfl rfl (O70) (srcSt Try.underlying9 _) (by omega) (by omega) rfl ?_
          intro v39 w39 o39 m39 l39
          have o39b : Own w39 1 v39 ((bytesTo I i).length + 1 + (I.syms[i]).1.length) (bs (bytesTo I i ++ be 1 ((((I.syms[i]).1.length : Nat) : Int)) ++ (I.syms[i]).1)) := by rw [← bs_append] at o39; exact o39
          have F71 : From w.heap.size v39 := LocV.from l39 (Mod.size (E68)) (F38)
          have B73 := ((B40).mod (m36) (hn)).ext (n42.ext)
          have N72 : v39.ownBlock ≠ some b1 := LocV.ne l39 ((B73).lt) N39
          have N74 : v39.ownBlock ≠ some b6 := LocV.ne l39 ((B69).lt) N41
          have B76 := ((n35.blk).mod (m36) (N33)).ext (n42.ext)
          have N75 : v39.ownBlock ≠ some b35 := LocV.ne l39 ((B76).lt) N42
          have N77 : v39.ownBlock ≠ some b42 := LocV.ne l39 ((n42.blk).lt) N67
          have E78 : Ext w w39 := Mod.from (E68) m39 (F38)
          have B79 := (B69).mod (m39) (N41)
          refine WL.behind (⟨E78, B79⟩) ?_
          refine WA.one (i := 12) (m' := 8191) (by kernel_rfl) rfl rfl ?_
          have B80 := (n42.blk).mod (m39) (N67)
          refine WL.call ca20 (rfl) rfl (puts_spec (v39) 4 ((bytesTo I i).length + 1 + (I.syms[i]).1.length) (bs (bytesTo I i ++ be 1 ((((I.syms[i]).1.length : Nat) : Int)) ++ (I.syms[i]).1)) b42 ((I.syms[i]).2) _ (by decide) (by omega) o39b B80 N77) ?_
          rintro v43 w43 ⟨o43, m43, l43⟩
          have o43b : Own w43 1 v43 ((bytesTo I (i + 1)).length) (bs (bytesTo I (i + 1))) := by rw [← bs_append, ← bytesTo_step I i hi, ← bytesTo_len I i hi] at o43; exact o43
          have F81 : From w.heap.size v43 := LocV.from l43 (Mod.size (E78)) (F71)
          have B83 := (B73).mod (m39) (N39)
          have N82 : v43.ownBlock ≠ some b1 := LocV.ne l43 ((B83).lt) N72
          have N84 : v43.ownBlock ≠ some b6 := LocV.ne l43 ((B79).lt) N74
          have B86 := (B76).mod (m39) (N42)
          have N85 : v43.ownBlock ≠ some b35 := LocV.ne l43 ((B86).lt) N75
          have N87 : v43.ownBlock ≠ some b42 := LocV.ne l43 ((B80).lt) N77
          have E88 : Ext w w43 := Mod.from (E78) m43 (F71)
          have B89 := (B79).mod (m43) (N74)
          refine WL.behind (⟨E88, B89⟩) ?_
          refine WA.take (i := 13) (m' := 16383) (v := v43) rfl rfl rfl rfl (by kernel_rfl) rfl (fun _ _ _ h => h) (fun wx hS => ?_) (⟨E88, B89⟩) ?_
          · refine WL.assign (v := v43) rfl rfl ?_
            exact WL.nil ⟨rfl, rfl, rfl⟩
          refine WA.done (by kernel_rfl) ?_
          refine WC.region ?_
          refine WL.bin h27_1 rfl rfl (BinR.succN (by omega)) ?_
          refine WL.move (v := IN (i + 1)) rfl rfl ?_
          refine WL.nil ?_
          have B90 := (B83).mod (m43) (N72)
          exact ⟨ka - 1, by omega, (i + 1), (v43), by omega, h0_1, h1_1, h2_1, h3_1, rfl, h9_1, h10_1, h11_1, h12_1, h13_1, h14_1, h15_1, h16_1, h17_1, h18_1, h19_1, h20_1, h21_1, h22_1, h23_1, h24_1, h25_1, h26_1, rfl, E88, B90, o43b, F81, N82⟩
      · have O91 := (O32).ext (n35.ext)
        refine WL.buildSlice (vs := [(0, .int .i64 ((I.syms[i]).2))]) rfl (bls11_42 ((I.syms[i]).2)) rfl ?_
        intro b42 w42 n42
        have N92 : (v : Value).ownBlock ≠ some b42 := fun e => by have := (O91).lt (by omega) (by decide) e; have := n42.num; omega
        have R93 : Ext wr w42 := Mod.trans (R34) (n42.ext)
        have E94 : Ext w w42 := Mod.trans (E35) (n42.ext)
        have B95 := (B36).ext (n42.ext)
        refine WL.behind (⟨E94, B95⟩) ?_
        refine WA.one (i := 5) (m' := 3839) (by kernel_rfl) rfl rfl ?_
        have O96 := (O91).ext (n42.ext)
        have B97 := (n35.blk).ext (n42.ext)
        refine WL.call ca20 (rfl) rfl (puts_spec (v) 1 ((bytesTo I i).length) (bs (bytesTo I i)) b35 ((((I.syms[i]).1.length : Nat) : Int)) _ (by decide) (by omega) O96 B97 N33) ?_
        rintro v36 w36 ⟨o36, m36, l36⟩
        have o36b : Own w36 1 v36 ((bytesTo I i).length + 1) (bs (bytesTo I i ++ be 1 ((((I.syms[i]).1.length : Nat) : Int)))) := by rw [← bs_append] at o36; exact o36
        have F98 : From w.heap.size v36 := LocV.from l36 (Mod.size (E94)) (hF)
        have B100 := ((((hB).ext (n6.ext)).ext (ed_8)).ext (n35.ext)).ext (n42.ext)
        have N99 : v36.ownBlock ≠ some b1 := LocV.ne l36 ((B100).lt) hn
        have N101 : v36.ownBlock ≠ some b6 := LocV.ne l36 ((B95).lt) N26
        have N102 : v36.ownBlock ≠ some b35 := LocV.ne l36 ((B97).lt) N33
        have N103 : v36.ownBlock ≠ some b42 := LocV.ne l36 ((n42.blk).lt) N92
        have E104 : Ext w w36 := Mod.from (E94) m36 (hF)
        have B105 := (B95).mod (m36) (N26)
        refine WL.behind (⟨E104, B105⟩) ?_
        refine WA.one (i := 8) (m' := 4095) (by kernel_rfl) rfl rfl ?_
        refine WL.append (k := (bytesTo I i).length + 1) (m := (I.syms[i]).1.length) (xs := bs (bytesTo I i ++ be 1 ((((I.syms[i]).1.length : Nat) : Int)))) (news := bs ((I.syms[i]).1)) ap28 rfl rfl rfl (o36b) (srcSt Try.underlying9 _) (by omega) (by omega) rfl ?_
        intro v39 w39 o39 m39 l39
        have o39b : Own w39 1 v39 ((bytesTo I i).length + 1 + (I.syms[i]).1.length) (bs (bytesTo I i ++ be 1 ((((I.syms[i]).1.length : Nat) : Int)) ++ (I.syms[i]).1)) := by rw [← bs_append] at o39; exact o39
        have F106 : From w.heap.size v39 := LocV.from l39 (Mod.size (E104)) (F98)
        have B108 := (B100).mod (m36) (hn)
        have N107 : v39.ownBlock ≠ some b1 := LocV.ne l39 ((B108).lt) N99
        have N109 : v39.ownBlock ≠ some b6 := LocV.ne l39 ((B105).lt) N101
        have B111 := (B97).mod (m36) (N33)
        have N110 : v39.ownBlock ≠ some b35 := LocV.ne l39 ((B111).lt) N102
        have B113 := (n42.blk).mod (m36) (N92)
        have N112 : v39.ownBlock ≠ some b42 := LocV.ne l39 ((B113).lt) N103
        have E114 : Ext w w39 := Mod.from (E104) m39 (F98)
        have B115 := (B105).mod (m39) (N101)
        refine WL.behind (⟨E114, B115⟩) ?_
        refine WA.one (i := 12) (m' := 8191) (by kernel_rfl) rfl rfl ?_
        have B116 := (B113).mod (m39) (N103)
        refine WL.call ca20 (rfl) rfl (puts_spec (v39) 4 ((bytesTo I i).length + 1 + (I.syms[i]).1.length) (bs (bytesTo I i ++ be 1 ((((I.syms[i]).1.length : Nat) : Int)) ++ (I.syms[i]).1)) b42 ((I.syms[i]).2) _ (by decide) (by omega) o39b B116 N112) ?_
        rintro v43 w43 ⟨o43, m43, l43⟩
        have o43b : Own w43 1 v43 ((bytesTo I (i + 1)).length) (bs (bytesTo I (i + 1))) := by rw [← bs_append, ← bytesTo_step I i hi, ← bytesTo_len I i hi] at o43; exact o43
        have F117 : From w.heap.size v43 := LocV.from l43 (Mod.size (E114)) (F106)
        have B119 := (B108).mod (m39) (N99)
        have N118 : v43.ownBlock ≠ some b1 := LocV.ne l43 ((B119).lt) N107
        have N120 : v43.ownBlock ≠ some b6 := LocV.ne l43 ((B115).lt) N109
        have B122 := (B111).mod (m39) (N102)
        have N121 : v43.ownBlock ≠ some b35 := LocV.ne l43 ((B122).lt) N110
        have N123 : v43.ownBlock ≠ some b42 := LocV.ne l43 ((B116).lt) N112
        have E124 : Ext w w43 := Mod.from (E114) m43 (F106)
        have B125 := (B115).mod (m43) (N109)
        refine WL.behind (⟨E124, B125⟩) ?_
        refine WA.take (i := 13) (m' := 16383) (v := v43) rfl rfl rfl rfl (by kernel_rfl) rfl (fun _ _ _ h => h) (fun wx hS => ?_) (⟨E124, B125⟩) ?_
        · refine WL.assign (v := v43) rfl rfl ?_
          exact WL.nil ⟨rfl, rfl, rfl⟩
        refine WA.done (by kernel_rfl) ?_
        refine WC.region ?_
        refine WL.bin h27_1 rfl rfl (BinR.succN (by omega)) ?_
        refine WL.move (v := IN (i + 1)) rfl rfl ?_
        refine WL.nil ?_
        have B126 := (B119).mod (m43) (N107)
        exact ⟨ka - 1, by omega, (i + 1), (v43), by omega, h0_1, h1_1, h2_1, h3_1, rfl, h9_1, h10_1, h11_1, h12_1, h13_1, h14_1, h15_1, h16_1, h17_1, h18_1, h19_1, h20_1, h21_1, h22_1, h23_1, h24_1, h25_1, h26_1, rfl, E124, B126, o43b, F117, N118⟩
    · have O127 := ((hO).ext (n6.ext)).ext (ed_8)
      refine WL.buildSlice (vs := [(0, .int .i64 ((I.syms[i]).2))]) rfl (bls11_42 ((I.syms[i]).2)) rfl ?_
      intro b42 w42 n42
      have N128 : (v : Value).ownBlock ≠ some b42 := fun e => by have := (O127).lt (by omega) (by decide) e; have := n42.num; omega
      have R129 : Ext wr w42 := Mod.trans (R29) (n42.ext)
      have E130 : Ext w w42 := Mod.trans (E30) (n42.ext)
      have B131 := (B31).ext (n42.ext)
      refine WL.behind (⟨E130, B131⟩) ?_
      refine WA.one (i := 4) (m' := 3807) (by kernel_rfl) rfl rfl ?_
      have O132 := (O127).ext (n42.ext)
      refine WL.buildSlice (vs := [(0, IN ((I.syms[i]).1.length))]) rfl (bls11_35 ((((I.syms[i]).1.length : Nat) : Int))) rfl ?_
      intro b35 w35 n35
      have N133 : (v : Value).ownBlock ≠ some b35 := fun e => by have := (O132).lt (by omega) (by decide) e; have := n35.num; omega
      have R134 : Ext wr w35 := Mod.trans (R129) (n35.ext)
      have E135 : Ext w w35 := Mod.trans (E130) (n35.ext)
      have B136 := (B131).ext (n35.ext)
      refine WL.behind (⟨E135, B136⟩) ?_
      refine WA.one (i := 5) (m' := 3839) (by kernel_rfl) rfl rfl ?_
      have O137 := (O132).ext (n35.ext)
      refine WL.call ca20 (rfl) rfl (puts_spec (v) 1 ((bytesTo I i).length) (bs (bytesTo I i)) b35 ((((I.syms[i]).1.length : Nat) : Int)) _ (by decide) (by omega) O137 n35.blk N133) ?_
      rintro v36 w36 ⟨o36, m36, l36⟩
      have o36b : Own w36 1 v36 ((bytesTo I i).length + 1) (bs (bytesTo I i ++ be 1 ((((I.syms[i]).1.length : Nat) : Int)))) := by rw [← bs_append] at o36; exact o36
      have F138 : From w.heap.size v36 := LocV.from l36 (Mod.size (E135)) (hF)
      have B140 := ((((hB).ext (n6.ext)).ext (ed_8)).ext (n42.ext)).ext (n35.ext)
      have N139 : v36.ownBlock ≠ some b1 := LocV.ne l36 ((B140).lt) hn
      have N141 : v36.ownBlock ≠ some b6 := LocV.ne l36 ((B136).lt) N26
      have N142 : v36.ownBlock ≠ some b35 := LocV.ne l36 ((n35.blk).lt) N133
      have B144 := (n42.blk).ext (n35.ext)
      have N143 : v36.ownBlock ≠ some b42 := LocV.ne l36 ((B144).lt) N128
      have E145 : Ext w w36 := Mod.from (E135) m36 (hF)
      have B146 := (B136).mod (m36) (N26)
      refine WL.behind (⟨E145, B146⟩) ?_
      refine WA.one (i := 8) (m' := 4095) (by kernel_rfl) rfl rfl ?_
      refine WL.append (k := (bytesTo I i).length + 1) (m := (I.syms[i]).1.length) (xs := bs (bytesTo I i ++ be 1 ((((I.syms[i]).1.length : Nat) : Int)))) (news := bs ((I.syms[i]).1)) ap28 rfl rfl rfl (o36b) (srcSt Try.underlying9 _) (by omega) (by omega) rfl ?_
      intro v39 w39 o39 m39 l39
      have o39b : Own w39 1 v39 ((bytesTo I i).length + 1 + (I.syms[i]).1.length) (bs (bytesTo I i ++ be 1 ((((I.syms[i]).1.length : Nat) : Int)) ++ (I.syms[i]).1)) := by rw [← bs_append] at o39; exact o39
      have F147 : From w.heap.size v39 := LocV.from l39 (Mod.size (E145)) (F138)
      have B149 := (B140).mod (m36) (hn)
      have N148 : v39.ownBlock ≠ some b1 := LocV.ne l39 ((B149).lt) N139
      have N150 : v39.ownBlock ≠ some b6 := LocV.ne l39 ((B146).lt) N141
      have B152 := (n35.blk).mod (m36) (N133)
      have N151 : v39.ownBlock ≠ some b35 := LocV.ne l39 ((B152).lt) N142
      have B154 := (B144).mod (m36) (N128)
      have N153 : v39.ownBlock ≠ some b42 := LocV.ne l39 ((B154).lt) N143
      have E155 : Ext w w39 := Mod.from (E145) m39 (F138)
      have B156 := (B146).mod (m39) (N141)
      refine WL.behind (⟨E155, B156⟩) ?_
      refine WA.one (i := 12) (m' := 8191) (by kernel_rfl) rfl rfl ?_
      have B157 := (B154).mod (m39) (N143)
      refine WL.call ca20 (rfl) rfl (puts_spec (v39) 4 ((bytesTo I i).length + 1 + (I.syms[i]).1.length) (bs (bytesTo I i ++ be 1 ((((I.syms[i]).1.length : Nat) : Int)) ++ (I.syms[i]).1)) b42 ((I.syms[i]).2) _ (by decide) (by omega) o39b B157 N153) ?_
      rintro v43 w43 ⟨o43, m43, l43⟩
      have o43b : Own w43 1 v43 ((bytesTo I (i + 1)).length) (bs (bytesTo I (i + 1))) := by rw [← bs_append, ← bytesTo_step I i hi, ← bytesTo_len I i hi] at o43; exact o43
      have F158 : From w.heap.size v43 := LocV.from l43 (Mod.size (E155)) (F147)
      have B160 := (B149).mod (m39) (N139)
      have N159 : v43.ownBlock ≠ some b1 := LocV.ne l43 ((B160).lt) N148
      have N161 : v43.ownBlock ≠ some b6 := LocV.ne l43 ((B156).lt) N150
      have B163 := (B152).mod (m39) (N142)
      have N162 : v43.ownBlock ≠ some b35 := LocV.ne l43 ((B163).lt) N151
      have N164 : v43.ownBlock ≠ some b42 := LocV.ne l43 ((B157).lt) N153
      have E165 : Ext w w43 := Mod.from (E155) m43 (F147)
      have B166 := (B156).mod (m43) (N150)
      refine WL.behind (⟨E165, B166⟩) ?_
      refine WA.take (i := 13) (m' := 16383) (v := v43) rfl rfl rfl rfl (by kernel_rfl) rfl (fun _ _ _ h => h) (fun wx hS => ?_) (⟨E165, B166⟩) ?_
      · refine WL.assign (v := v43) rfl rfl ?_
        exact WL.nil ⟨rfl, rfl, rfl⟩
      refine WA.done (by kernel_rfl) ?_
      refine WC.region ?_
      refine WL.bin h27_1 rfl rfl (BinR.succN (by omega)) ?_
      refine WL.move (v := IN (i + 1)) rfl rfl ?_
      refine WL.nil ?_
      have B167 := (B160).mod (m43) (N148)
      exact ⟨ka - 1, by omega, (i + 1), (v43), by omega, h0_1, h1_1, h2_1, h3_1, rfl, h9_1, h10_1, h11_1, h12_1, h13_1, h14_1, h15_1, h16_1, h17_1, h18_1, h19_1, h20_1, h21_1, h22_1, h23_1, h24_1, h25_1, h26_1, rfl, E165, B167, o43b, F158, N159⟩
  · have hi : I.syms.length ≤ i := by have := of_decide_eq_false hc28; omega
    have hix : i = I.syms.length := by omega
    have hle3 := bytesTo_le I hb3 i (by omega)
    have hge := bytesTo_ge I i
    refine WC.exit ?_
    refine WC.seq ?_
    refine WC.region ?_
    refine WL.move (v := v) h4_1 rfl ?_
    refine WL.fieldAddr h1_1 fo25_2 rfl ?_
    refine WL.load1 rfl ag23 (hB.cell (j := 2) rfl) rfl ?_
    refine WL.lenSl (sz := 1) (m := I.words.length) (xs := wordCells I.words) el23 rfl ((hR.w).ext' (hE)) rfl ?_
    refine WL.buildSlice (vs := [(0, IN (I.words.length))]) rfl (bls11_49 (((I.words.length : Nat) : Int))) rfl ?_
    intro b49 w49 n49
    have N168 : (v : Value).ownBlock ≠ some b49 := fun e => by have := (hO).lt (by omega) (by decide) e; have := n49.num; omega
    have R169 : Ext wr w49 := Mod.trans (Mod.refl _ _) (n49.ext)
    have E170 : Ext w w49 := Mod.trans (hE) (n49.ext)
    have O171 := (hO).ext (n49.ext)
    refine WL.call ca20 (rfl) rfl (puts_spec (v) 4 ((bytesTo I i).length) (bs (bytesTo I i)) b49 (((I.words.length : Nat) : Int)) _ (by decide) (by omega) O171 n49.blk N168) ?_
    rintro v50 w50 ⟨o50, m50, l50⟩
    have o50b : Own w50 1 v50 ((codeTo I 0).length) (bs (codeTo I 0)) := by rw [← bs_append, hix, ← codeTo_zero, show (bytesTo I I.syms.length).length + 4 = (codeTo I 0).length by rw [codeTo_zero, List.length_append, be_length]] at o50; exact o50
    have F172 : From w.heap.size v50 := LocV.from l50 (Mod.size (E170)) (hF)
    have B174 := (hB).ext (n49.ext)
    have N173 : v50.ownBlock ≠ some b1 := LocV.ne l50 ((B174).lt) hn
    have N175 : v50.ownBlock ≠ some b49 := LocV.ne l50 ((n49.blk).lt) N168
    have E176 : Ext w w50 := Mod.from (E170) m50 (hF)
    refine WL.assign (v := v50) rfl rfl ?_
    refine WL.nil ?_
    refine WC.seq ?_
    refine WC.seq ?_
    refine WC.region ?_
    refine WL.fieldAddr h1_1 fo25_2 rfl ?_
    have B177 := (B174).mod (m50) (hn)
    refine WL.load1 rfl ag23 (B177.cell (j := 2) rfl) rfl ?_
    refine WL.lenSl (sz := 1) (m := I.words.length) (xs := wordCells I.words) el23 rfl ((hR.w).ext' (E176)) rfl ?_
    refine WL.move (v := IN (0)) rfl rfl ?_
    refine WL.nil ?_
    refine WC.block ?_
    refine WC.loop (fun k f w_ => ∃ i v, (k + i = I.words.length) ∧ f 0 = .agg #[.int .i64 (I.entry), sv, wv] ∧ f 1 = ptr b1 0 ∧ f 2 = .slice none 0 0 ∧ f 3 = IN (0) ∧ f 4 = v ∧ f 9 = .agg #[.int .i64 (I.entry), sv, wv] ∧ f 10 = .bool (true) ∧ f 11 = .bool (false) ∧ f 12 = .slice (some ⟨b12, 0, none⟩) 4 4 ∧ f 13 = .slice (some ⟨b12, 0, none⟩) 4 4 ∧ f 14 = ptr b1 0 ∧ f 15 = .int .i64 (I.entry) ∧ f 16 = .slice (some ⟨b16, 0, none⟩) 1 1 ∧ f 17 = v17 ∧ f 18 = v17 ∧ f 19 = ptr b1 1 ∧ f 20 = sv ∧ f 21 = IN (I.syms.length) ∧ f 22 = .slice (some ⟨b22, 0, none⟩) 1 1 ∧ f 23 = v23 ∧ f 24 = ptr b1 1 ∧ f 25 = sv ∧ f 26 = IN (I.syms.length) ∧ f 46 = ptr b1 2 ∧ f 47 = wv ∧ f 48 = IN (I.words.length) ∧ f 49 = .slice (some ⟨b49, 0, none⟩) 1 1 ∧ f 50 = v50 ∧ f 51 = ptr b1 2 ∧ f 52 = wv ∧ f 53 = IN (I.words.length) ∧ f 54 = IN (i) ∧ (Ext w w_) ∧ (Blk w_ b1 #[.int .i64 I.entry, sv, wv] 25) ∧ (Own w_ 1 v (codeTo I i).length (bs (codeTo I i))) ∧ (From w.heap.size v) ∧ (v.ownBlock ≠ some b1)) (I.words.length) ?_ ?_
    · exact ⟨(0), (v50), by omega, h0_1, h1_1, h2_1, h3_1, rfl, h9_1, h10_1, h11_1, h12_1, h13_1, h14_1, h15_1, h16_1, h17_1, h18_1, h19_1, h20_1, h21_1, h22_1, h23_1, h24_1, h25_1, h26_1, rfl, rfl, rfl, rfl, rfl, rfl, rfl, rfl, rfl, E176, B177, o50b, F172, N173⟩
    rintro ka f2 wr ⟨i, v, hk1, h0_2, h1_2, h2_2, h3_2, h4_2, h9_2, h10_2, h11_2, h12_2, h13_2, h14_2, h15_2, h16_2, h17_2, h18_2, h19_2, h20_2, h21_2, h22_2, h23_2, h24_2, h25_2, h26_2, h46_2, h47_2, h48_2, h49_2, h50_2, h51_2, h52_2, h53_2, h54_2, hE, hB, hO, hF, hn⟩
    refine WC.seq ?_
    refine WC.region ?_
    refine WL.bin h54_2 h53_2 rfl (BinR.lss) ?_
    refine WL.nil ?_
    refine WC.seq ?_
    refine WC.cond rfl (fun hc55 => ?_) (fun hc55 => ?_)
    · have hi : i < I.words.length := by have := of_decide_eq_true hc55; omega
      obtain ⟨bw0, ow0, cw0, ew0, hcw0⟩ := hR.w.at (by omega)
      have hwl := (I.words[i]).isLt
      have hle := codeTo_le I i (by omega)
      have hle2 := bytesTo_le I hb3 I.syms.length (by omega)
      have hgw := codeTo_ge I i
      refine WC.skip ?_
      refine WC.seq ?_
      refine WC.block ?_
      refine WC.seq ?_
      refine WC.region ?_
      refine WL.indexAddr (i := i) (b := bw0) (o := ow0) el23 sz42 (Eq.trans (h52_2) ew0) h54_2 (by omega) rfl ?_
      refine WL.load1 rfl ag42 ((hcw0.ext (hE)) (i * 1) _ (by rw [Nat.mul_one]; exact word_get I.words i (by omega))) rfl ?_
      refine WL.assign (v := .int .u32 ((I.words[i]).toNat)) rfl rfl ?_
      refine WL.nil ?_
      refine WC.region ?_
      refine WL.move (v := v) h4_2 rfl ?_
      refine WL.move (v := .int .u32 ((I.words[i]).toNat)) rfl rfl ?_
      refine WL.conv (v := .int .i64 ((I.words[i]).toNat)) rfl rfl (ConvR.toI Try.underlying42 Try.underlying3 (by omega)) ?_
      refine WL.buildSlice (vs := [(0, .int .i64 ((I.words[i]).toNat))]) rfl (bls11_61 (((I.words[i]).toNat : Int))) rfl ?_
      intro b61 w61 n61
      have N178 : (v : Value).ownBlock ≠ some b61 := fun e => by have := (hO).lt (by omega) (by decide) e; have := n61.num; omega
      have R179 : Ext wr w61 := Mod.trans (Mod.refl _ _) (n61.ext)
      have E180 : Ext w w61 := Mod.trans (hE) (n61.ext)
      have O181 := (hO).ext (n61.ext)
      refine WL.call ca20 (rfl) rfl (puts_spec (v) 4 ((codeTo I i).length) (bs (codeTo I i)) b61 (((I.words[i]).toNat : Int)) _ (by decide) (by omega) O181 n61.blk N178) ?_
      rintro v62 w62 ⟨o62, m62, l62⟩
      have o62b : Own w62 1 v62 ((codeTo I (i + 1)).length) (bs (codeTo I (i + 1))) := by rw [← bs_append, ← codeTo_step I i hi, ← codeTo_len I i hi] at o62; exact o62
      have F182 : From w.heap.size v62 := LocV.from l62 (Mod.size (E180)) (hF)
      have B184 := (hB).ext (n61.ext)
      have N183 : v62.ownBlock ≠ some b1 := LocV.ne l62 ((B184).lt) hn
      have N185 : v62.ownBlock ≠ some b61 := LocV.ne l62 ((n61.blk).lt) N178
      have E186 : Ext w w62 := Mod.from (E180) m62 (hF)
      refine WL.assign (v := v62) rfl rfl ?_
      refine WL.nil ?_
      refine WC.region ?_
      refine WL.bin h54_2 rfl rfl (BinR.succN (by omega)) ?_
      refine WL.move (v := IN (i + 1)) rfl rfl ?_
      refine WL.nil ?_
      have B187 := (B184).mod (m62) (hn)
      exact ⟨ka - 1, by omega, (i + 1), (v62), by omega, h0_2, h1_2, h2_2, h3_2, rfl, h9_2, h10_2, h11_2, h12_2, h13_2, h14_2, h15_2, h16_2, h17_2, h18_2, h19_2, h20_2, h21_2, h22_2, h23_2, h24_2, h25_2, h26_2, h46_2, h47_2, h48_2, h49_2, h50_2, h51_2, h52_2, h53_2, rfl, E186, B187, o62b, F182, N183⟩
    · have hi : I.words.length ≤ i := by have := of_decide_eq_false hc55; omega
      refine WC.exit ?_
      refine WC.seq ?_
      refine WC.region ?_
      refine WL.move (v := v) h4_2 rfl ?_
      refine WL.assign (v := v) rfl rfl ?_
      refine WL.assign (v := IN (0)) rfl rfl ?_
      refine WL.nil ?_
      refine WC.ret ?_
      exact ⟨_, Res.two (v := v) (v' := IN (0)) rfl rfl rfl, v, rfl, (by have h := hO; rw [show i = I.words.length by omega, codeTo_all] at h; exact h), hF, hE⟩
end Go.Proofs.I
