import Derived.Test.YtljcijdkoncodaaImgBig
import Derived.Test.YtljcijdkoncodaaRows
import Derived.Test.YtljcijdkoncodaaImY8
set_option linter.unusedSimpArgs false
set_option linter.unusedVariables false
namespace Go.Proofs.I
open Go Go.Ux Go.Ux.Image Go.Proofs
theorem bld13_13k (a : Option Addr) (l c : Nat) : ∀ w : World, (Instr.build 64 #[(0, .slice a l c)]).run Try.prog w = .ok (.agg #[.slice a l c, .bool (false)]) w := fun _ => by kernel_rfl
theorem bld13_21k (m : Int) : ∀ w : World, (Instr.build 25 #[(0, .int .i64 (m))]).run Try.prog w = .ok (.agg #[.int .i64 (m), .slice none 0 0, .slice none 0 0]) w := fun _ => by kernel_rfl
theorem bld13_45k (a : List UInt8) (b : Int) : ∀ w : World, (Instr.build 49 #[(0, St a), (1, .int .i64 (b))]).run Try.prog w = .ok (.agg #[St a, .int .i64 (b)]) w := fun _ => by kernel_rfl
theorem bls13_46k (a : List UInt8) (b : Int) : ∀ w : World, (Instr.buildSlice 22 1 #[(0, .agg #[St a, .int .i64 (b)])]).run Try.prog w = .ok (.slice (some ⟨w.heap.size, 0, none⟩) 1 1) (w.alloc (.cells #[St a, .int .i64 (b)] 49)) := fun _ => by kernel_rfl
theorem bls13_77k (z : BitVec 32) : ∀ w : World, (Instr.buildSlice 23 1 #[(0, U32 (z))]).run Try.prog w = .ok (.slice (some ⟨w.heap.size, 0, none⟩) 1 1) (w.alloc (.cells #[U32 (z)] 42)) := fun _ => by kernel_rfl

theorem iget_ok (sv : Value) (d : List UInt8) (w : World) (hS : Sl w sv 1 d.length (bs d)) (hlt : ∀ g, sv.ownBlock = some g → g < w.heap.size) (hd : d.length ≤ 1000000) (I : Img) (hr : rightB I = true) (hdI : d = bytesOf I) : CallsR Try.prog 13 #[sv] w (fun v w' => ∃ u x, v = .tuple #[.agg #[.int .i64 I.entry, u, x], .int .i64 0] ∧ Sl w' u 2 I.syms.length (symCells I.syms) ∧ Own w' 1 x I.words.length (wordCells I.words) ∧ From w.heap.size u ∧ From w.heap.size x ∧ (0 < I.syms.length → ∀ g, u.ownBlock = some g → x.ownBlock ≠ some g) ∧ Ext w w') := by
  obtain ⟨gb1, gb2, gb3, gb4, gb5, gb6, gb7, gb8⟩ := right_bounds hr
  refine callsR_of Try.func13 rfl rfl rfl ?_
  refine WC.seq ?_
  refine WC.region ?_
  refine WL.alloc zt25 rfl ?_
  intro b2 w2 n2
  have E1 : Ext w w2 := Mod.trans (Mod.refl _ _) (n2.ext)
  refine WL.assign (v := IN (0)) rfl rfl ?_
  refine WL.nil ?_
  refine WC.seq ?_
  refine WC.region ?_
  refine WL.move (v := sv) rfl rfl ?_
  refine WL.build (v := .agg #[sv, .bool (false)]) (vs := [(0, sv)]) rfl (by obtain ⟨a, l, c, e⟩ := hS.slc; rw [e]; exact bld13_13k a l c) rfl ?_
  refine WL.box (v := .agg #[sv, .bool (false)]) rfl rfl ?_
  intro b14 w14 n14
  have E2 : Ext w w14 := Mod.trans (E1) (n14.ext)
  refine WL.assign (v := ptr b14 0) rfl rfl ?_
  refine WL.nil ?_
  have hb1 : w.heap.size ≤ b2 ∧ b2 < b14 := by have := n2.num; have := n2.size; have := n14.num; omega
  refine WC.seq ?_
  refine WC.region ?_
  refine WL.move (v := ptr b14 0) rfl rfl ?_
  refine WL.call ca29 (rfl) rfl (take_pre b14 sv d (magic) (be 4 I.entry ++ (be 2 (((I.syms.length : Nat) : Int)) ++ symsT I 0)) (4) _ n14.blk ((hS).ext' (E2)) (fun e => by have h1 := (hlt) _ e; omega) (hdI.trans (bytesOf_T I)) (rfl)) ?_
  rintro vt16 wd16 ⟨st16, md16, s16, Bd16, Sd16, eq16⟩
  have lt16 : ∀ g, s16.ownBlock = some g → g < w.heap.size := fun g hg => (hlt) g (eq16.symm.trans hg)
  have E3 : Ext w wd16 := Mod.own (E1) n14 (E2) (md16)
  refine WL.toString (m := 4) (bl := magic) Try.underlying28 Try.underlying5 Try.underlying9 rfl (st16) rfl ?_
  refine WL.bin (v := .bool (true)) rfl (vy := St [80, 77, 73, 49]) rfl rfl (BinR.toB (BinR.eqlS) (rfl)) ?_
  refine WL.assign (v := .bool (true)) rfl rfl ?_
  refine WL.nil ?_
  refine WC.seq ?_
  refine WC.region ?_
  refine WL.move (v := ptr b14 0) rfl rfl ?_
  refine WL.call ca30 (rfl) rfl (number_be b14 s16 ((be 4 I.entry ++ (be 2 (((I.syms.length : Nat) : Int)) ++ symsT I 0))) (be 2 (((I.syms.length : Nat) : Int)) ++ symsT I 0) 4 (I.entry) _ Bd16 Sd16 (fun e => by have h1 := (lt16) _ e; omega) (by decide) (rfl) (by omega) (by omega)) ?_
  rintro _ wd20 ⟨rfl, md20, s20, Bd20, Sd20, eq20⟩
  have lt20 : ∀ g, s20.ownBlock = some g → g < w.heap.size := fun g hg => (lt16) g (eq20.symm.trans hg)
  have E4 : Ext w wd20 := Mod.own (E1) n14 (E3) (md20)
  refine WL.build (v := .agg #[.int .i64 (I.entry), .slice none 0 0, .slice none 0 0]) (vs := [(0, .int .i64 (I.entry))]) rfl (bld13_21k I.entry) rfl ?_
  refine WL.allocStore (v := .agg #[.int .i64 (I.entry), .slice none 0 0, .slice none 0 0]) zt25 rfl sz25 rfl rfl rfl rfl ?_
  intro b6 w6 n6
  have E5 : Ext w w6 := Mod.trans (E4) (n6.ext)
  refine WL.nil ?_
  have hb3 : b14 < b6 := by have := Bd20.lt; have := n6.num; omega
  refine WC.seq ?_
  refine WC.seq ?_
  refine WC.region ?_
  refine WL.move (v := ptr b14 0) rfl rfl ?_
  have B6 := (Bd20).ext (n6.ext)
  have S7 := (Sd20).ext' (n6.ext)
  refine WL.call ca30 (rfl) rfl (number_be b14 s20 ((be 2 (((I.syms.length : Nat) : Int)) ++ symsT I 0)) (symsT I 0) 2 (((I.syms.length : Nat) : Int)) _ B6 S7 (fun e => by have h1 := (lt20) _ e; omega) (by decide) (rfl) (by omega) (by omega)) ?_
  rintro _ wd23 ⟨rfl, md23, s23, Bd23, Sd23, eq23⟩
  have lt23 : ∀ g, s23.ownBlock = some g → g < w.heap.size := fun g hg => (lt20) g (eq23.symm.trans hg)
  have E8 : Ext w wd23 := Mod.own (E1) n14 (E5) (md23)
  refine WL.assign (v := IN (I.syms.length)) rfl rfl ?_
  refine WL.nil ?_
  refine WC.block ?_
  refine WC.loop (fun k f w_ => ∃ j u sr, (k + j = I.syms.length) ∧ (∀ g, sr.ownBlock = some g → g < w.heap.size) ∧ f 0 = sv ∧ f 2 = ptr b2 0 ∧ f 3 = IN (0) ∧ f 4 = ptr b14 0 ∧ f 5 = .bool (true) ∧ f 6 = ptr b6 0 ∧ f 7 = IN ((I.syms.length - j)) ∧ f 12 = sv ∧ f 13 = .agg #[sv, .bool (false)] ∧ f 14 = ptr b14 0 ∧ f 15 = ptr b14 0 ∧ f 16 = vt16 ∧ f 17 = St (magic) ∧ f 18 = .bool (true) ∧ f 19 = ptr b14 0 ∧ f 20 = .int .i64 (I.entry) ∧ f 21 = .agg #[.int .i64 (I.entry), .slice none 0 0, .slice none 0 0] ∧ f 22 = ptr b14 0 ∧ f 23 = IN (I.syms.length) ∧ (Ext w w_) ∧ (Blk w_ b2 #[.int .i64 0, .slice none 0 0, .slice none 0 0] 25) ∧ (Blk w_ b6 #[.int .i64 I.entry, u, .slice none 0 0] 25) ∧ (Blk w_ b14 #[sr, .bool false] 64) ∧ (Sl w_ sr 1 (symsT I j).length (bs (symsT I j))) ∧ (Own w_ 2 u (I.syms.take j).length (symCells (I.syms.take j))) ∧ (From w.heap.size u) ∧ (u.ownBlock ≠ some b2) ∧ (u.ownBlock ≠ some b6) ∧ (u.ownBlock ≠ some b14)) (I.syms.length) ?_ ?_
  have B9 := (((((n2.blk).ext (n14.ext)).mod (md16) ((by omega))).mod (md20) ((by omega))).ext (n6.ext)).mod (md23) ((by omega))
  have B10 := (n6.blk).mod (md23) ((by omega))
  · exact ⟨(0), (.slice none 0 0), (s23), by omega, lt23, rfl, rfl, rfl, rfl, rfl, rfl, rfl, rfl, rfl, rfl, rfl, rfl, rfl, rfl, rfl, rfl, rfl, rfl, rfl, E8, B9, B10, Bd23, Sd23, Own.nil _ _, (fun g hg => by cases hg), (fun h => by cases h), (fun h => by cases h), (fun h => by cases h)⟩
  rintro ka f1 wr ⟨j, u, sr, hk1, hltr, h0_1, h2_1, h3_1, h4_1, h5_1, h6_1, h7_1, h12_1, h13_1, h14_1, h15_1, h16_1, h17_1, h18_1, h19_1, h20_1, h21_1, h22_1, h23_1, hE, hB2, hB6, hrb, hsr, hO, hF, hn2, hn6, hn14⟩
  refine WC.seq ?_
  refine WC.seq ?_
  refine WC.cut (fun f' w_ => f' 0 = sv ∧ f' 2 = ptr b2 0 ∧ f' 3 = IN (0) ∧ f' 4 = ptr b14 0 ∧ f' 5 = .bool (true) ∧ f' 6 = ptr b6 0 ∧ f' 7 = IN ((I.syms.length - j)) ∧ f' 12 = sv ∧ f' 13 = .agg #[sv, .bool (false)] ∧ f' 14 = ptr b14 0 ∧ f' 15 = ptr b14 0 ∧ f' 16 = vt16 ∧ f' 17 = St (magic) ∧ f' 18 = .bool (true) ∧ f' 19 = ptr b14 0 ∧ f' 20 = .int .i64 (I.entry) ∧ f' 21 = .agg #[.int .i64 (I.entry), .slice none 0 0, .slice none 0 0] ∧ f' 22 = ptr b14 0 ∧ f' 23 = IN (I.syms.length) ∧ f' 32 = .bool ((decide (0 < ((I.syms.length - j : Nat) : Int)) && !(false))) ∧ wr = w_) ?_ ?_
  · refine WC.region ?_
    refine WL.move (v := IN ((I.syms.length - j))) h7_1 rfl ?_
    refine WL.bin rfl rfl rfl (BinR.gtr) ?_
    refine WL.move (v := .bool (decide ((0 : Int) < (((I.syms.length - j) : Nat) : Int)))) rfl rfl ?_
    rcases Bool.eq_false_or_eq_true (decide ((0 : Int) < (((I.syms.length - j) : Nat) : Int))) with hg26 | hg26
    · refine WL.guardT (yf_bool rfl rfl hg26) ?_
      refine WL.move (v := ptr b14 0) h4_1 rfl ?_
      refine WL.guardT (yf_bool rfl rfl hg26) ?_
      refine WL.nilCheck rfl rfl ?_
      refine WL.guardT (yf_bool rfl rfl hg26) ?_
      refine WL.fieldAddr rfl fo64_1 rfl ?_
      refine WL.guardT (yf_bool rfl rfl hg26) ?_
      refine WL.load1 rfl ag4 (hrb.cell (j := 1) rfl) rfl ?_
      refine WL.guardT (yf_bool rfl rfl hg26) ?_
      refine WL.un rfl rfl UnR.not ?_
      refine WL.pick (b := true) (congrArg Value.bool hg26) rfl rfl ?_
      refine WL.nil ?_
      have hcut : (true) = (decide (0 < ((I.syms.length - j : Nat) : Int)) && !(false)) := by simp only [*, Bool.not_false, Bool.true_or, Bool.or_true, Bool.false_or, Bool.or_false, Bool.true_and, Bool.and_true, Bool.false_and, Bool.and_false]
      exact ⟨rfl, h0_1, h2_1, h3_1, h4_1, h5_1, h6_1, h7_1, h12_1, h13_1, h14_1, h15_1, h16_1, h17_1, h18_1, h19_1, h20_1, h21_1, h22_1, h23_1, congrArg Value.bool hcut, rfl⟩
    · refine WL.guardF (b' := false) (yf_bool rfl rfl hg26) rfl rfl ?_
      refine WL.guardF (b' := false) (yf_bool rfl rfl hg26) rfl rfl ?_
      refine WL.guardF (b' := false) (yf_bool rfl rfl hg26) rfl rfl ?_
      refine WL.guardF (b' := false) (yf_bool rfl rfl hg26) rfl rfl ?_
      refine WL.guardF (b' := false) (yf_bool rfl rfl hg26) rfl rfl ?_
      refine WL.pick (b := false) (congrArg Value.bool hg26) rfl rfl ?_
      refine WL.nil ?_
      have hcut : (false) = (decide (0 < ((I.syms.length - j : Nat) : Int)) && !(false)) := by simp only [*, Bool.not_false, Bool.true_or, Bool.or_true, Bool.false_or, Bool.or_false, Bool.true_and, Bool.and_true, Bool.false_and, Bool.and_false]
      exact ⟨rfl, h0_1, h2_1, h3_1, h4_1, h5_1, h6_1, h7_1, h12_1, h13_1, h14_1, h15_1, h16_1, h17_1, h18_1, h19_1, h20_1, h21_1, h22_1, h23_1, congrArg Value.bool hcut, rfl⟩
  rintro fc5 _ ⟨hc5_0, hc5_2, hc5_3, hc5_4, hc5_5, hc5_6, hc5_7, hc5_12, hc5_13, hc5_14, hc5_15, hc5_16, hc5_17, hc5_18, hc5_19, hc5_20, hc5_21, hc5_22, hc5_23, hc5_32, rfl⟩
  refine WC.cond hc5_32 (fun hc32 => ?_) (fun hc32 => ?_)
  · have hj : j < I.syms.length := by rw [Bool.and_eq_true] at hc32; have := of_decide_eq_true hc32.1; omega
    have hnj := gb3 _ (List.getElem_mem hj)
    have haj := gb8 _ (List.getElem_mem hj)
    refine WC.skip ?_
    refine WC.seq ?_
    refine WC.block ?_
    refine WC.seq ?_
    refine WC.region ?_
    refine WL.move (v := ptr b14 0) hc5_4 rfl ?_
    refine WL.move (v := ptr b14 0) hc5_4 rfl ?_
    refine WL.call ca30 (rfl) rfl (number_be b14 sr ((symsT I j)) ((I.syms[j]).1 ++ (be 4 (I.syms[j]).2 ++ symsT I (j + 1))) 1 ((((I.syms[j]).1.length : Nat) : Int)) _ hrb hsr (fun e => by have h1 := (hltr) _ e; omega) (by decide) (symsT_step I j hj) (by omega) (by omega)) ?_
    rintro _ wd37 ⟨rfl, md37, s37, Bd37, Sd37, eq37⟩
    have lt37 : ∀ g, s37.ownBlock = some g → g < w.heap.size := fun g hg => (hltr) g (eq37.symm.trans hg)
    have E11 : Ext w wd37 := Mod.then (hE) (md37) (fun i hi (e : i = b14) => absurd hi (by omega))
    refine WL.call ca29 (rfl) rfl (take_pre b14 s37 (((I.syms[j]).1 ++ (be 4 (I.syms[j]).2 ++ symsT I (j + 1)))) ((I.syms[j]).1) (be 4 (I.syms[j]).2 ++ symsT I (j + 1)) ((I.syms[j]).1.length) _ Bd37 Sd37 (fun e => by have h1 := (lt37) _ e; omega) (rfl) (rfl)) ?_
    rintro vt38 wd38 ⟨st38, md38, s38, Bd38, Sd38, eq38⟩
    have lt38 : ∀ g, s38.ownBlock = some g → g < w.heap.size := fun g hg => (lt37) g (eq38.symm.trans hg)
    have E12 : Ext w wd38 := Mod.then (E11) (md38) (fun i hi (e : i = b14) => absurd hi (by omega))
    refine WL.toString (m := (I.syms[j]).1.length) (bl := ((I.syms[j]).1)) Try.underlying28 Try.underlying5 Try.underlying9 rfl (st38) rfl ?_
    refine WL.assign (v := St (((I.syms[j]).1))) rfl rfl ?_
    refine WL.nil ?_
    refine WC.draw (fun _ => True) 10 rfl mixed ?_
    intro wd_8 ed_8
    have E13 : Ext w wd_8 := Mod.trans (E12) (ed_8)
    refine WA.take (i := 0) (m' := 1) (v := ptr b6 1) rfl rfl rfl rfl (by kernel_rfl) rfl (fun _ _ _ h => h) (fun wx hS => ?_) (True.intro) ?_
    · refine WL.fieldAddr hc5_6 fo25_1 rfl ?_
      exact WL.nil ⟨rfl, rfl, rfl⟩
    refine WA.take (i := 2) (m' := 5) (v := St (((I.syms[j]).1))) rfl rfl rfl rfl (by kernel_rfl) rfl (fun _ _ _ h => h) (fun wx hS => ?_) (True.intro) ?_
    · refine WL.move (v := St (((I.syms[j]).1))) rfl rfl ?_
      exact WL.nil ⟨rfl, rfl, rfl⟩
    refine WA.take (i := 3) (m' := 13) (v := ptr b14 0) rfl rfl rfl rfl (by kernel_rfl) rfl (fun _ _ _ h => h) (fun wx hS => ?_) (True.intro) ?_
    · refine WL.move (v := ptr b14 0) hc5_4 rfl ?_
      exact WL.nil ⟨rfl, rfl, rfl⟩
    refine WA.two (i := 1) (j := 4) (mi := 15) (mj := 29) (by kernel_rfl) rfl rfl rfl rfl ?_ ?_
    · have B14 := (((hB6).mod (md37) ((by omega))).mod (md38) ((by omega))).ext (ed_8)
      refine WL.load1 rfl ag22 (B14.cell (j := 1) rfl) rfl ?_
      refine WL.behind (True.intro) ?_
      refine WA.one (i := 4) (m' := 31) (by kernel_rfl) rfl rfl ?_
      have B15 := (Bd38).ext (ed_8)
      have S16 := (Sd38).ext' (ed_8)
      refine WL.call ca30 (rfl) rfl (number_be b14 s38 ((be 4 (I.syms[j]).2 ++ symsT I (j + 1))) (symsT I (j + 1)) 4 ((I.syms[j]).2) _ B15 S16 (fun e => by have h1 := (lt38) _ e; omega) (by decide) (rfl) (by omega) (by omega)) ?_
      rintro _ wd44 ⟨rfl, md44, s44, Bd44, Sd44, eq44⟩
      have lt44 : ∀ g, s44.ownBlock = some g → g < w.heap.size := fun g hg => (lt38) g (eq44.symm.trans hg)
      have E17 : Ext w wd44 := Mod.then (E13) (md44) (fun i hi (e : i = b14) => absurd hi (by omega))
      refine WL.behind (True.intro) ?_
      refine WA.take (i := 5) (m' := 63) (v := .agg #[St (((I.syms[j]).1)), .int .i64 ((I.syms[j]).2)]) rfl rfl rfl rfl (by kernel_rfl) rfl (fun _ _ _ h => h) (fun wx hS => ?_) (True.intro) ?_
      · refine WL.build (v := .agg #[St (((I.syms[j]).1)), .int .i64 ((I.syms[j]).2)]) (vs := [(0, St (((I.syms[j]).1))), (1, .int .i64 ((I.syms[j]).2))]) rfl (bld13_45k (I.syms[j]).1 (I.syms[j]).2) rfl ?_
        exact WL.nil ⟨rfl, rfl, rfl⟩
      refine WA.one (i := 6) (m' := 127) (by kernel_rfl) rfl rfl ?_
      refine WL.buildSlice (vs := [(0, .agg #[St (((I.syms[j]).1)), .int .i64 ((I.syms[j]).2)])]) rfl (bls13_46k (I.syms[j]).1 (I.syms[j]).2) rfl ?_
      intro b46 w46 n46
      have E18 : Ext w w46 := Mod.trans (E17) (n46.ext)
      refine WL.behind (True.intro) ?_
      refine WA.one (i := 7) (m' := 255) (by kernel_rfl) rfl rfl ?_
      have O19 := (((((hO).mod (md37) (fun g hg e => hn14 (hg.trans (congrArg some e)))).mod (md38) (fun g hg e => hn14 (hg.trans (congrArg some e)))).ext (ed_8)).mod (md44) (fun g hg e => hn14 (hg.trans (congrArg some e)))).ext (n46.ext)
      refine WL.append (k := (I.syms.take j).length) (m := 1) (xs := symCells (I.syms.take j)) (news := [St (I.syms[j]).1, .int .i64 (I.syms[j]).2]) ap22 rfl rfl rfl (O19) (Src.ofSlice _ Try.underlying22 ⟨b46, 0, none⟩ 1 1 _ rfl (fun j u hj => by rw [addr_add]; exact (n46.blk).cells j u hj) (sym_one _ _)) (by rw [List.length_take]; omega) (by rw [List.length_take]; omega) rfl ?_
      intro v47 w47 o47 m47 l47
      have o47b : Own w47 2 v47 ((I.syms.take (j + 1)).length) (symCells (I.syms.take (j + 1))) := by rw [symCells_take _ _ hj, show (I.syms.take j).length + 1 = (I.syms.take (j + 1)).length by rw [List.length_take, List.length_take]; omega] at o47; exact o47
      have F20 : From w.heap.size v47 := LocV.from l47 (Mod.size (E18)) (hF)
      have B22 := (((((hB2).mod (md37) ((by omega))).mod (md38) ((by omega))).ext (ed_8)).mod (md44) ((by omega))).ext (n46.ext)
      have N21 : v47.ownBlock ≠ some b2 := LocV.ne l47 ((B22).lt) hn2
      have B24 := ((B14).mod (md44) ((by omega))).ext (n46.ext)
      have N23 : v47.ownBlock ≠ some b6 := LocV.ne l47 ((B24).lt) hn6
      have B26 := (Bd44).ext (n46.ext)
      have N25 : v47.ownBlock ≠ some b14 := LocV.ne l47 ((B26).lt) hn14
      have E27 : Ext w w47 := Mod.from (E18) m47 (hF)
      refine WL.behind (True.intro) ?_
      refine WA.take (i := 8) (m' := 511) (v := ptr b6 1) rfl rfl rfl rfl (by kernel_rfl) rfl (fun _ _ _ h => h) (fun wx hS => ?_) (True.intro) ?_
      · refine WL.fieldAddr hc5_6 fo25_1 rfl ?_
        exact WL.nil ⟨rfl, rfl, rfl⟩
      refine WA.one (i := 9) (m' := 1023) (by kernel_rfl) rfl rfl ?_
      have B28 := (B24).mod (m47) (hn6)
      refine WL.storeB (v := v47) rfl rfl ((o47b).sl).one sz22 B28 (Nat.le_of_ble_eq_true rfl) ?_
      intro ws29 ms29 bs29 zs29
      have E29 : Ext w ws29 := Mod.then (E27) (ms29) (fun i hi (e : i = b6) => absurd hi (by omega))
      refine WL.behind (True.intro) ?_
      refine WA.done (by kernel_rfl) ?_
      refine WC.region ?_
      refine WL.move (v := IN ((I.syms.length - j))) hc5_7 rfl ?_
      refine WL.bin rfl rfl rfl (BinR.subN (a := I.syms.length - j) (b := 1) (by omega) (by omega)) ?_
      refine WL.assign (v := IN ((I.syms.length - j - 1))) rfl rfl ?_
      refine WL.nil ?_
      have B30 := ((B22).mod (m47) (hn2)).mod (ms29) ((by omega))
      have B31 := ((B26).mod (m47) (hn14)).mod (ms29) ((by omega))
      have S32 := (((Sd44).ext' (n46.ext)).mod' (m47) (fun g hg e => by have h1 := (lt44) g hg; have h2 := (hF) g e; omega)).mod' (ms29) (fun g hg (e : g = b6) => by have h1 := (lt44) g hg; omega)
      have O33 := (o47b).mod (ms29) (fun g hg e => N23 (hg.trans (congrArg some e)))
      exact ⟨ka - 1, by omega, (j + 1), (v47), (s44), by omega, lt44, hc5_0, hc5_2, hc5_3, hc5_4, hc5_5, hc5_6, congrArg IN (by omega), hc5_12, hc5_13, hc5_14, hc5_15, hc5_16, hc5_17, hc5_18, hc5_19, hc5_20, hc5_21, hc5_22, hc5_23, E29, B30, bs29, B31, S32, O33, F20, N21, N23, N25⟩
    · have B34 := (Bd38).ext (ed_8)
      have S35 := (Sd38).ext' (ed_8)
      refine WL.call ca30 (rfl) rfl (number_be b14 s38 ((be 4 (I.syms[j]).2 ++ symsT I (j + 1))) (symsT I (j + 1)) 4 ((I.syms[j]).2) _ B34 S35 (fun e => by have h1 := (lt38) _ e; omega) (by decide) (rfl) (by omega) (by omega)) ?_
      rintro _ wd44 ⟨rfl, md44, s44, Bd44, Sd44, eq44⟩
      have lt44 : ∀ g, s44.ownBlock = some g → g < w.heap.size := fun g hg => (lt38) g (eq44.symm.trans hg)
      have E36 : Ext w wd44 := Mod.then (E13) (md44) (fun i hi (e : i = b14) => absurd hi (by omega))
      refine WL.behind (True.intro) ?_
      refine WA.take (i := 5) (m' := 61) (v := .agg #[St (((I.syms[j]).1)), .int .i64 ((I.syms[j]).2)]) rfl rfl rfl rfl (by kernel_rfl) rfl (fun _ _ _ h => h) (fun wx hS => ?_) (True.intro) ?_
      · refine WL.build (v := .agg #[St (((I.syms[j]).1)), .int .i64 ((I.syms[j]).2)]) (vs := [(0, St (((I.syms[j]).1))), (1, .int .i64 ((I.syms[j]).2))]) rfl (bld13_45k (I.syms[j]).1 (I.syms[j]).2) rfl ?_
        exact WL.nil ⟨rfl, rfl, rfl⟩
      refine WA.two (i := 1) (j := 6) (mi := 63) (mj := 125) (by kernel_rfl) rfl rfl rfl rfl ?_ ?_
      · have B37 := ((((hB6).mod (md37) ((by omega))).mod (md38) ((by omega))).ext (ed_8)).mod (md44) ((by omega))
        refine WL.load1 rfl ag22 (B37.cell (j := 1) rfl) rfl ?_
        refine WL.behind (True.intro) ?_
        refine WA.one (i := 6) (m' := 127) (by kernel_rfl) rfl rfl ?_
        refine WL.buildSlice (vs := [(0, .agg #[St (((I.syms[j]).1)), .int .i64 ((I.syms[j]).2)])]) rfl (bls13_46k (I.syms[j]).1 (I.syms[j]).2) rfl ?_
        intro b46 w46 n46
        have E38 : Ext w w46 := Mod.trans (E36) (n46.ext)
        refine WL.behind (True.intro) ?_
        refine WA.one (i := 7) (m' := 255) (by kernel_rfl) rfl rfl ?_
        have O39 := (((((hO).mod (md37) (fun g hg e => hn14 (hg.trans (congrArg some e)))).mod (md38) (fun g hg e => hn14 (hg.trans (congrArg some e)))).ext (ed_8)).mod (md44) (fun g hg e => hn14 (hg.trans (congrArg some e)))).ext (n46.ext)
        refine WL.append (k := (I.syms.take j).length) (m := 1) (xs := symCells (I.syms.take j)) (news := [St (I.syms[j]).1, .int .i64 (I.syms[j]).2]) ap22 rfl rfl rfl (O39) (Src.ofSlice _ Try.underlying22 ⟨b46, 0, none⟩ 1 1 _ rfl (fun j u hj => by rw [addr_add]; exact (n46.blk).cells j u hj) (sym_one _ _)) (by rw [List.length_take]; omega) (by rw [List.length_take]; omega) rfl ?_
        intro v47 w47 o47 m47 l47
        have o47b : Own w47 2 v47 ((I.syms.take (j + 1)).length) (symCells (I.syms.take (j + 1))) := by rw [symCells_take _ _ hj, show (I.syms.take j).length + 1 = (I.syms.take (j + 1)).length by rw [List.length_take, List.length_take]; omega] at o47; exact o47
        have F40 : From w.heap.size v47 := LocV.from l47 (Mod.size (E38)) (hF)
        have B42 := (((((hB2).mod (md37) ((by omega))).mod (md38) ((by omega))).ext (ed_8)).mod (md44) ((by omega))).ext (n46.ext)
        have N41 : v47.ownBlock ≠ some b2 := LocV.ne l47 ((B42).lt) hn2
        have B44 := (B37).ext (n46.ext)
        have N43 : v47.ownBlock ≠ some b6 := LocV.ne l47 ((B44).lt) hn6
        have B46 := (Bd44).ext (n46.ext)
        have N45 : v47.ownBlock ≠ some b14 := LocV.ne l47 ((B46).lt) hn14
        have E47 : Ext w w47 := Mod.from (E38) m47 (hF)
        refine WL.behind (True.intro) ?_
        refine WA.take (i := 8) (m' := 511) (v := ptr b6 1) rfl rfl rfl rfl (by kernel_rfl) rfl (fun _ _ _ h => h) (fun wx hS => ?_) (True.intro) ?_
        · refine WL.fieldAddr hc5_6 fo25_1 rfl ?_
          exact WL.nil ⟨rfl, rfl, rfl⟩
        refine WA.one (i := 9) (m' := 1023) (by kernel_rfl) rfl rfl ?_
        have B48 := (B44).mod (m47) (hn6)
        refine WL.storeB (v := v47) rfl rfl ((o47b).sl).one sz22 B48 (Nat.le_of_ble_eq_true rfl) ?_
        intro ws49 ms49 bs49 zs49
        have E49 : Ext w ws49 := Mod.then (E47) (ms49) (fun i hi (e : i = b6) => absurd hi (by omega))
        refine WL.behind (True.intro) ?_
        refine WA.done (by kernel_rfl) ?_
        refine WC.region ?_
        refine WL.move (v := IN ((I.syms.length - j))) hc5_7 rfl ?_
        refine WL.bin rfl rfl rfl (BinR.subN (a := I.syms.length - j) (b := 1) (by omega) (by omega)) ?_
        refine WL.assign (v := IN ((I.syms.length - j - 1))) rfl rfl ?_
        refine WL.nil ?_
        have B50 := ((B42).mod (m47) (hn2)).mod (ms49) ((by omega))
        have B51 := ((B46).mod (m47) (hn14)).mod (ms49) ((by omega))
        have S52 := (((Sd44).ext' (n46.ext)).mod' (m47) (fun g hg e => by have h1 := (lt44) g hg; have h2 := (hF) g e; omega)).mod' (ms49) (fun g hg (e : g = b6) => by have h1 := (lt44) g hg; omega)
        have O53 := (o47b).mod (ms49) (fun g hg e => N43 (hg.trans (congrArg some e)))
        exact ⟨ka - 1, by omega, (j + 1), (v47), (s44), by omega, lt44, hc5_0, hc5_2, hc5_3, hc5_4, hc5_5, hc5_6, congrArg IN (by omega), hc5_12, hc5_13, hc5_14, hc5_15, hc5_16, hc5_17, hc5_18, hc5_19, hc5_20, hc5_21, hc5_22, hc5_23, E49, B50, bs49, B51, S52, O53, F40, N41, N43, N45⟩
      · refine WL.buildSlice (vs := [(0, .agg #[St (((I.syms[j]).1)), .int .i64 ((I.syms[j]).2)])]) rfl (bls13_46k (I.syms[j]).1 (I.syms[j]).2) rfl ?_
        intro b46 w46 n46
        have E54 : Ext w w46 := Mod.trans (E36) (n46.ext)
        refine WL.behind (True.intro) ?_
        refine WA.one (i := 1) (m' := 127) (by kernel_rfl) rfl rfl ?_
        have B55 := (((((hB6).mod (md37) ((by omega))).mod (md38) ((by omega))).ext (ed_8)).mod (md44) ((by omega))).ext (n46.ext)
        refine WL.load1 rfl ag22 (B55.cell (j := 1) rfl) rfl ?_
        refine WL.behind (True.intro) ?_
        refine WA.one (i := 7) (m' := 255) (by kernel_rfl) rfl rfl ?_
        have O56 := (((((hO).mod (md37) (fun g hg e => hn14 (hg.trans (congrArg some e)))).mod (md38) (fun g hg e => hn14 (hg.trans (congrArg some e)))).ext (ed_8)).mod (md44) (fun g hg e => hn14 (hg.trans (congrArg some e)))).ext (n46.ext)
        refine WL.append (k := (I.syms.take j).length) (m := 1) (xs := symCells (I.syms.take j)) (news := [St (I.syms[j]).1, .int .i64 (I.syms[j]).2]) ap22 rfl rfl rfl (O56) (Src.ofSlice _ Try.underlying22 ⟨b46, 0, none⟩ 1 1 _ rfl (fun j u hj => by rw [addr_add]; exact (n46.blk).cells j u hj) (sym_one _ _)) (by rw [List.length_take]; omega) (by rw [List.length_take]; omega) rfl ?_
        intro v47 w47 o47 m47 l47
        have o47b : Own w47 2 v47 ((I.syms.take (j + 1)).length) (symCells (I.syms.take (j + 1))) := by rw [symCells_take _ _ hj, show (I.syms.take j).length + 1 = (I.syms.take (j + 1)).length by rw [List.length_take, List.length_take]; omega] at o47; exact o47
        have F57 : From w.heap.size v47 := LocV.from l47 (Mod.size (E54)) (hF)
        have B59 := (((((hB2).mod (md37) ((by omega))).mod (md38) ((by omega))).ext (ed_8)).mod (md44) ((by omega))).ext (n46.ext)
        have N58 : v47.ownBlock ≠ some b2 := LocV.ne l47 ((B59).lt) hn2
        have N60 : v47.ownBlock ≠ some b6 := LocV.ne l47 ((B55).lt) hn6
        have B62 := (Bd44).ext (n46.ext)
        have N61 : v47.ownBlock ≠ some b14 := LocV.ne l47 ((B62).lt) hn14
        have E63 : Ext w w47 := Mod.from (E54) m47 (hF)
        refine WL.behind (True.intro) ?_
        refine WA.take (i := 8) (m' := 511) (v := ptr b6 1) rfl rfl rfl rfl (by kernel_rfl) rfl (fun _ _ _ h => h) (fun wx hS => ?_) (True.intro) ?_
        · refine WL.fieldAddr hc5_6 fo25_1 rfl ?_
          exact WL.nil ⟨rfl, rfl, rfl⟩
        refine WA.one (i := 9) (m' := 1023) (by kernel_rfl) rfl rfl ?_
        have B64 := (B55).mod (m47) (hn6)
        refine WL.storeB (v := v47) rfl rfl ((o47b).sl).one sz22 B64 (Nat.le_of_ble_eq_true rfl) ?_
        intro ws65 ms65 bs65 zs65
        have E65 : Ext w ws65 := Mod.then (E63) (ms65) (fun i hi (e : i = b6) => absurd hi (by omega))
        refine WL.behind (True.intro) ?_
        refine WA.done (by kernel_rfl) ?_
        refine WC.region ?_
        refine WL.move (v := IN ((I.syms.length - j))) hc5_7 rfl ?_
        refine WL.bin rfl rfl rfl (BinR.subN (a := I.syms.length - j) (b := 1) (by omega) (by omega)) ?_
        refine WL.assign (v := IN ((I.syms.length - j - 1))) rfl rfl ?_
        refine WL.nil ?_
        have B66 := ((B59).mod (m47) (hn2)).mod (ms65) ((by omega))
        have B67 := ((B62).mod (m47) (hn14)).mod (ms65) ((by omega))
        have S68 := (((Sd44).ext' (n46.ext)).mod' (m47) (fun g hg e => by have h1 := (lt44) g hg; have h2 := (hF) g e; omega)).mod' (ms65) (fun g hg (e : g = b6) => by have h1 := (lt44) g hg; omega)
        have O69 := (o47b).mod (ms65) (fun g hg e => N60 (hg.trans (congrArg some e)))
        exact ⟨ka - 1, by omega, (j + 1), (v47), (s44), by omega, lt44, hc5_0, hc5_2, hc5_3, hc5_4, hc5_5, hc5_6, congrArg IN (by omega), hc5_12, hc5_13, hc5_14, hc5_15, hc5_16, hc5_17, hc5_18, hc5_19, hc5_20, hc5_21, hc5_22, hc5_23, E65, B66, bs65, B67, S68, O69, F57, N58, N60, N61⟩
  · have hj : I.syms.length ≤ j := by simp at hc32; omega
    refine WC.exit ?_
    refine WC.seq ?_
    refine WC.seq ?_
    refine WC.region ?_
    refine WL.move (v := ptr b14 0) hc5_4 rfl ?_
    refine WL.call ca30 (rfl) rfl (number_be b14 sr ((symsT I j)) (wordsT I 0) 4 (((I.words.length : Nat) : Int)) _ hrb hsr (fun e => by have h1 := (hltr) _ e; omega) (by decide) (symsT_end I j hj) (by omega) (by omega)) ?_
    rintro _ wd50 ⟨rfl, md50, s50, Bd50, Sd50, eq50⟩
    have lt50 : ∀ g, s50.ownBlock = some g → g < w.heap.size := fun g hg => (hltr) g (eq50.symm.trans hg)
    have E70 : Ext w wd50 := Mod.then (hE) (md50) (fun i hi (e : i = b14) => absurd hi (by omega))
    refine WL.assign (v := IN (I.words.length)) rfl rfl ?_
    refine WL.nil ?_
    refine WC.block ?_
    refine WC.loop (fun k f w_ => ∃ i x sq, (k + i = I.words.length) ∧ (∀ g, sq.ownBlock = some g → g < w.heap.size) ∧ (0 < (I.syms.take j).length → ∀ g, u.ownBlock = some g → x.ownBlock ≠ some g) ∧ f 0 = sv ∧ f 2 = ptr b2 0 ∧ f 3 = IN (0) ∧ f 4 = ptr b14 0 ∧ f 5 = .bool (true) ∧ f 6 = ptr b6 0 ∧ f 7 = IN ((I.syms.length - j)) ∧ f 9 = IN ((I.words.length - i)) ∧ f 12 = sv ∧ f 13 = .agg #[sv, .bool (false)] ∧ f 14 = ptr b14 0 ∧ f 15 = ptr b14 0 ∧ f 16 = vt16 ∧ f 17 = St (magic) ∧ f 18 = .bool (true) ∧ f 19 = ptr b14 0 ∧ f 20 = .int .i64 (I.entry) ∧ f 21 = .agg #[.int .i64 (I.entry), .slice none 0 0, .slice none 0 0] ∧ f 22 = ptr b14 0 ∧ f 23 = IN (I.syms.length) ∧ f 32 = .bool ((decide (0 < ((I.syms.length - j : Nat) : Int)) && !(false))) ∧ f 49 = ptr b14 0 ∧ f 50 = IN (I.words.length) ∧ (Ext w w_) ∧ (Blk w_ b2 #[.int .i64 0, .slice none 0 0, .slice none 0 0] 25) ∧ (Blk w_ b6 #[.int .i64 I.entry, u, x] 25) ∧ (Blk w_ b14 #[sq, .bool false] 64) ∧ (Sl w_ sq 1 (wordsT I i).length (bs (wordsT I i))) ∧ (Sl w_ u 2 (I.syms.take j).length (symCells (I.syms.take j))) ∧ (Own w_ 1 x (I.words.take i).length (wordCells (I.words.take i))) ∧ (From w.heap.size x) ∧ (x.ownBlock ≠ some b2) ∧ (x.ownBlock ≠ some b6) ∧ (x.ownBlock ≠ some b14)) (I.words.length) ?_ ?_
    have B71 := (hB2).mod (md50) ((by omega))
    have B72 := (hB6).mod (md50) ((by omega))
    have O73 := (hO).mod (md50) (fun g hg e => hn14 (hg.trans (congrArg some e)))
    · exact ⟨(0), (.slice none 0 0), (s50), by omega, lt50, (fun _ g _ e => by cases e), hc5_0, hc5_2, hc5_3, hc5_4, hc5_5, hc5_6, hc5_7, rfl, hc5_12, hc5_13, hc5_14, hc5_15, hc5_16, hc5_17, hc5_18, hc5_19, hc5_20, hc5_21, hc5_22, hc5_23, hc5_32, rfl, rfl, E70, B71, B72, Bd50, Sd50, (O73).sl, Own.nil _ _, (fun g hg => by cases hg), (fun h => by cases h), (fun h => by cases h), (fun h => by cases h)⟩
    rintro kb f2 wr2 ⟨i, x, sq, hk2, hltq, hux, h0_2, h2_2, h3_2, h4_2, h5_2, h6_2, h7_2, h9_2, h12_2, h13_2, h14_2, h15_2, h16_2, h17_2, h18_2, h19_2, h20_2, h21_2, h22_2, h23_2, h32_2, h49_2, h50_2, hE2, hB22, hB62, hrb2, hsq, hU, hX, hFx, hx2, hx6, hx14⟩
    have hlen := wordsT_len I i (by omega)
    refine WC.seq ?_
    refine WC.seq ?_
    refine WC.cut (fun f' w_ => f' 0 = sv ∧ f' 2 = ptr b2 0 ∧ f' 3 = IN (0) ∧ f' 4 = ptr b14 0 ∧ f' 5 = .bool (true) ∧ f' 6 = ptr b6 0 ∧ f' 7 = IN ((I.syms.length - j)) ∧ f' 9 = IN ((I.words.length - i)) ∧ f' 12 = sv ∧ f' 13 = .agg #[sv, .bool (false)] ∧ f' 14 = ptr b14 0 ∧ f' 15 = ptr b14 0 ∧ f' 16 = vt16 ∧ f' 17 = St (magic) ∧ f' 18 = .bool (true) ∧ f' 19 = ptr b14 0 ∧ f' 20 = .int .i64 (I.entry) ∧ f' 21 = .agg #[.int .i64 (I.entry), .slice none 0 0, .slice none 0 0] ∧ f' 22 = ptr b14 0 ∧ f' 23 = IN (I.syms.length) ∧ f' 32 = .bool ((decide (0 < ((I.syms.length - j : Nat) : Int)) && !(false))) ∧ f' 49 = ptr b14 0 ∧ f' 50 = IN (I.words.length) ∧ f' 69 = .bool ((decide (0 < ((I.words.length - i : Nat) : Int)) && !(false) && decide (((I.words.length - i : Nat) : Int) ≤ (((wordsT I i).length : Nat) : Int) / 4))) ∧ wr2 = w_) ?_ ?_
    · refine WC.region ?_
      refine WL.move (v := IN ((I.words.length - i))) h9_2 rfl ?_
      refine WL.bin rfl rfl rfl (BinR.gtr) ?_
      refine WL.move (v := .bool (decide ((0 : Int) < (((I.words.length - i) : Nat) : Int)))) rfl rfl ?_
      rcases Bool.eq_false_or_eq_true (decide ((0 : Int) < (((I.words.length - i) : Nat) : Int))) with hg53 | hg53
      · refine WL.guardT (yf_bool rfl rfl hg53) ?_
        refine WL.move (v := ptr b14 0) h4_2 rfl ?_
        refine WL.guardT (yf_bool rfl rfl hg53) ?_
        refine WL.nilCheck rfl rfl ?_
        refine WL.guardT (yf_bool rfl rfl hg53) ?_
        refine WL.fieldAddr rfl fo64_1 rfl ?_
        refine WL.guardT (yf_bool rfl rfl hg53) ?_
        refine WL.load1 rfl ag4 (hrb2.cell (j := 1) rfl) rfl ?_
        refine WL.guardT (yf_bool rfl rfl hg53) ?_
        refine WL.un rfl rfl UnR.not ?_
        refine WL.pick (b := true) (congrArg Value.bool hg53) rfl rfl ?_
        refine WL.move (v := .bool (true)) rfl rfl ?_
        refine WL.guardT (rfl) ?_
        refine WL.move (v := IN ((I.words.length - i))) h9_2 rfl ?_
        refine WL.guardT (rfl) ?_
        refine WL.move (v := ptr b14 0) h4_2 rfl ?_
        refine WL.guardT (rfl) ?_
        refine WL.nilCheck rfl rfl ?_
        refine WL.guardT (rfl) ?_
        refine WL.fieldAddr rfl fo64_0 rfl ?_
        refine WL.guardT (rfl) ?_
        refine WL.load1 rfl ag28 (hrb2.cell (j := 0) rfl) rfl ?_
        refine WL.guardT (rfl) ?_
        refine WL.lenSl (sz := 1) (m := (wordsT I i).length) (xs := bs (wordsT I i)) el28 rfl (hsq) rfl ?_
        refine WL.guardT (rfl) ?_
        refine WL.bin rfl rfl rfl (BinR.quoI (by omega) (by decide) (by omega)) ?_
        refine WL.guardT (rfl) ?_
        refine WL.bin rfl rfl rfl (BinR.leq) ?_
        refine WL.pick (b := true) rfl rfl rfl ?_
        refine WL.nil ?_
        have hcut : (decide ((((I.words.length - i) : Nat) : Int) ≤ ((((wordsT I i).length : Nat) : Int) / 4 : Int))) = (decide (0 < ((I.words.length - i : Nat) : Int)) && !(false) && decide (((I.words.length - i : Nat) : Int) ≤ (((wordsT I i).length : Nat) : Int) / 4)) := by simp only [*, Bool.not_false, Bool.true_or, Bool.or_true, Bool.false_or, Bool.or_false, Bool.true_and, Bool.and_true, Bool.false_and, Bool.and_false]
        exact ⟨rfl, h0_2, h2_2, h3_2, h4_2, h5_2, h6_2, h7_2, h9_2, h12_2, h13_2, h14_2, h15_2, h16_2, h17_2, h18_2, h19_2, h20_2, h21_2, h22_2, h23_2, h32_2, h49_2, h50_2, congrArg Value.bool hcut, rfl⟩
      · refine WL.guardF (b' := false) (yf_bool rfl rfl hg53) rfl rfl ?_
        refine WL.guardF (b' := false) (yf_bool rfl rfl hg53) rfl rfl ?_
        refine WL.guardF (b' := false) (yf_bool rfl rfl hg53) rfl rfl ?_
        refine WL.guardF (b' := false) (yf_bool rfl rfl hg53) rfl rfl ?_
        refine WL.guardF (b' := false) (yf_bool rfl rfl hg53) rfl rfl ?_
        refine WL.pick (b := false) (congrArg Value.bool hg53) rfl rfl ?_
        refine WL.move (v := .bool (false)) rfl rfl ?_
        refine WL.guardF (b' := false) (rfl) rfl rfl ?_
        refine WL.guardF (b' := false) (rfl) rfl rfl ?_
        refine WL.guardF (b' := false) (rfl) rfl rfl ?_
        refine WL.guardF (b' := false) (rfl) rfl rfl ?_
        refine WL.guardF (b' := false) (rfl) rfl rfl ?_
        refine WL.guardF (b' := false) (rfl) rfl rfl ?_
        refine WL.guardF (b' := false) (rfl) rfl rfl ?_
        refine WL.guardF (b' := false) (rfl) rfl rfl ?_
        refine WL.pick (b := false) rfl rfl rfl ?_
        refine WL.nil ?_
        have hcut : (false) = (decide (0 < ((I.words.length - i : Nat) : Int)) && !(false) && decide (((I.words.length - i : Nat) : Int) ≤ (((wordsT I i).length : Nat) : Int) / 4)) := by simp only [*, Bool.not_false, Bool.true_or, Bool.or_true, Bool.false_or, Bool.or_false, Bool.true_and, Bool.and_true, Bool.false_and, Bool.and_false]
        exact ⟨rfl, h0_2, h2_2, h3_2, h4_2, h5_2, h6_2, h7_2, h9_2, h12_2, h13_2, h14_2, h15_2, h16_2, h17_2, h18_2, h19_2, h20_2, h21_2, h22_2, h23_2, h32_2, h49_2, h50_2, congrArg Value.bool hcut, rfl⟩
    rintro fc10 _ ⟨hc10_0, hc10_2, hc10_3, hc10_4, hc10_5, hc10_6, hc10_7, hc10_9, hc10_12, hc10_13, hc10_14, hc10_15, hc10_16, hc10_17, hc10_18, hc10_19, hc10_20, hc10_21, hc10_22, hc10_23, hc10_32, hc10_49, hc10_50, hc10_69, rfl⟩
    refine WC.cond hc10_69 (fun hc69 => ?_) (fun hc69 => ?_)
    · have hi : i < I.words.length := by rw [Bool.and_eq_true, Bool.and_eq_true] at hc69; have := of_decide_eq_true hc69.1.1; omega
      have hwl := (I.words[i]).isLt
      refine WC.skip ?_
      refine WC.seq ?_
      refine WC.block ?_
      refine WC.draw (fun _ => True) 9 rfl mixed ?_
      intro wd_12 ed_12
      have R74 : Ext wr2 wd_12 := Mod.trans (Mod.refl _ _) (ed_12)
      have E75 : Ext w wd_12 := Mod.trans (hE2) (ed_12)
      refine WA.take (i := 0) (m' := 1) (v := ptr b6 2) rfl rfl rfl rfl (by kernel_rfl) rfl (fun _ _ _ h => h) (fun wx hS => ?_) (True.intro) ?_
      · refine WL.fieldAddr hc10_6 fo25_2 rfl ?_
        exact WL.nil ⟨rfl, rfl, rfl⟩
      refine WA.take (i := 2) (m' := 5) (v := ptr b14 0) rfl rfl rfl rfl (by kernel_rfl) rfl (fun _ _ _ h => h) (fun wx hS => ?_) (True.intro) ?_
      · refine WL.move (v := ptr b14 0) hc10_4 rfl ?_
        exact WL.nil ⟨rfl, rfl, rfl⟩
      refine WA.two (i := 1) (j := 3) (mi := 7) (mj := 13) (by kernel_rfl) rfl rfl rfl rfl ?_ ?_
      · have B76 := (hB62).ext (ed_12)
        refine WL.load1 rfl ag23 (B76.cell (j := 2) rfl) rfl ?_
        refine WL.behind (True.intro) ?_
        refine WA.one (i := 3) (m' := 15) (by kernel_rfl) rfl rfl ?_
        have B77 := (hrb2).ext (ed_12)
        have S78 := (hsq).ext' (ed_12)
        refine WL.call ca30 (rfl) rfl (number_be b14 sq ((wordsT I i)) (wordsT I (i + 1)) 4 (((I.words[i]).toNat : Int)) _ B77 S78 (fun e => by have h1 := (hltq) _ e; omega) (by decide) (wordsT_step I i hi) (by omega) (by omega)) ?_
        rintro _ wd75 ⟨rfl, md75, s75, Bd75, Sd75, eq75⟩
        have lt75 : ∀ g, s75.ownBlock = some g → g < w.heap.size := fun g hg => (hltq) g (eq75.symm.trans hg)
        have E79 : Ext w wd75 := Mod.then (E75) (md75) (fun i hi (e : i = b14) => absurd hi (by omega))
        refine WL.behind (True.intro) ?_
        refine WA.take (i := 4) (m' := 31) (v := U32 ((I.words[i]))) rfl rfl rfl rfl (by kernel_rfl) rfl (fun _ _ _ h => h) (fun wx hS => ?_) (True.intro) ?_
        · refine WL.conv rfl rfl (conv_u32' Try.underlying3 Try.underlying42 _) ?_
          exact WL.nil ⟨rfl, rfl, rfl⟩
        refine WA.one (i := 5) (m' := 63) (by kernel_rfl) rfl rfl ?_
        refine WL.buildSlice (vs := [(0, U32 ((I.words[i])))]) rfl (bls13_77k (I.words[i])) rfl ?_
        intro b77 w77 n77
        have E80 : Ext w w77 := Mod.trans (E79) (n77.ext)
        refine WL.behind (True.intro) ?_
        refine WA.one (i := 6) (m' := 127) (by kernel_rfl) rfl rfl ?_
        have O81 := (((hX).ext (ed_12)).mod (md75) (fun g hg e => hx14 (hg.trans (congrArg some e)))).ext (n77.ext)
        have S82 := (((hU).ext' (ed_12)).mod' (md75) (fun g hg e => hn14 (hg.trans (congrArg some e)))).ext' (n77.ext)
        refine WL.append (k := (I.words.take i).length) (m := 1) (xs := wordCells (I.words.take i)) (news := [U32 (I.words[i])]) ap23 rfl rfl rfl (O81) (Src.ofSlice _ Try.underlying23 ⟨b77, 0, none⟩ 1 1 _ rfl (fun j u hj => by rw [addr_add]; exact (n77.blk).cells j u hj) (fun u hu => by obtain rfl := List.mem_singleton.1 hu; rfl)) (by rw [List.length_take]; omega) (by rw [List.length_take]; omega) rfl ?_
        intro v78 w78 o78 m78 l78
        have o78b : Own w78 1 v78 ((I.words.take (i + 1)).length) (wordCells (I.words.take (i + 1))) := by rw [wordCells_take _ _ hi, show (I.words.take i).length + 1 = (I.words.take (i + 1)).length by rw [List.length_take, List.length_take]; omega] at o78; exact o78
        have F83 : From w.heap.size v78 := LocV.from l78 (Mod.size (E80)) (hFx)
        have B85 := (((hB22).ext (ed_12)).mod (md75) ((by omega))).ext (n77.ext)
        have N84 : v78.ownBlock ≠ some b2 := LocV.ne l78 ((B85).lt) hx2
        have B87 := ((B76).mod (md75) ((by omega))).ext (n77.ext)
        have N86 : v78.ownBlock ≠ some b6 := LocV.ne l78 ((B87).lt) hx6
        have B89 := (Bd75).ext (n77.ext)
        have N88 : v78.ownBlock ≠ some b14 := LocV.ne l78 ((B89).lt) hx14
        have E90 : Ext w w78 := Mod.from (E80) m78 (hFx)
        refine WL.behind (True.intro) ?_
        refine WA.take (i := 7) (m' := 255) (v := ptr b6 2) rfl rfl rfl rfl (by kernel_rfl) rfl (fun _ _ _ h => h) (fun wx hS => ?_) (True.intro) ?_
        · refine WL.fieldAddr hc10_6 fo25_2 rfl ?_
          exact WL.nil ⟨rfl, rfl, rfl⟩
        refine WA.one (i := 8) (m' := 511) (by kernel_rfl) rfl rfl ?_
        have B91 := (B87).mod (m78) (hx6)
        refine WL.storeB (v := v78) rfl rfl ((o78b).sl).one sz23 B91 (Nat.le_of_ble_eq_true rfl) ?_
        intro ws92 ms92 bs92 zs92
        have E92 : Ext w ws92 := Mod.then (E90) (ms92) (fun i hi (e : i = b6) => absurd hi (by omega))
        refine WL.behind (True.intro) ?_
        refine WA.done (by kernel_rfl) ?_
        refine WC.region ?_
        refine WL.move (v := IN ((I.words.length - i))) hc10_9 rfl ?_
        refine WL.bin rfl rfl rfl (BinR.subN (a := I.words.length - i) (b := 1) (by omega) (by omega)) ?_
        refine WL.assign (v := IN ((I.words.length - i - 1))) rfl rfl ?_
        refine WL.nil ?_
        have B93 := ((B85).mod (m78) (hx2)).mod (ms92) ((by omega))
        have B94 := ((B89).mod (m78) (hx14)).mod (ms92) ((by omega))
        have S95 := (((Sd75).ext' (n77.ext)).mod' (m78) (fun g hg e => by have h1 := (lt75) g hg; have h2 := (hFx) g e; omega)).mod' (ms92) (fun g hg (e : g = b6) => by have h1 := (lt75) g hg; omega)
        have S96 := ((S82).modp (m78) (fun h0 g hg e => hux h0 g hg e)).mod' (ms92) (fun g hg e => hn6 (hg.trans (congrArg some e)))
        have O97 := (o78b).mod (ms92) (fun g hg e => N86 (hg.trans (congrArg some e)))
        exact ⟨kb - 1, by omega, (i + 1), (v78), (s75), by omega, lt75, (fun h0 g hg => LocV.ne l78 ((S82).lt h0 (by decide) hg) (hux h0 g hg)), hc10_0, hc10_2, hc10_3, hc10_4, hc10_5, hc10_6, hc10_7, congrArg IN (by omega), hc10_12, hc10_13, hc10_14, hc10_15, hc10_16, hc10_17, hc10_18, hc10_19, hc10_20, hc10_21, hc10_22, hc10_23, hc10_32, hc10_49, hc10_50, E92, B93, bs92, B94, S95, S96, O97, F83, N84, N86, N88⟩
      · have B98 := (hrb2).ext (ed_12)
        have S99 := (hsq).ext' (ed_12)
        refine WL.call ca30 (rfl) rfl (number_be b14 sq ((wordsT I i)) (wordsT I (i + 1)) 4 (((I.words[i]).toNat : Int)) _ B98 S99 (fun e => by have h1 := (hltq) _ e; omega) (by decide) (wordsT_step I i hi) (by omega) (by omega)) ?_
        rintro _ wd75 ⟨rfl, md75, s75, Bd75, Sd75, eq75⟩
        have lt75 : ∀ g, s75.ownBlock = some g → g < w.heap.size := fun g hg => (hltq) g (eq75.symm.trans hg)
        have E100 : Ext w wd75 := Mod.then (E75) (md75) (fun i hi (e : i = b14) => absurd hi (by omega))
        refine WL.behind (True.intro) ?_
        refine WA.take (i := 4) (m' := 29) (v := U32 ((I.words[i]))) rfl rfl rfl rfl (by kernel_rfl) rfl (fun _ _ _ h => h) (fun wx hS => ?_) (True.intro) ?_
        · refine WL.conv rfl rfl (conv_u32' Try.underlying3 Try.underlying42 _) ?_
          exact WL.nil ⟨rfl, rfl, rfl⟩
        refine WA.two (i := 1) (j := 5) (mi := 31) (mj := 61) (by kernel_rfl) rfl rfl rfl rfl ?_ ?_
        · have B101 := ((hB62).ext (ed_12)).mod (md75) ((by omega))
          refine WL.load1 rfl ag23 (B101.cell (j := 2) rfl) rfl ?_
          refine WL.behind (True.intro) ?_
          refine WA.one (i := 5) (m' := 63) (by kernel_rfl) rfl rfl ?_
          refine WL.buildSlice (vs := [(0, U32 ((I.words[i])))]) rfl (bls13_77k (I.words[i])) rfl ?_
          intro b77 w77 n77
          have E102 : Ext w w77 := Mod.trans (E100) (n77.ext)
          refine WL.behind (True.intro) ?_
          refine WA.one (i := 6) (m' := 127) (by kernel_rfl) rfl rfl ?_
          have O103 := (((hX).ext (ed_12)).mod (md75) (fun g hg e => hx14 (hg.trans (congrArg some e)))).ext (n77.ext)
          have S104 := (((hU).ext' (ed_12)).mod' (md75) (fun g hg e => hn14 (hg.trans (congrArg some e)))).ext' (n77.ext)
          refine WL.append (k := (I.words.take i).length) (m := 1) (xs := wordCells (I.words.take i)) (news := [U32 (I.words[i])]) ap23 rfl rfl rfl (O103) (Src.ofSlice _ Try.underlying23 ⟨b77, 0, none⟩ 1 1 _ rfl (fun j u hj => by rw [addr_add]; exact (n77.blk).cells j u hj) (fun u hu => by obtain rfl := List.mem_singleton.1 hu; rfl)) (by rw [List.length_take]; omega) (by rw [List.length_take]; omega) rfl ?_
          intro v78 w78 o78 m78 l78
          have o78b : Own w78 1 v78 ((I.words.take (i + 1)).length) (wordCells (I.words.take (i + 1))) := by rw [wordCells_take _ _ hi, show (I.words.take i).length + 1 = (I.words.take (i + 1)).length by rw [List.length_take, List.length_take]; omega] at o78; exact o78
          have F105 : From w.heap.size v78 := LocV.from l78 (Mod.size (E102)) (hFx)
          have B107 := (((hB22).ext (ed_12)).mod (md75) ((by omega))).ext (n77.ext)
          have N106 : v78.ownBlock ≠ some b2 := LocV.ne l78 ((B107).lt) hx2
          have B109 := (B101).ext (n77.ext)
          have N108 : v78.ownBlock ≠ some b6 := LocV.ne l78 ((B109).lt) hx6
          have B111 := (Bd75).ext (n77.ext)
          have N110 : v78.ownBlock ≠ some b14 := LocV.ne l78 ((B111).lt) hx14
          have E112 : Ext w w78 := Mod.from (E102) m78 (hFx)
          refine WL.behind (True.intro) ?_
          refine WA.take (i := 7) (m' := 255) (v := ptr b6 2) rfl rfl rfl rfl (by kernel_rfl) rfl (fun _ _ _ h => h) (fun wx hS => ?_) (True.intro) ?_
          · refine WL.fieldAddr hc10_6 fo25_2 rfl ?_
            exact WL.nil ⟨rfl, rfl, rfl⟩
          refine WA.one (i := 8) (m' := 511) (by kernel_rfl) rfl rfl ?_
          have B113 := (B109).mod (m78) (hx6)
          refine WL.storeB (v := v78) rfl rfl ((o78b).sl).one sz23 B113 (Nat.le_of_ble_eq_true rfl) ?_
          intro ws114 ms114 bs114 zs114
          have E114 : Ext w ws114 := Mod.then (E112) (ms114) (fun i hi (e : i = b6) => absurd hi (by omega))
          refine WL.behind (True.intro) ?_
          refine WA.done (by kernel_rfl) ?_
          refine WC.region ?_
          refine WL.move (v := IN ((I.words.length - i))) hc10_9 rfl ?_
          refine WL.bin rfl rfl rfl (BinR.subN (a := I.words.length - i) (b := 1) (by omega) (by omega)) ?_
          refine WL.assign (v := IN ((I.words.length - i - 1))) rfl rfl ?_
          refine WL.nil ?_
          have B115 := ((B107).mod (m78) (hx2)).mod (ms114) ((by omega))
          have B116 := ((B111).mod (m78) (hx14)).mod (ms114) ((by omega))
          have S117 := (((Sd75).ext' (n77.ext)).mod' (m78) (fun g hg e => by have h1 := (lt75) g hg; have h2 := (hFx) g e; omega)).mod' (ms114) (fun g hg (e : g = b6) => by have h1 := (lt75) g hg; omega)
          have S118 := ((S104).modp (m78) (fun h0 g hg e => hux h0 g hg e)).mod' (ms114) (fun g hg e => hn6 (hg.trans (congrArg some e)))
          have O119 := (o78b).mod (ms114) (fun g hg e => N108 (hg.trans (congrArg some e)))
          exact ⟨kb - 1, by omega, (i + 1), (v78), (s75), by omega, lt75, (fun h0 g hg => LocV.ne l78 ((S104).lt h0 (by decide) hg) (hux h0 g hg)), hc10_0, hc10_2, hc10_3, hc10_4, hc10_5, hc10_6, hc10_7, congrArg IN (by omega), hc10_12, hc10_13, hc10_14, hc10_15, hc10_16, hc10_17, hc10_18, hc10_19, hc10_20, hc10_21, hc10_22, hc10_23, hc10_32, hc10_49, hc10_50, E114, B115, bs114, B116, S117, S118, O119, F105, N106, N108, N110⟩
        · refine WL.buildSlice (vs := [(0, U32 ((I.words[i])))]) rfl (bls13_77k (I.words[i])) rfl ?_
          intro b77 w77 n77
          have E120 : Ext w w77 := Mod.trans (E100) (n77.ext)
          refine WL.behind (True.intro) ?_
          refine WA.one (i := 1) (m' := 63) (by kernel_rfl) rfl rfl ?_
          have B121 := (((hB62).ext (ed_12)).mod (md75) ((by omega))).ext (n77.ext)
          refine WL.load1 rfl ag23 (B121.cell (j := 2) rfl) rfl ?_
          refine WL.behind (True.intro) ?_
          refine WA.one (i := 6) (m' := 127) (by kernel_rfl) rfl rfl ?_
          have O122 := (((hX).ext (ed_12)).mod (md75) (fun g hg e => hx14 (hg.trans (congrArg some e)))).ext (n77.ext)
          have S123 := (((hU).ext' (ed_12)).mod' (md75) (fun g hg e => hn14 (hg.trans (congrArg some e)))).ext' (n77.ext)
          refine WL.append (k := (I.words.take i).length) (m := 1) (xs := wordCells (I.words.take i)) (news := [U32 (I.words[i])]) ap23 rfl rfl rfl (O122) (Src.ofSlice _ Try.underlying23 ⟨b77, 0, none⟩ 1 1 _ rfl (fun j u hj => by rw [addr_add]; exact (n77.blk).cells j u hj) (fun u hu => by obtain rfl := List.mem_singleton.1 hu; rfl)) (by rw [List.length_take]; omega) (by rw [List.length_take]; omega) rfl ?_
          intro v78 w78 o78 m78 l78
          have o78b : Own w78 1 v78 ((I.words.take (i + 1)).length) (wordCells (I.words.take (i + 1))) := by rw [wordCells_take _ _ hi, show (I.words.take i).length + 1 = (I.words.take (i + 1)).length by rw [List.length_take, List.length_take]; omega] at o78; exact o78
          have F124 : From w.heap.size v78 := LocV.from l78 (Mod.size (E120)) (hFx)
          have B126 := (((hB22).ext (ed_12)).mod (md75) ((by omega))).ext (n77.ext)
          have N125 : v78.ownBlock ≠ some b2 := LocV.ne l78 ((B126).lt) hx2
          have N127 : v78.ownBlock ≠ some b6 := LocV.ne l78 ((B121).lt) hx6
          have B129 := (Bd75).ext (n77.ext)
          have N128 : v78.ownBlock ≠ some b14 := LocV.ne l78 ((B129).lt) hx14
          have E130 : Ext w w78 := Mod.from (E120) m78 (hFx)
          refine WL.behind (True.intro) ?_
          refine WA.take (i := 7) (m' := 255) (v := ptr b6 2) rfl rfl rfl rfl (by kernel_rfl) rfl (fun _ _ _ h => h) (fun wx hS => ?_) (True.intro) ?_
          · refine WL.fieldAddr hc10_6 fo25_2 rfl ?_
            exact WL.nil ⟨rfl, rfl, rfl⟩
          refine WA.one (i := 8) (m' := 511) (by kernel_rfl) rfl rfl ?_
          have B131 := (B121).mod (m78) (hx6)
          refine WL.storeB (v := v78) rfl rfl ((o78b).sl).one sz23 B131 (Nat.le_of_ble_eq_true rfl) ?_
          intro ws132 ms132 bs132 zs132
          have E132 : Ext w ws132 := Mod.then (E130) (ms132) (fun i hi (e : i = b6) => absurd hi (by omega))
          refine WL.behind (True.intro) ?_
          refine WA.done (by kernel_rfl) ?_
          refine WC.region ?_
          refine WL.move (v := IN ((I.words.length - i))) hc10_9 rfl ?_
          refine WL.bin rfl rfl rfl (BinR.subN (a := I.words.length - i) (b := 1) (by omega) (by omega)) ?_
          refine WL.assign (v := IN ((I.words.length - i - 1))) rfl rfl ?_
          refine WL.nil ?_
          have B133 := ((B126).mod (m78) (hx2)).mod (ms132) ((by omega))
          have B134 := ((B129).mod (m78) (hx14)).mod (ms132) ((by omega))
          have S135 := (((Sd75).ext' (n77.ext)).mod' (m78) (fun g hg e => by have h1 := (lt75) g hg; have h2 := (hFx) g e; omega)).mod' (ms132) (fun g hg (e : g = b6) => by have h1 := (lt75) g hg; omega)
          have S136 := ((S123).modp (m78) (fun h0 g hg e => hux h0 g hg e)).mod' (ms132) (fun g hg e => hn6 (hg.trans (congrArg some e)))
          have O137 := (o78b).mod (ms132) (fun g hg e => N127 (hg.trans (congrArg some e)))
          exact ⟨kb - 1, by omega, (i + 1), (v78), (s75), by omega, lt75, (fun h0 g hg => LocV.ne l78 ((S123).lt h0 (by decide) hg) (hux h0 g hg)), hc10_0, hc10_2, hc10_3, hc10_4, hc10_5, hc10_6, hc10_7, congrArg IN (by omega), hc10_12, hc10_13, hc10_14, hc10_15, hc10_16, hc10_17, hc10_18, hc10_19, hc10_20, hc10_21, hc10_22, hc10_23, hc10_32, hc10_49, hc10_50, E132, B133, bs132, B134, S135, S136, O137, F124, N125, N127, N128⟩
    · have hi : I.words.length ≤ i := by rw [hlen] at hc69; simp only [Bool.not_false, Bool.and_true, Bool.and_eq_false_iff, decide_eq_false_iff_not] at hc69; omega
      have hjj : I.syms.take j = I.syms := List.take_of_length_le hj
      have hii : I.words.take i = I.words := List.take_of_length_le hi
      refine WC.exit ?_
      refine WC.seq ?_
      refine WC.region ?_
      refine WL.loadS [.int .i64 (I.entry), u, x] hc10_6 ag25 sz25 rfl (hB62.sub (o := 0) (vs := [.int .i64 (I.entry), u, x]) rfl) rfl ?_
      have hSu : Sl wr2 u 2 I.syms.length (symCells I.syms) := by have h := hU; rw [hjj] at h; exact h
      have hSx : Sl wr2 x 1 I.words.length (wordCells I.words) := by have h := (hX).sl; rw [hii] at h; exact h
      refine WL.call ca11 (rfl) rfl (put_ok u x I _ ⟨hSu, hSx, by omega, by omega⟩ (fun s hs => by have := gb3 s hs; have := gb8 s hs; omega) hr) ?_
      rintro _ wd82 ⟨r82, rfl, hs82, hf82, ed82⟩
      have R138 : Ext wr2 wd82 := Mod.trans (Mod.refl _ _) (ed82)
      have E139 : Ext w wd82 := Mod.trans (hE2) (ed82)
      refine WL.move (v := .tuple #[r82, .int .i64 0]) rfl rfl ?_
      refine WL.extract rfl rfl rfl ?_
      refine WL.extract rfl rfl rfl ?_
      refine WL.assign (v := r82) rfl rfl ?_
      refine WL.assign (v := .int .i64 (0)) rfl rfl ?_
      refine WL.nil ?_
      refine WC.seq ?_
      refine WC.seq ?_
      refine WC.region ?_
      refine WL.move (v := .bool (true)) hc10_5 rfl ?_
      refine WL.un rfl rfl UnR.not ?_
      refine WL.move (v := .bool (false)) rfl rfl ?_
      refine WL.guardT (rfl) ?_
      refine WL.move (v := ptr b14 0) hc10_4 rfl ?_
      refine WL.guardT (rfl) ?_
      refine WL.nilCheck rfl rfl ?_
      refine WL.guardT (rfl) ?_
      refine WL.fieldAddr rfl fo64_1 rfl ?_
      refine WL.guardT (rfl) ?_
      have B140 := (hrb2).ext (ed82)
      refine WL.load1 rfl ag4 (B140.cell (j := 1) rfl) rfl ?_
      refine WL.pick (b := false) rfl rfl rfl ?_
      refine WL.move (v := .bool (false)) rfl rfl ?_
      refine WL.guardT (rfl) ?_
      refine WL.move (v := .int .i64 (0)) rfl rfl ?_
      refine WL.guardT (rfl) ?_
      refine WL.bin (v := .bool (false)) rfl rfl rfl (BinR.toB (BinR.neq) (rfl)) ?_
      refine WL.pick (b := false) rfl rfl rfl ?_
      refine WL.move (v := .bool (false)) rfl rfl ?_
      refine WL.guardT (rfl) ?_
      refine WL.move (v := r82) rfl rfl ?_
      refine WL.guardT (rfl) ?_
      refine WL.move (v := sv) hc10_0 rfl ?_
      refine WL.guardT (rfl) ?_
      refine WL.call ca31 (rfl) rfl (equalB r82 sv (bytesOf I) d _ (hs82.sl) ((hS).ext' (E139)) (by rw [← hdI]; omega) (by omega)) ?_
      rintro _ wd100 ⟨rfl, ed100⟩
      rw [show (bytesOf I == d) = true by rw [hdI]; exact beq_self_eq_true _]
      have R141 : Ext wr2 wd100 := Mod.trans (R138) (ed100)
      have E142 : Ext w wd100 := Mod.trans (E139) (ed100)
      refine WL.guardT (rfl) ?_
      refine WL.un rfl rfl UnR.not ?_
      refine WL.pick (b := false) rfl rfl rfl ?_
      refine WL.nil ?_
      refine WC.condF rfl ?_
      refine WC.skip ?_
      refine WC.seq ?_
      refine WC.region ?_
      have B143 := ((hB62).ext (ed82)).ext (ed100)
      refine WL.loadS [.int .i64 (I.entry), u, x] hc10_6 ag25 sz25 rfl (B143.sub (o := 0) (vs := [.int .i64 (I.entry), u, x]) rfl) rfl ?_
      have B144 := ((hB22).ext (ed82)).ext (ed100)
      have S145 := ((hU).ext' (ed82)).ext' (ed100)
      have O146 := ((hX).ext (ed82)).ext (ed100)
      refine WL.storeS (v := .agg #[.int .i64 (I.entry), u, x]) hc10_2 rfl B144 rfl sz25 rfl (ones3 rfl (S145).one ((O146).sl).one) ?_
      intro ws145 ms145 bs145 zs145
      have E147 : Ext w ws145 := Mod.then (E142) (ms145) (fun i hi (e : i = b2) => absurd hi (by omega))
      refine WL.assign (v := IN (0)) rfl rfl ?_
      refine WL.nil ?_
      refine WC.ret ?_
      have S148 := (S145).mod' (ms145) (fun g hg e => hn2 (hg.trans (congrArg some e)))
      have O149 := (O146).mod (ms145) (fun g hg e => hx2 (hg.trans (congrArg some e)))
      exact ⟨_, Res.cellTmp (v' := IN (0)) rfl hc10_2 (loadVar_agg [.int .i64 (I.entry), u, x] ag25 sz25 rfl (bs145.sub (o := 0) rfl)) rfl, u, x, rfl, (by have h := S148; rw [hjj] at h; exact h), (by have h := O149; rw [hii] at h; exact h), hF, hFx, (by rw [hjj] at hux; exact hux), E147⟩
end Go.Proofs.I
