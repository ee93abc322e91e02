import Derived.Test.YtljcijdkoncodaaImgBig
import Derived.Test.YtljcijdkoncodaaRows
import Derived.Test.YtljcijdkoncodaaImY3
set_option linter.unusedSimpArgs false
set_option linter.unusedVariables false
namespace Go.Proofs.I
open Go Go.Ux Go.Ux.Image Go.Proofs
theorem zt33 : zeroT Try.prog 33 = some #[.int .i64 0, .slice none 0 0, .slice none 0 0] := by kernel_rfl
theorem bld10_9 (e : Int) (a : Option Addr) (l c : Nat) : ∀ w : World, (Instr.build 33 #[(0, .int .i64 (e)), (2, .slice a l c)]).run Try.prog w = .ok (.agg #[.int .i64 (e), .slice none 0 0, .slice a l c]) w := fun _ => by kernel_rfl
theorem sz33 : sizeT Try.prog 33 = some 3 := by kernel_rfl
theorem bld10_31 (a : List UInt8) (b : Int) : ∀ w : World, (Instr.build 54 #[(0, St a), (1, .int .i64 (b))]).run Try.prog w = .ok (.agg #[St a, .int .i64 (b)]) w := fun _ => by kernel_rfl
theorem bls10_32 (a : List UInt8) (b : Int) : ∀ w : World, (Instr.buildSlice 31 1 #[(0, .agg #[St a, .int .i64 (b)])]).run Try.prog w = .ok (.slice (some ⟨w.heap.size, 0, none⟩) 1 1) (w.alloc (.cells #[St a, .int .i64 (b)] 54)) := fun _ => by kernel_rfl
theorem ap31 : appT Try.prog 31 = some (54, 2, 24, #[.string ⟨#[]⟩, .int .i64 0]) := by kernel_rfl
theorem sz31 : sizeT Try.prog 31 = some 1 := by kernel_rfl
theorem ag33 : isAggT Try.prog 33 = some true := by kernel_rfl

theorem sym_one (a : List UInt8) (b : Int) : ∀ u ∈ [St a, Value.int .i64 b], u.oneCell' = true := by
  intro u hu; simp at hu; rcases hu with rfl | rfl <;> rfl
theorem symCells_take (l : List (List UInt8 × Int)) (i : Nat) (h : i < l.length) : symCells (l.take i) ++ [St (l[i]).1, .int .i64 (l[i]).2] = symCells (l.take (i + 1)) := by
  unfold symCells; rw [List.take_succ_eq_append_getElem h, List.flatMap_append]; rfl
theorem symCells_append (l : List (List UInt8 × Int)) (a : List UInt8) (b : Int) : symCells l ++ [St a, .int .i64 b] = symCells (l ++ [(a, b)]) := by simp [symCells]
theorem wordCells_take (l : List (BitVec 32)) (i : Nat) (h : i < l.length) : wordCells (l.take i) ++ [U32 l[i]] = wordCells (l.take (i + 1)) := by
  unfold wordCells; rw [List.take_succ_eq_append_getElem h, List.map_append]; rfl

theorem plain_spec (sv wv : Value) (I : Img) (w : World) (hR : Rep w sv wv I) : CallsR Try.prog 10 #[.agg #[.int .i64 (I.entry), sv, wv]] w (fun v w' => ∃ u, v = .agg #[.int .i64 I.entry, u, wv] ∧ Own w' 2 u I.syms.length (symCells I.syms) ∧ From w.heap.size u ∧ Ext w w') := by
  have hI1 := hR.ls
  have hI2 := hR.lw
  refine callsR_of Try.func10 rfl rfl rfl ?_
  refine WC.seq ?_
  refine WC.region ?_
  refine WL.box (v := .agg #[.int .i64 (I.entry), sv, wv]) rfl rfl ?_
  intro b1 w1 n1
  have E1 : Ext w w1 := Mod.trans (Mod.refl _ _) (n1.ext)
  refine WL.alloc zt33 rfl ?_
  intro b2 w2 n2
  have E2 : Ext w w2 := Mod.trans (E1) (n2.ext)
  refine WL.nil ?_
  refine WC.seq ?_
  refine WC.region ?_
  refine WL.fieldAddr rfl fo25_0 rfl ?_
  have B3 := (n1.blk).ext (n2.ext)
  refine WL.load1 rfl ag3 (B3.cell (j := 0) rfl) rfl ?_
  refine WL.fieldAddr rfl fo25_2 rfl ?_
  refine WL.load1 rfl ag23 (B3.cell (j := 2) rfl) rfl ?_
  refine WL.build (v := .agg #[.int .i64 (I.entry), .slice none 0 0, wv]) (vs := [(0, .int .i64 (I.entry)), (2, wv)]) rfl (by obtain ⟨a, l, c, e⟩ := hR.w.slc; rw [e]; exact bld10_9 _ a l c) rfl ?_
  refine WL.allocStore (v := .agg #[.int .i64 (I.entry), .slice none 0 0, wv]) zt33 rfl sz33 rfl rfl (ones3 rfl rfl ((hR.w).ext' (E2)).one) rfl ?_
  intro b3 w3 n3
  have E4 : Ext w w3 := Mod.trans (E2) (n3.ext)
  refine WL.nil ?_
  have hb : w.heap.size ≤ b1 ∧ b1 < b2 ∧ b2 < b3 := by have := n1.num; have := n1.size; have := n2.num; have := n2.size; have := n3.num; omega
  refine WC.seq ?_
  refine WC.seq ?_
  refine WC.region ?_
  refine WL.assign (v := IN (0)) rfl rfl ?_
  refine WL.nil ?_
  refine WC.block ?_
  refine WC.loop (fun k f w_ => ∃ i v, (k + i = I.syms.length) ∧ f 0 = .agg #[.int .i64 (I.entry), sv, wv] ∧ f 1 = ptr b1 0 ∧ f 2 = ptr b2 0 ∧ f 3 = ptr b3 0 ∧ f 4 = IN (i) ∧ f 5 = ptr b1 0 ∧ f 6 = .int .i64 (I.entry) ∧ f 7 = ptr b1 2 ∧ f 8 = wv ∧ f 9 = .agg #[.int .i64 (I.entry), .slice none 0 0, wv] ∧ (Ext w w_) ∧ (Blk w_ b1 #[.int .i64 I.entry, sv, wv] 25) ∧ (Blk w_ b2 #[.int .i64 0, .slice none 0 0, .slice none 0 0] 33) ∧ (Blk w_ b3 #[.int .i64 I.entry, v, wv] 33) ∧ (Own w_ 2 v i (symCells (I.syms.take i))) ∧ (From w.heap.size v) ∧ (v.ownBlock ≠ some b1) ∧ (v.ownBlock ≠ some b2) ∧ (v.ownBlock ≠ some b3)) (I.syms.length) ?_ ?_
  have B5 := (B3).ext (n3.ext)
  have B6 := (n2.blk).ext (n3.ext)
  · exact ⟨(0), (.slice none 0 0), by omega, rfl, rfl, rfl, rfl, rfl, rfl, rfl, rfl, rfl, rfl, E4, B5, B6, n3.blk, Own.nil _ _, (fun g hg => by cases hg), (fun h => by cases h), (fun h => by cases h), (fun h => by cases h)⟩
  rintro ka f1 wr ⟨i, v, hk1, h0_1, h1_1, h2_1, h3_1, h4_1, h5_1, h6_1, h7_1, h8_1, h9_1, hE, hB1, hB2, hB3, hO, hF, hn1, hn2, hn3⟩
  refine WC.seq ?_
  refine WC.seq ?_
  refine WC.region ?_
  refine WL.move (v := IN (i)) h4_1 rfl ?_
  refine WL.fieldAddr h1_1 fo25_1 rfl ?_
  refine WL.load1 rfl ag22 (hB1.cell (j := 1) rfl) rfl ?_
  refine WL.lenSl (sz := 2) (m := I.syms.length) (xs := symCells I.syms) el22 rfl ((hR.s).ext' (hE)) rfl ?_
  refine WL.bin rfl rfl rfl (BinR.lss) ?_
  refine WL.nil ?_
  refine WC.cond rfl (fun hc14 => ?_) (fun hc14 => ?_)
  · have hi : i < I.syms.length := by have := of_decide_eq_true hc14; omega
    obtain ⟨bs0, os0, cs0, es0, hcs0⟩ := hR.s.at (by omega)
    refine WC.skip ?_
    refine WC.seq ?_
    refine WC.block ?_
    refine WC.draw (fun w_ => Ext w w_ ∧ Blk w_ b1 #[.int .i64 I.entry, sv, wv] 25) 19 rfl mixed ?_
    intro wd_5 ed_5
    have R7 : Ext wr wd_5 := Mod.trans (Mod.refl _ _) (ed_5)
    have E8 : Ext w wd_5 := Mod.trans (hE) (ed_5)
    have B9 := (hB1).ext (ed_5)
    refine WA.take (i := 0) (m' := 1) (v := ptr b3 1) rfl rfl rfl rfl (by kernel_rfl) rfl (fun _ _ _ h => h) (fun wx hS => ?_) (⟨E8, B9⟩) ?_
    · refine WL.fieldAddr h3_1 fo33_1 rfl ?_
      exact WL.nil ⟨rfl, rfl, rfl⟩
    refine WA.take (i := 2) (m' := 5) (v := ptr b1 1) rfl rfl rfl rfl (by kernel_rfl) rfl (fun _ _ _ h => h) (fun wx hS => ?_) (⟨E8, B9⟩) ?_
    · refine WL.fieldAddr h1_1 fo25_1 rfl ?_
      exact WL.nil ⟨rfl, rfl, rfl⟩
    refine WA.take (i := 3) (m' := 13) (v := sv) rfl rfl rfl rfl (by kernel_rfl) rfl (fun _ _ _ h => h) (fun wx hS => ?_) (⟨E8, B9⟩) ?_
    · refine WL.load1 rfl ag22 (hS.2.cell (j := 1) rfl) rfl ?_
      exact WL.nil ⟨rfl, rfl, rfl⟩
    refine WA.take (i := 4) (m' := 29) (v := IN (i)) rfl rfl rfl rfl (by kernel_rfl) rfl (fun _ _ _ h => h) (fun wx hS => ?_) (⟨E8, B9⟩) ?_
    · refine WL.move (v := IN (i)) h4_1 rfl ?_
      exact WL.nil ⟨rfl, rfl, rfl⟩
    refine WA.take (i := 5) (m' := 61) (v := ptr bs0 (os0 + (i) * 2)) rfl rfl rfl rfl (by kernel_rfl) rfl (fun _ _ _ h => h) (fun wx hS => ?_) (⟨E8, B9⟩) ?_
    · refine WL.indexAddr (i := i) (b := bs0) (o := os0) el22 sz49 (Eq.trans (rfl) es0) rfl (by omega) rfl ?_
      exact WL.nil ⟨rfl, rfl, rfl⟩
    refine WA.take (i := 6) (m' := 125) (v := ptr bs0 (os0 + (i) * 2)) rfl rfl rfl rfl (by kernel_rfl) rfl (fun _ _ _ h => h) (fun wx hS => ?_) (⟨E8, B9⟩) ?_
    · refine WL.fieldAddr rfl fo49_0 rfl ?_
      exact WL.nil ⟨rfl, rfl, rfl⟩
    refine WA.take (i := 7) (m' := 253) (v := St (I.syms[i]).1) rfl rfl rfl rfl (by kernel_rfl) rfl (fun _ _ _ h => h) (fun wx hS => ?_) (⟨E8, B9⟩) ?_
    · refine WL.load1 rfl ag9 ((hcs0.ext (hS.1)) (i * 2) _ (symCells_get I.syms i (by omega)).1) rfl ?_
      exact WL.nil ⟨rfl, rfl, rfl⟩
    refine WA.take (i := 8) (m' := 509) (v := ptr b1 1) rfl rfl rfl rfl (by kernel_rfl) rfl (fun _ _ _ h => h) (fun wx hS => ?_) (⟨E8, B9⟩) ?_
    · refine WL.fieldAddr h1_1 fo25_1 rfl ?_
      exact WL.nil ⟨rfl, rfl, rfl⟩
    refine WA.take (i := 9) (m' := 1021) (v := sv) rfl rfl rfl rfl (by kernel_rfl) rfl (fun _ _ _ h => h) (fun wx hS => ?_) (⟨E8, B9⟩) ?_
    · refine WL.load1 rfl ag22 (hS.2.cell (j := 1) rfl) rfl ?_
      exact WL.nil ⟨rfl, rfl, rfl⟩
    refine WA.take (i := 10) (m' := 2045) (v := IN (i)) rfl rfl rfl rfl (by kernel_rfl) rfl (fun _ _ _ h => h) (fun wx hS => ?_) (⟨E8, B9⟩) ?_
    · refine WL.move (v := IN (i)) h4_1 rfl ?_
      exact WL.nil ⟨rfl, rfl, rfl⟩
    refine WA.take (i := 11) (m' := 4093) (v := ptr bs0 (os0 + (i) * 2)) rfl rfl rfl rfl (by kernel_rfl) rfl (fun _ _ _ h => h) (fun wx hS => ?_) (⟨E8, B9⟩) ?_
    · refine WL.indexAddr (i := i) (b := bs0) (o := os0) el22 sz49 (Eq.trans (rfl) es0) rfl (by omega) rfl ?_
      exact WL.nil ⟨rfl, rfl, rfl⟩
    refine WA.take (i := 12) (m' := 8189) (v := ptr bs0 ((os0 + (i) * 2) + 1)) rfl rfl rfl rfl (by kernel_rfl) rfl (fun _ _ _ h => h) (fun wx hS => ?_) (⟨E8, B9⟩) ?_
    · refine WL.fieldAddr rfl fo49_1 rfl ?_
      exact WL.nil ⟨rfl, rfl, rfl⟩
    refine WA.take (i := 13) (m' := 16381) (v := .int .i64 ((I.syms[i]).2)) rfl rfl rfl rfl (by kernel_rfl) rfl (fun _ _ _ h => h) (fun wx hS => ?_) (⟨E8, B9⟩) ?_
    · refine WL.load1 rfl ag3 ((hcs0.ext (hS.1)) (i * 2 + 1) _ (symCells_get I.syms i (by omega)).2) rfl ?_
      exact WL.nil ⟨rfl, rfl, rfl⟩
    refine WA.take (i := 14) (m' := 32765) (v := .agg #[St (I.syms[i]).1, .int .i64 ((I.syms[i]).2)]) rfl rfl rfl rfl (by kernel_rfl) rfl (fun _ _ _ h => h) (fun wx hS => ?_) (⟨E8, B9⟩) ?_
    · refine WL.build (v := .agg #[St (I.syms[i]).1, .int .i64 ((I.syms[i]).2)]) (vs := [(0, St (I.syms[i]).1), (1, .int .i64 ((I.syms[i]).2))]) rfl (bld10_31 (I.syms[i]).1 (I.syms[i]).2) rfl ?_
      exact WL.nil ⟨rfl, rfl, rfl⟩
    refine WA.two (i := 1) (j := 15) (mi := 32767) (mj := 65533) (by kernel_rfl) rfl rfl rfl rfl ?_ ?_
    · have B10 := (hB3).ext (ed_5)
      refine WL.load1 rfl ag31 (B10.cell (j := 1) rfl) rfl ?_
      refine WL.behind (⟨E8, B9⟩) ?_
      refine WA.one (i := 15) (m' := 65535) (by kernel_rfl) rfl rfl ?_
      refine WL.buildSlice (vs := [(0, .agg #[St (I.syms[i]).1, .int .i64 ((I.syms[i]).2)])]) rfl (bls10_32 (I.syms[i]).1 (I.syms[i]).2) rfl ?_
      intro b32 w32 n32
      have R11 : Ext wr w32 := Mod.trans (R7) (n32.ext)
      have E12 : Ext w w32 := Mod.trans (E8) (n32.ext)
      have B13 := (B9).ext (n32.ext)
      refine WL.behind (⟨E12, B13⟩) ?_
      refine WA.one (i := 16) (m' := 131071) (by kernel_rfl) rfl rfl ?_
      have O14 := ((hO).ext (ed_5)).ext (n32.ext)
      refine WL.append (k := i) (m := 1) (xs := symCells (I.syms.take i)) (news := [St (I.syms[i]).1, .int .i64 (I.syms[i]).2]) ap31 rfl rfl rfl (O14) (Src.ofSlice _ Try.underlying31 ⟨b32, 0, none⟩ 1 1 _ rfl (fun j u hj => by rw [addr_add]; exact (n32.blk).cells j u hj) (sym_one _ _)) (by omega) (by omega) rfl ?_
      intro v33 w33 o33 m33 l33
      have o33b : Own w33 2 v33 (i + 1) (symCells (I.syms.take (i + 1))) := by rw [symCells_take _ _ hi] at o33; exact o33
      have F15 : From w.heap.size v33 := LocV.from l33 (Mod.size (E12)) (hF)
      have N16 : v33.ownBlock ≠ some b1 := LocV.ne l33 ((B13).lt) hn1
      have B18 := ((hB2).ext (ed_5)).ext (n32.ext)
      have N17 : v33.ownBlock ≠ some b2 := LocV.ne l33 ((B18).lt) hn2
      have B20 := (B10).ext (n32.ext)
      have N19 : v33.ownBlock ≠ some b3 := LocV.ne l33 ((B20).lt) hn3
      have E21 : Ext w w33 := Mod.from (E12) m33 (hF)
      have B22 := (B13).mod (m33) (hn1)
      refine WL.behind (⟨E21, B22⟩) ?_
      refine WA.take (i := 17) (m' := 262143) (v := ptr b3 1) rfl rfl rfl rfl (by kernel_rfl) rfl (fun _ _ _ h => h) (fun wx hS => ?_) (⟨E21, B22⟩) ?_
      · refine WL.fieldAddr h3_1 fo33_1 rfl ?_
        exact WL.nil ⟨rfl, rfl, rfl⟩
      refine WA.one (i := 18) (m' := 524287) (by kernel_rfl) rfl rfl ?_
      have B23 := (B20).mod (m33) (hn3)
      refine WL.storeB (v := v33) rfl rfl ((o33b).sl).one sz31 B23 (Nat.le_of_ble_eq_true rfl) ?_
      intro ws24 ms24 bs24 zs24
      have E24 : Ext w ws24 := Mod.then (E21) (ms24) (fun i hi (e : i = b3) => absurd hi (by omega))
      have B25 := (B22).mod (ms24) ((by omega))
      refine WL.behind (⟨E24, B25⟩) ?_
      refine WA.done (by kernel_rfl) ?_
      refine WC.region ?_
      refine WL.move (v := IN (i)) h4_1 rfl ?_
      refine WL.bin rfl rfl rfl (BinR.succN (by omega)) ?_
      refine WL.assign (v := IN (i + 1)) rfl rfl ?_
      refine WL.nil ?_
      have B26 := ((B18).mod (m33) (hn2)).mod (ms24) ((by omega))
      have O27 := (o33b).mod (ms24) (fun g hg e => N19 (hg.trans (congrArg some e)))
      exact ⟨ka - 1, by omega, (i + 1), (v33), by omega, h0_1, h1_1, h2_1, h3_1, rfl, h5_1, h6_1, h7_1, h8_1, h9_1, E24, B25, B26, bs24, O27, F15, N16, N17, N19⟩
    · refine WL.buildSlice (vs := [(0, .agg #[St (I.syms[i]).1, .int .i64 ((I.syms[i]).2)])]) rfl (bls10_32 (I.syms[i]).1 (I.syms[i]).2) rfl ?_
      intro b32 w32 n32
      have R28 : Ext wr w32 := Mod.trans (R7) (n32.ext)
      have E29 : Ext w w32 := Mod.trans (E8) (n32.ext)
      have B30 := (B9).ext (n32.ext)
      refine WL.behind (⟨E29, B30⟩) ?_
      refine WA.one (i := 1) (m' := 65535) (by kernel_rfl) rfl rfl ?_
      have B31 := ((hB3).ext (ed_5)).ext (n32.ext)
      refine WL.load1 rfl ag31 (B31.cell (j := 1) rfl) rfl ?_
      refine WL.behind (⟨E29, B30⟩) ?_
      refine WA.one (i := 16) (m' := 131071) (by kernel_rfl) rfl rfl ?_
      have O32 := ((hO).ext (ed_5)).ext (n32.ext)
      refine WL.append (k := i) (m := 1) (xs := symCells (I.syms.take i)) (news := [St (I.syms[i]).1, .int .i64 (I.syms[i]).2]) ap31 rfl rfl rfl (O32) (Src.ofSlice _ Try.underlying31 ⟨b32, 0, none⟩ 1 1 _ rfl (fun j u hj => by rw [addr_add]; exact (n32.blk).cells j u hj) (sym_one _ _)) (by omega) (by omega) rfl ?_
      intro v33 w33 o33 m33 l33
      have o33b : Own w33 2 v33 (i + 1) (symCells (I.syms.take (i + 1))) := by rw [symCells_take _ _ hi] at o33; exact o33
      have F33 : From w.heap.size v33 := LocV.from l33 (Mod.size (E29)) (hF)
      have N34 : v33.ownBlock ≠ some b1 := LocV.ne l33 ((B30).lt) hn1
      have B36 := ((hB2).ext (ed_5)).ext (n32.ext)
      have N35 : v33.ownBlock ≠ some b2 := LocV.ne l33 ((B36).lt) hn2
      have N37 : v33.ownBlock ≠ some b3 := LocV.ne l33 ((B31).lt) hn3
      have E38 : Ext w w33 := Mod.from (E29) m33 (hF)
      have B39 := (B30).mod (m33) (hn1)
      refine WL.behind (⟨E38, B39⟩) ?_
      refine WA.take (i := 17) (m' := 262143) (v := ptr b3 1) rfl rfl rfl rfl (by kernel_rfl) rfl (fun _ _ _ h => h) (fun wx hS => ?_) (⟨E38, B39⟩) ?_
      · refine WL.fieldAddr h3_1 fo33_1 rfl ?_
        exact WL.nil ⟨rfl, rfl, rfl⟩
      refine WA.one (i := 18) (m' := 524287) (by kernel_rfl) rfl rfl ?_
      have B40 := (B31).mod (m33) (hn3)
      refine WL.storeB (v := v33) rfl rfl ((o33b).sl).one sz31 B40 (Nat.le_of_ble_eq_true rfl) ?_
      intro ws41 ms41 bs41 zs41
      have E41 : Ext w ws41 := Mod.then (E38) (ms41) (fun i hi (e : i = b3) => absurd hi (by omega))
      have B42 := (B39).mod (ms41) ((by omega))
      refine WL.behind (⟨E41, B42⟩) ?_
      refine WA.done (by kernel_rfl) ?_
      refine WC.region ?_
      refine WL.move (v := IN (i)) h4_1 rfl ?_
      refine WL.bin rfl rfl rfl (BinR.succN (by omega)) ?_
      refine WL.assign (v := IN (i + 1)) rfl rfl ?_
      refine WL.nil ?_
      have B43 := ((B36).mod (m33) (hn2)).mod (ms41) ((by omega))
      have O44 := (o33b).mod (ms41) (fun g hg e => N37 (hg.trans (congrArg some e)))
      exact ⟨ka - 1, by omega, (i + 1), (v33), by omega, h0_1, h1_1, h2_1, h3_1, rfl, h5_1, h6_1, h7_1, h8_1, h9_1, E41, B42, B43, bs41, O44, F33, N34, N35, N37⟩
  · have hi : I.syms.length ≤ i := by have := of_decide_eq_false hc14; omega
    refine WC.exit ?_
    refine WC.seq ?_
    refine WC.region ?_
    refine WL.loadS [.int .i64 (I.entry), v, wv] h3_1 ag33 sz33 rfl (hB3.sub (o := 0) (vs := [.int .i64 (I.entry), v, wv]) rfl) rfl ?_
    refine WL.storeS (v := .agg #[.int .i64 (I.entry), v, wv]) h2_1 rfl hB2 rfl sz33 rfl (ones3 rfl ((hO).sl).one ((hR.w).ext' (hE)).one) ?_
    intro ws45 ms45 bs45 zs45
    have E45 : Ext w ws45 := Mod.then (hE) (ms45) (fun i hi (e : i = b2) => absurd hi (by omega))
    refine WL.nil ?_
    refine WC.ret ?_
    have O46 := (hO).mod (ms45) (fun g hg e => hn2 (hg.trans (congrArg some e)))
    exact ⟨_, Res.cell rfl h2_1 (loadVar_agg [.int .i64 (I.entry), v, wv] ag33 sz33 rfl (bs45.sub (o := 0) rfl)), v, rfl, (by have h := O46; rw [show i = I.syms.length by omega, List.take_length] at h; exact h), hF, E45⟩
end Go.Proofs.I
