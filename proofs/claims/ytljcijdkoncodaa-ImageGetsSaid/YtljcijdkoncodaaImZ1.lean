import Derived.Test.YtljcijdkoncodaaImgBig
import Derived.Test.YtljcijdkoncodaaRows
import Derived.Test.YtljcijdkoncodaaImY9
import Derived.Test.YtljcijdkoncodaaImgPre
set_option linter.unusedSimpArgs false
set_option linter.unusedVariables false
namespace Go.Proofs.I
open Go Go.Ux Go.Ux.Image Go.Proofs
theorem ca34 : callable Try.prog 34 = true := by kernel_rfl
theorem bld16_69k (a : List UInt8) : ∀ w : World, (Instr.build 54 #[(0, St a)]).run Try.prog w = .ok (.agg #[St a, IN (0)]) w := fun _ => by kernel_rfl
theorem bls16_82k (a : List UInt8) (b : Int) : ∀ w : World, (Instr.buildSlice 31 1 #[(0, .agg #[St a, .int .i64 (b)])]).run Try.prog w = .ok (.slice (some ⟨w.heap.size, 0, none⟩) 1 1) (w.alloc (.cells #[St a, .int .i64 (b)] 54)) := fun _ => by kernel_rfl
theorem bls16_118k (z : BitVec 32) : ∀ w : World, (Instr.buildSlice 23 1 #[(0, U32 (z))]).run Try.prog w = .ok (.slice (some ⟨w.heap.size, 0, none⟩) 1 1) (w.alloc (.cells #[U32 (z)] 42)) := fun _ => by kernel_rfl

theorem get_known (sv : Value) (l : List UInt8) (a k : Nat) (n : Int) (r : List UInt8) (w : World) (hS0 : Sl w sv 1 l.length (bs l)) (hl : l.length ≤ 1000000000) (hk : k ≤ 6) (hd : l.drop a = be k n ++ r) (ha : a ≤ l.length) (h0 : 0 ≤ n) (h1 : n < ((256 ^ k : Nat) : Int)) :
    CallsR Try.prog 34 #[sv, IN a, IN k] w (fun v w' => v = .tuple #[.int .i64 n, IN (a + k)] ∧ Ext w w') := by
  have hlen := drop_len hd ha
  rw [be_length] at hlen
  refine (get_ok sv l a k w hS0 hl hk hlen).mono ?_
  rintro v w' ⟨e, h⟩
  refine ⟨?_, h⟩
  rw [e, hd, List.take_left' (be_length k n)]
  have : IN (num (be k n)) = .int .i64 n := congrArg (Value.int .i64) (num_be' k n h0 h1)
  rw [this]
theorem get_any (sv : Value) (d L : List UInt8) (z : Int) (k : Nat) (w : World) (hS0 : Sl w sv 1 d.length (bs d)) (hl : d.length ≤ 1000000000) (hk : k ≤ 6) (hP : Pre d L z) :
    CallsR Try.prog 34 #[sv, .int .i64 z, IN k] w (fun v w' => ∃ m z', v = .tuple #[IN m, .int .i64 z'] ∧ m < 256 ^ k ∧ Pre d (L ++ be k ((m : Nat) : Int)) z' ∧ (0 ≤ z' → 0 ≤ z) ∧ Ext w w') := by
  have hr := hP.range
  have bad : (z < 0 ∨ (d.length : Int) - z < k) → _ := fun h => (get_bad sv d z k w hS0 hl hk (by omega) h).mono (S' := fun v w' => ∃ m z', v = .tuple #[IN m, .int .i64 z'] ∧ m < 256 ^ k ∧ Pre d (L ++ be k ((m : Nat) : Int)) z' ∧ (0 ≤ z' → 0 ≤ z) ∧ Ext w w') fun v w' ⟨h1, h2⟩ => ⟨0, -1, h1, Nat.pow_pos (by decide), .inl rfl, fun h => by omega, h2⟩
  by_cases h0 : 0 ≤ z
  · obtain ⟨a, rfl, ha, ht⟩ := hP.nat h0
    by_cases h1 : a + k ≤ d.length
    · refine (get_ok sv d a k w hS0 hl hk h1).mono ?_
      rintro v w' ⟨e, h⟩
      refine ⟨_, _, e, ?_, .inr ⟨a + k, rfl, h1, take_next ht h1⟩, fun _ => h0, h⟩
      have := num_lt ((d.drop a).take k)
      rwa [List.length_take, List.length_drop, Nat.min_eq_left (by omega)] at this
    · exact bad (by omega)
  · exact bad (by omega)

theorem rget_ok (sv : Value) (d : List UInt8) (w : World) (hS : Sl w sv 1 d.length (bs d)) (hd : d.length ≤ 1000000) (I : Img) (hr : rightB I = true) (hdI : d = bytesOf I) : CallsR Try.prog 16 #[sv] w (fun v w' => ∃ u x, v = .tuple #[.agg #[.int .i64 I.entry, u, x], .bool true] ∧ Rep w' u x I ∧ Ext w w') := by
  obtain ⟨gb1, gb2, gb3, gb4, gb5, gb6, gb7, gb8⟩ := right_bounds hr
  have hT := hdI.trans (bytesOf_T I)
  have hd4 : d.drop 4 = be 4 I.entry ++ (be 2 (((I.syms.length : Nat) : Int)) ++ symsT I 0) := by rw [hT]; exact List.drop_left' rfl
  have hm4 : d.take 4 = magic := by rw [hT]; exact List.take_left' rfl
  have hl0 := congrArg List.length hT
  rw [List.length_append, List.length_append, List.length_append, be_length, be_length, show magic.length = 4 from rfl] at hl0
  have hd8 := drop_next hd4 (be_length 4 _)
  have hd10 := drop_next hd8 (be_length 2 _)
  refine callsR_of Try.func16 rfl rfl rfl ?_
  refine WC.seq ?_
  refine WC.region ?_
  refine WL.alloc zt33 rfl ?_
  intro b2 w2 n2
  have E1 : Ext w w2 := Mod.trans (Mod.refl _ _) (n2.ext)
  refine WL.assign (v := .bool (false)) rfl rfl ?_
  refine WL.nil ?_
  refine WC.seq ?_
  refine WC.region ?_
  refine WL.alloc zt33 rfl ?_
  intro b4 w4 n4
  have E2 : Ext w w4 := Mod.trans (E1) (n4.ext)
  refine WL.nil ?_
  have hb1 : w.heap.size ≤ b2 ∧ b2 < b4 := by have := n2.num; have := n2.size; have := n4.num; omega
  refine WC.seq ?_
  refine WC.seq ?_
  refine WC.region ?_
  refine WL.move (v := sv) rfl rfl ?_
  refine WL.lenSl (sz := 1) (m := d.length) (xs := bs d) el28 rfl ((hS).ext' (E2)) rfl ?_
  refine WL.bin (v := .bool (false)) rfl rfl rfl (BinR.toB (BinR.lss) (decide_eq_false (by omega))) ?_
  refine WL.move (v := .bool (false)) rfl rfl ?_
  refine WL.guardT (rfl) ?_
  refine WL.move (v := sv) rfl rfl ?_
  refine WL.guardT (rfl) ?_
  refine WL.sliceToSl (sz := 1) (m := d.length) (xs := bs d) (j := 4) el28 sz5 rfl rfl (by omega) ((hS).ext' (E2)) rfl ?_
  intro v18 hv18 hbv18
  have hv18b : Sl w4 v18 1 (4) (bs (d.take 4)) := by rw [Nat.mul_one] at hv18; unfold bs at hv18 ⊢; rw [List.map_take]; exact hv18
  refine WL.guardT (rfl) ?_
  refine WL.toString (m := 4) (bl := (d.take 4)) Try.underlying28 Try.underlying5 Try.underlying9 rfl (hv18b) rfl ?_
  refine WL.guardT (rfl) ?_
  refine WL.bin (v := .bool (false)) rfl (vy := St [80, 77, 73, 49]) rfl rfl (BinR.toB (BinR.neqS) (by rw [hm4]; rfl)) ?_
  refine WL.pick (b := false) rfl rfl rfl ?_
  refine WL.nil ?_
  refine WC.condF rfl ?_
  refine WC.skip ?_
  refine WC.seq ?_
  refine WC.region ?_
  refine WL.assign (v := IN (4)) rfl rfl ?_
  refine WL.assign (v := IN (0)) rfl rfl ?_
  refine WL.assign (v := IN (0)) rfl rfl ?_
  refine WL.nil ?_
  refine WC.seq ?_
  refine WC.region ?_
  refine WL.move (v := sv) rfl rfl ?_
  refine WL.move (v := IN (4)) rfl rfl ?_
  refine WL.call ca34 (rfl) rfl (get_known sv d (4) 4 (I.entry) (be 2 (((I.syms.length : Nat) : Int)) ++ symsT I 0) _ ((hS).ext' (E2)) (by omega) (by decide) (hd4) (by omega) (by omega) (by omega)) ?_
  rintro _ wd26 ⟨rfl, ed26⟩
  have E3 : Ext w wd26 := Mod.trans (E2) (ed26)
  refine WL.move (v := .tuple #[.int .i64 (I.entry), IN (8)]) rfl rfl ?_
  refine WL.extract rfl rfl rfl ?_
  refine WL.extract rfl rfl rfl ?_
  refine WL.fieldAddr rfl fo33_0 rfl ?_
  have B4 := (n4.blk).ext (ed26)
  refine WL.storeB (v := .int .i64 (I.entry)) rfl rfl rfl sz3 B4 (Nat.le_of_ble_eq_true rfl) ?_
  intro ws5 ms5 bs5 zs5
  have E5 : Ext w ws5 := Mod.own (E1) n4 (E3) (ms5)
  refine WL.assign (v := IN (8)) rfl rfl ?_
  refine WL.nil ?_
  refine WC.seq ?_
  refine WC.region ?_
  refine WL.move (v := sv) rfl rfl ?_
  refine WL.move (v := IN (8)) rfl rfl ?_
  refine WL.call ca34 (rfl) rfl (get_known sv d (8) 2 (((I.syms.length : Nat) : Int)) (symsT I 0) _ ((hS).ext' (E5)) (by omega) (by decide) (hd8) (by omega) (by omega) (by omega)) ?_
  rintro _ wd33 ⟨rfl, ed33⟩
  have E6 : Ext w wd33 := Mod.trans (E5) (ed33)
  refine WL.move (v := .tuple #[.int .i64 (((I.syms.length : Nat) : Int)), IN (10)]) rfl rfl ?_
  refine WL.extract rfl rfl rfl ?_
  refine WL.extract rfl rfl rfl ?_
  refine WL.assign (v := IN (I.syms.length)) rfl rfl ?_
  refine WL.assign (v := IN (10)) rfl rfl ?_
  refine WL.nil ?_
  refine WC.seq ?_
  refine WC.seq ?_
  refine WC.region ?_
  refine WL.assign (v := IN (0)) rfl rfl ?_
  refine WL.nil ?_
  refine WC.block ?_
  refine WC.loop (fun k f w_ => ∃ j a u, (k + j = I.syms.length) ∧ (d.drop a = symsT I j) ∧ (a ≤ d.length) ∧ ((I.syms.take j).length = 0 → u = .slice none 0 0) ∧ f 0 = sv ∧ f 2 = ptr b2 0 ∧ f 4 = ptr b4 0 ∧ f 5 = IN (a) ∧ f 6 = IN (I.syms.length) ∧ f 7 = IN (0) ∧ f 8 = IN (j) ∧ f 13 = sv ∧ f 14 = IN (d.length) ∧ f 15 = .bool (false) ∧ f 16 = .bool (false) ∧ f 17 = sv ∧ f 18 = v18 ∧ f 19 = St ((d.take 4)) ∧ f 20 = .bool (false) ∧ f 21 = .bool (false) ∧ f 23 = .tuple #[.int .i64 (I.entry), IN (8)] ∧ f 24 = sv ∧ f 25 = IN (4) ∧ f 26 = .tuple #[.int .i64 (I.entry), IN (8)] ∧ f 27 = .int .i64 (I.entry) ∧ f 28 = IN (8) ∧ f 29 = ptr b4 0 ∧ f 30 = .tuple #[.int .i64 (((I.syms.length : Nat) : Int)), IN (10)] ∧ f 31 = sv ∧ f 32 = IN (8) ∧ f 33 = .tuple #[.int .i64 (((I.syms.length : Nat) : Int)), IN (10)] ∧ f 34 = IN (I.syms.length) ∧ f 35 = IN (10) ∧ (Ext w w_) ∧ (Blk w_ b2 #[.int .i64 0, .slice none 0 0, .slice none 0 0] 33) ∧ (Blk w_ b4 #[.int .i64 I.entry, u, .slice none 0 0] 33) ∧ (Own w_ 2 u (I.syms.take j).length (symCells (I.syms.take j))) ∧ (From w.heap.size u) ∧ (u.ownBlock ≠ some b2) ∧ (u.ownBlock ≠ some b4)) (I.syms.length) ?_ ?_
  have B7 := ((((n2.blk).ext (n4.ext)).ext (ed26)).mod (ms5) ((by omega))).ext (ed33)
  have B8 := (bs5).ext (ed33)
  · exact ⟨(0), (10), (.slice none 0 0), by omega, hd10, by omega, (fun _ => rfl), rfl, rfl, rfl, rfl, rfl, rfl, rfl, rfl, rfl, rfl, rfl, rfl, rfl, rfl, rfl, rfl, rfl, rfl, rfl, rfl, rfl, rfl, rfl, rfl, rfl, rfl, rfl, rfl, rfl, E6, B7, B8, Own.nil _ _, (fun g hg => by cases hg), (fun h => by cases h), (fun h => by cases h)⟩
  rintro ka f1 wr ⟨j, a, u, hk1, hda, ha, hu0, h0_1, h2_1, h4_1, h5_1, h6_1, h7_1, h8_1, h13_1, h14_1, h15_1, h16_1, h17_1, h18_1, h19_1, h20_1, h21_1, h23_1, h24_1, h25_1, h26_1, h27_1, h28_1, h29_1, h30_1, h31_1, h32_1, h33_1, h34_1, h35_1, hE, hB2, hB4, hO, hF, hn2, hn4⟩
  refine WC.seq ?_
  refine WC.seq ?_
  refine WC.cut (fun f' w_ => f' 0 = sv ∧ f' 2 = ptr b2 0 ∧ f' 4 = ptr b4 0 ∧ f' 5 = IN (a) ∧ f' 6 = IN (I.syms.length) ∧ f' 7 = IN (0) ∧ f' 8 = IN (j) ∧ f' 13 = sv ∧ f' 14 = IN (d.length) ∧ f' 15 = .bool (false) ∧ f' 16 = .bool (false) ∧ f' 17 = sv ∧ f' 18 = v18 ∧ f' 19 = St ((d.take 4)) ∧ f' 20 = .bool (false) ∧ f' 21 = .bool (false) ∧ f' 23 = .tuple #[.int .i64 (I.entry), IN (8)] ∧ f' 24 = sv ∧ f' 25 = IN (4) ∧ f' 26 = .tuple #[.int .i64 (I.entry), IN (8)] ∧ f' 27 = .int .i64 (I.entry) ∧ f' 28 = IN (8) ∧ f' 29 = ptr b4 0 ∧ f' 30 = .tuple #[.int .i64 (((I.syms.length : Nat) : Int)), IN (10)] ∧ f' 31 = sv ∧ f' 32 = IN (8) ∧ f' 33 = .tuple #[.int .i64 (((I.syms.length : Nat) : Int)), IN (10)] ∧ f' 34 = IN (I.syms.length) ∧ f' 35 = IN (10) ∧ f' 42 = .bool (decide (((j : Nat) : Int) < ((I.syms.length : Nat) : Int))) ∧ wr = w_) ?_ ?_
  · refine WC.region ?_
    refine WL.move (v := IN (j)) h8_1 rfl ?_
    refine WL.move (v := IN (I.syms.length)) h6_1 rfl ?_
    refine WL.bin rfl rfl rfl (BinR.lss) ?_
    refine WL.move (v := .bool (decide (((j : Nat) : Int) < ((I.syms.length : Nat) : Int)))) rfl rfl ?_
    rcases Bool.eq_false_or_eq_true (decide (((j : Nat) : Int) < ((I.syms.length : Nat) : Int))) with hg39 | hg39
    · refine WL.guardT (yf_bool rfl rfl hg39) ?_
      refine WL.move (v := IN (a)) h5_1 rfl ?_
      refine WL.guardT (yf_bool rfl rfl hg39) ?_
      refine WL.bin (v := .bool (true)) rfl rfl rfl (BinR.toB (BinR.geq) (decide_eq_true (by omega))) ?_
      refine WL.pick (b := true) (congrArg Value.bool hg39) rfl rfl ?_
      refine WL.nil ?_
      have hcut : (true) = decide (((j : Nat) : Int) < ((I.syms.length : Nat) : Int)) := by simp only [*, Bool.true_or, Bool.or_true, Bool.false_or, Bool.or_false, Bool.true_and, Bool.and_true, Bool.false_and, Bool.and_false]
      exact ⟨rfl, h0_1, h2_1, h4_1, h5_1, h6_1, h7_1, h8_1, h13_1, h14_1, h15_1, h16_1, h17_1, h18_1, h19_1, h20_1, h21_1, h23_1, h24_1, h25_1, h26_1, h27_1, h28_1, h29_1, h30_1, h31_1, h32_1, h33_1, h34_1, h35_1, congrArg Value.bool hcut, rfl⟩
    · refine WL.guardF (b' := false) (yf_bool rfl rfl hg39) rfl rfl ?_
      refine WL.guardF (b' := false) (yf_bool rfl rfl hg39) rfl rfl ?_
      refine WL.pick (b := false) (congrArg Value.bool hg39) rfl rfl ?_
      refine WL.nil ?_
      have hcut : (false) = decide (((j : Nat) : Int) < ((I.syms.length : Nat) : Int)) := by simp only [*, Bool.true_or, Bool.or_true, Bool.false_or, Bool.or_false, Bool.true_and, Bool.and_true, Bool.false_and, Bool.and_false]
      exact ⟨rfl, h0_1, h2_1, h4_1, h5_1, h6_1, h7_1, h8_1, h13_1, h14_1, h15_1, h16_1, h17_1, h18_1, h19_1, h20_1, h21_1, h23_1, h24_1, h25_1, h26_1, h27_1, h28_1, h29_1, h30_1, h31_1, h32_1, h33_1, h34_1, h35_1, congrArg Value.bool hcut, rfl⟩
  rintro fc8 _ ⟨hc8_0, hc8_2, hc8_4, hc8_5, hc8_6, hc8_7, hc8_8, hc8_13, hc8_14, hc8_15, hc8_16, hc8_17, hc8_18, hc8_19, hc8_20, hc8_21, hc8_23, hc8_24, hc8_25, hc8_26, hc8_27, hc8_28, hc8_29, hc8_30, hc8_31, hc8_32, hc8_33, hc8_34, hc8_35, hc8_42, rfl⟩
  refine WC.cond hc8_42 (fun hc42 => ?_) (fun hc42 => ?_)
  · have hj : j < I.syms.length := by have := of_decide_eq_true hc42; omega
    have hnj := gb3 _ (List.getElem_mem hj)
    have haj := gb8 _ (List.getElem_mem hj)
    have hda0 := hda.trans (symsT_step I j hj)
    have hd1 := drop_next hda0 (be_length 1 _)
    have hl1 := drop_len hda0 ha
    rw [be_length] at hl1
    have hd2 := drop_next hd1 rfl
    have hl2 := drop_len hd1 hl1
    have hd3 := drop_next hd2 (be_length 4 _)
    have hl3 := drop_len hd2 hl2
    rw [be_length] at hl3
    refine WC.skip ?_
    refine WC.seq ?_
    refine WC.block ?_
    refine WC.seq ?_
    refine WC.region ?_
    refine WL.assign (v := IN (0)) rfl rfl ?_
    refine WL.nil ?_
    refine WC.seq ?_
    refine WC.region ?_
    refine WL.move (v := sv) hc8_0 rfl ?_
    refine WL.move (v := IN (a)) hc8_5 rfl ?_
    refine WL.call ca34 (rfl) rfl (get_known sv d (a) 1 ((((I.syms[j]).1.length : Nat) : Int)) ((I.syms[j]).1 ++ (be 4 (I.syms[j]).2 ++ symsT I (j + 1))) _ ((hS).ext' (hE)) (by omega) (by decide) (hda0) (ha) (by omega) (by omega)) ?_
    rintro _ wd48 ⟨rfl, ed48⟩
    have R9 : Ext wr wd48 := Mod.trans (Mod.refl _ _) (ed48)
    have E10 : Ext w wd48 := Mod.trans (hE) (ed48)
    refine WL.move (v := .tuple #[.int .i64 ((((I.syms[j]).1.length : Nat) : Int)), IN (a + 1)]) rfl rfl ?_
    refine WL.extract rfl rfl rfl ?_
    refine WL.extract rfl rfl rfl ?_
    refine WL.assign (v := IN ((I.syms[j]).1.length)) rfl rfl ?_
    refine WL.assign (v := IN (a + 1)) rfl rfl ?_
    refine WL.nil ?_
    refine WC.seq ?_
    refine WC.seq ?_
    refine WC.region ?_
    refine WL.move (v := IN (a + 1)) rfl rfl ?_
    refine WL.bin (v := .bool (false)) rfl rfl rfl (BinR.toB (BinR.lss) (decide_eq_false (by omega))) ?_
    refine WL.move (v := .bool (false)) rfl rfl ?_
    refine WL.guardT (rfl) ?_
    refine WL.move (v := sv) hc8_0 rfl ?_
    refine WL.guardT (rfl) ?_
    refine WL.lenSl (sz := 1) (m := d.length) (xs := bs d) el28 rfl ((hS).ext' (E10)) rfl ?_
    refine WL.guardT (rfl) ?_
    refine WL.move (v := IN (a + 1)) rfl rfl ?_
    refine WL.guardT (rfl) ?_
    refine WL.bin rfl rfl rfl (BinR.subN (a := d.length) (b := a + 1) (by omega) (by omega)) ?_
    refine WL.guardT (rfl) ?_
    refine WL.move (v := IN ((I.syms[j]).1.length)) rfl rfl ?_
    refine WL.guardT (rfl) ?_
    refine WL.bin (v := .bool (false)) rfl rfl rfl (BinR.toB (BinR.lss) (decide_eq_false (by omega))) ?_
    refine WL.pick (b := false) rfl rfl rfl ?_
    refine WL.nil ?_
    refine WC.condF rfl ?_
    refine WC.skip ?_
    refine WC.seq ?_
    refine WC.region ?_
    refine WL.move (v := sv) hc8_0 rfl ?_
    refine WL.move (v := IN (a + 1)) rfl rfl ?_
    refine WL.move (v := IN (a + 1)) rfl rfl ?_
    refine WL.move (v := IN ((I.syms[j]).1.length)) rfl rfl ?_
    refine WL.bin rfl rfl rfl (BinR.addN (by omega)) ?_
    refine WL.sliceSl (sz := 1) (m := d.length) (xs := bs d) (i := a + 1) (j := (a + 1 + (I.syms[j]).1.length)) el28 sz5 rfl rfl rfl (by omega) (by omega) ((hS).ext' (E10)) rfl ?_
    intro v67 hv67
    have hv67b : Sl wd48 v67 1 ((I.syms[j]).1.length) (bs (I.syms[j]).1) := by rw [Nat.mul_one, Nat.mul_one, show a + 1 + (I.syms[j]).1.length - (a + 1) = (I.syms[j]).1.length by omega] at hv67; have e1 : ((bs d).drop (a + 1)).take (I.syms[j]).1.length = bs (I.syms[j]).1 := (by unfold bs; rw [← List.map_drop, ← List.map_take, hd1, List.take_left]); rwa [e1] at hv67
    refine WL.toString (m := (I.syms[j]).1.length) (bl := (I.syms[j]).1) Try.underlying28 Try.underlying5 Try.underlying9 rfl (hv67b) rfl ?_
    refine WL.build (v := .agg #[St ((I.syms[j]).1), IN (0)]) (vs := [(0, St ((I.syms[j]).1))]) rfl (bld16_69k (I.syms[j]).1) rfl ?_
    have O11 := (hO).ext (ed48)
    have B12 := (hB2).ext (ed48)
    have B13 := (hB4).ext (ed48)
    refine WL.allocStore (v := .agg #[St ((I.syms[j]).1), IN (0)]) zt54 rfl sz54 rfl rfl rfl rfl ?_
    intro b10 w10 n10
    have N14 : (u : Value).ownBlock ≠ some b10 := fun e => by have := (O11).lt0 hu0 (by decide) e; have := n10.num; omega
    have hl_b2_b10 : b2 < b10 := by have := (B12).lt; have := n10.num; omega
    have hl_b4_b10 : b4 < b10 := by have := (B13).lt; have := n10.num; omega
    have R15 : Ext wr w10 := Mod.trans (R9) (n10.ext)
    have E16 : Ext w w10 := Mod.trans (E10) (n10.ext)
    refine WL.nil ?_
    refine WC.seq ?_
    refine WC.region ?_
    refine WL.move (v := sv) hc8_0 rfl ?_
    refine WL.move (v := IN (a + 1)) rfl rfl ?_
    refine WL.move (v := IN ((I.syms[j]).1.length)) rfl rfl ?_
    refine WL.bin rfl rfl rfl (BinR.addN (by omega)) ?_
    refine WL.call ca34 (rfl) rfl (get_known sv d ((a + 1 + (I.syms[j]).1.length)) 4 ((I.syms[j]).2) (symsT I (j + 1)) _ ((hS).ext' (E16)) (by omega) (by decide) (hd2) (hl2) (by omega) (by omega)) ?_
    rintro _ wd75 ⟨rfl, ed75⟩
    have R17 : Ext wr wd75 := Mod.trans (R15) (ed75)
    have E18 : Ext w wd75 := Mod.trans (E16) (ed75)
    refine WL.move (v := .tuple #[.int .i64 ((I.syms[j]).2), IN (a + 1 + (I.syms[j]).1.length + 4)]) rfl rfl ?_
    refine WL.extract rfl rfl rfl ?_
    refine WL.extract rfl rfl rfl ?_
    refine WL.fieldAddr rfl fo54_1 rfl ?_
    have B19 := (n10.blk).ext (ed75)
    refine WL.storeB (v := .int .i64 ((I.syms[j]).2)) rfl rfl rfl sz3 B19 (Nat.le_of_ble_eq_true rfl) ?_
    intro ws20 ms20 bs20 zs20
    have R20 : Ext wr ws20 := Mod.own (R9) n10 (R17) (ms20)
    have E21 : Ext w ws20 := Mod.own (E10) n10 (E18) (ms20)
    refine WL.assign (v := IN (a + 1 + (I.syms[j]).1.length + 4)) rfl rfl ?_
    refine WL.nil ?_
    refine WC.region ?_
    refine WL.fieldAddr hc8_4 fo33_1 rfl ?_
    have B22 := (((B13).ext (n10.ext)).ext (ed75)).mod (ms20) ((by omega))
    refine WL.load1 rfl ag31 (B22.cell (j := 1) rfl) rfl ?_
    refine WL.loadS [St ((I.syms[j]).1), .int .i64 ((I.syms[j]).2)] rfl ag54 sz54 rfl (bs20.sub (o := 0) (vs := [St ((I.syms[j]).1), .int .i64 ((I.syms[j]).2)]) rfl) rfl ?_
    have O23 := (((O11).ext (n10.ext)).ext (ed75)).mod (ms20) (fun g hg e => N14 (hg.trans (congrArg some e)))
    refine WL.buildSlice (vs := [(0, .agg #[St ((I.syms[j]).1), .int .i64 ((I.syms[j]).2)])]) rfl (bls16_82k (I.syms[j]).1 (I.syms[j]).2) rfl ?_
    intro b82 w82 n82
    have N24 : (u : Value).ownBlock ≠ some b82 := fun e => by have := (O23).lt0 hu0 (by decide) e; have := n82.num; omega
    have R25 : Ext wr w82 := Mod.trans (R20) (n82.ext)
    have E26 : Ext w w82 := Mod.trans (E21) (n82.ext)
    have O27 := (O23).ext (n82.ext)
    refine WL.append (k := (I.syms.take j).length) (m := 1) (xs := symCells (I.syms.take j)) (news := [St (I.syms[j]).1, .int .i64 (I.syms[j]).2]) ap31 rfl rfl rfl (O27) (Src.ofSlice _ Try.underlying31 ⟨b82, 0, none⟩ 1 1 _ rfl (fun j u hj => by rw [addr_add]; exact (n82.blk).cells j u hj) (sym_one _ _)) (by rw [List.length_take]; omega) (by rw [List.length_take]; omega) rfl ?_
    intro v83 w83 o83 m83 l83
    have o83b : Own w83 2 v83 ((I.syms.take (j + 1)).length) (symCells (I.syms.take (j + 1))) := by rw [symCells_take _ _ hj, show (I.syms.take j).length + 1 = (I.syms.take (j + 1)).length by rw [List.length_take, List.length_take]; omega] at o83; exact o83
    have F28 : From w.heap.size v83 := LocV.from l83 (Mod.size (E26)) (hF)
    have B30 := ((((B12).ext (n10.ext)).ext (ed75)).mod (ms20) ((by omega))).ext (n82.ext)
    have N29 : v83.ownBlock ≠ some b2 := LocV.ne l83 ((B30).lt) hn2
    have B32 := (B22).ext (n82.ext)
    have N31 : v83.ownBlock ≠ some b4 := LocV.ne l83 ((B32).lt) hn4
    have B34 := (bs20).ext (n82.ext)
    have N33 : v83.ownBlock ≠ some b10 := LocV.ne l83 ((B34).lt) N14
    have N35 : v83.ownBlock ≠ some b82 := LocV.ne l83 ((n82.blk).lt) N24
    have E36 : Ext w w83 := Mod.from (E26) m83 (hF)
    refine WL.fieldAddr hc8_4 fo33_1 rfl ?_
    have B37 := (B32).mod (m83) (hn4)
    refine WL.storeB (v := v83) rfl rfl ((o83b).sl).one sz31 B37 (Nat.le_of_ble_eq_true rfl) ?_
    intro ws38 ms38 bs38 zs38
    have E38 : Ext w ws38 := Mod.then (E36) (ms38) (fun i hi (e : i = b4) => absurd hi (by omega))
    refine WL.nil ?_
    refine WC.region ?_
    refine WL.move (v := IN (j)) hc8_8 rfl ?_
    refine WL.bin rfl rfl rfl (BinR.succN (by omega)) ?_
    refine WL.assign (v := IN (j + 1)) rfl rfl ?_
    refine WL.nil ?_
    have B39 := ((B30).mod (m83) (hn2)).mod (ms38) ((by omega))
    have O40 := (o83b).mod (ms38) (fun g hg e => N31 (hg.trans (congrArg some e)))
    exact ⟨ka - 1, by omega, (j + 1), (a + 1 + (I.syms[j]).1.length + 4), (v83), by omega, hd3, hl3, (fun h => by rw [List.length_take] at h; omega), hc8_0, hc8_2, hc8_4, rfl, hc8_6, hc8_7, rfl, hc8_13, hc8_14, hc8_15, hc8_16, hc8_17, hc8_18, hc8_19, hc8_20, hc8_21, hc8_23, hc8_24, hc8_25, hc8_26, hc8_27, hc8_28, hc8_29, hc8_30, hc8_31, hc8_32, hc8_33, hc8_34, hc8_35, E38, B39, bs38, O40, F28, N29, N31⟩
  · have hj : I.syms.length ≤ j := by have := of_decide_eq_false hc42; omega
    have hdw0 := hda.trans (symsT_end I j hj)
    have hdw := drop_next hdw0 (be_length 4 _)
    have hlw0 := drop_len hdw0 ha
    rw [be_length] at hlw0
    have hlw : d.length - (a + 4) = 4 * I.words.length := by have := congrArg List.length hdw; rw [List.length_drop, wordsT_len I 0 (by omega)] at this; omega
    have hjj : I.syms.take j = I.syms := List.take_of_length_le hj
    refine WC.exit ?_
    refine WC.seq ?_
    refine WC.region ?_
    refine WL.move (v := sv) hc8_0 rfl ?_
    refine WL.move (v := IN (a)) hc8_5 rfl ?_
    refine WL.call ca34 (rfl) rfl (get_known sv d (a) 4 (((I.words.length : Nat) : Int)) (wordsT I 0) _ ((hS).ext' (hE)) (by omega) (by decide) (hdw0) (ha) (by omega) (by omega)) ?_
    rintro _ wd88 ⟨rfl, ed88⟩
    have R41 : Ext wr wd88 := Mod.trans (Mod.refl _ _) (ed88)
    have E42 : Ext w wd88 := Mod.trans (hE) (ed88)
    refine WL.move (v := .tuple #[.int .i64 (((I.words.length : Nat) : Int)), IN (a + 4)]) rfl rfl ?_
    refine WL.extract rfl rfl rfl ?_
    refine WL.extract rfl rfl rfl ?_
    refine WL.assign (v := IN (I.words.length)) rfl rfl ?_
    refine WL.assign (v := IN (a + 4)) rfl rfl ?_
    refine WL.nil ?_
    refine WC.seq ?_
    refine WC.seq ?_
    refine WC.region ?_
    refine WL.move (v := IN (a + 4)) rfl rfl ?_
    refine WL.bin (v := .bool (false)) rfl rfl rfl (BinR.toB (BinR.lss) (decide_eq_false (by omega))) ?_
    refine WL.move (v := .bool (false)) rfl rfl ?_
    refine WL.guardT (rfl) ?_
    refine WL.move (v := sv) hc8_0 rfl ?_
    refine WL.guardT (rfl) ?_
    refine WL.lenSl (sz := 1) (m := d.length) (xs := bs d) el28 rfl ((hS).ext' (E42)) rfl ?_
    refine WL.guardT (rfl) ?_
    refine WL.move (v := IN (a + 4)) rfl rfl ?_
    refine WL.guardT (rfl) ?_
    refine WL.bin rfl rfl rfl (BinR.subN (a := d.length) (b := a + 4) (by omega) (by omega)) ?_
    refine WL.guardT (rfl) ?_
    refine WL.move (v := IN (I.words.length)) rfl rfl ?_
    refine WL.guardT (rfl) ?_
    refine WL.bin rfl rfl rfl (BinR.mulN (a := 4) (b := I.words.length) (by omega)) ?_
    refine WL.guardT (rfl) ?_
    refine WL.bin (v := .bool (false)) rfl rfl rfl (BinR.toB (BinR.neq) (by rw [hlw]; simp)) ?_
    refine WL.pick (b := false) rfl rfl rfl ?_
    refine WL.nil ?_
    refine WC.condF rfl ?_
    refine WC.skip ?_
    refine WC.seq ?_
    refine WC.seq ?_
    refine WC.region ?_
    refine WL.assign (v := IN (0)) rfl rfl ?_
    refine WL.nil ?_
    refine WC.block ?_
    refine WC.loop (fun k f w_ => ∃ i c x, (k + i = I.words.length) ∧ (d.drop c = wordsT I i) ∧ (c ≤ d.length) ∧ (0 < (I.syms.take j).length → ∀ g, u.ownBlock = some g → x.ownBlock ≠ some g) ∧ f 0 = sv ∧ f 2 = ptr b2 0 ∧ f 4 = ptr b4 0 ∧ f 5 = IN (c) ∧ f 6 = IN (I.syms.length) ∧ f 7 = IN (I.words.length) ∧ f 8 = IN (j) ∧ f 11 = IN (i) ∧ f 13 = sv ∧ f 14 = IN (d.length) ∧ f 15 = .bool (false) ∧ f 16 = .bool (false) ∧ f 17 = sv ∧ f 18 = v18 ∧ f 19 = St ((d.take 4)) ∧ f 20 = .bool (false) ∧ f 21 = .bool (false) ∧ f 23 = .tuple #[.int .i64 (I.entry), IN (8)] ∧ f 24 = sv ∧ f 25 = IN (4) ∧ f 26 = .tuple #[.int .i64 (I.entry), IN (8)] ∧ f 27 = .int .i64 (I.entry) ∧ f 28 = IN (8) ∧ f 29 = ptr b4 0 ∧ f 30 = .tuple #[.int .i64 (((I.syms.length : Nat) : Int)), IN (10)] ∧ f 31 = sv ∧ f 32 = IN (8) ∧ f 33 = .tuple #[.int .i64 (((I.syms.length : Nat) : Int)), IN (10)] ∧ f 34 = IN (I.syms.length) ∧ f 35 = IN (10) ∧ f 42 = .bool (decide (((j : Nat) : Int) < ((I.syms.length : Nat) : Int))) ∧ f 85 = .tuple #[.int .i64 (((I.words.length : Nat) : Int)), IN (a + 4)] ∧ f 86 = sv ∧ f 87 = IN (a) ∧ f 88 = .tuple #[.int .i64 (((I.words.length : Nat) : Int)), IN (a + 4)] ∧ f 89 = IN (I.words.length) ∧ f 90 = IN (a + 4) ∧ f 91 = IN (a + 4) ∧ f 92 = .bool (false) ∧ f 93 = .bool (false) ∧ f 94 = sv ∧ f 95 = IN (d.length) ∧ f 96 = IN (a + 4) ∧ f 97 = IN ((d.length - (a + 4))) ∧ f 98 = IN (I.words.length) ∧ f 99 = IN ((4 * I.words.length)) ∧ f 100 = .bool (false) ∧ f 101 = .bool (false) ∧ (Ext w w_) ∧ (Blk w_ b2 #[.int .i64 0, .slice none 0 0, .slice none 0 0] 33) ∧ (Blk w_ b4 #[.int .i64 I.entry, u, x] 33) ∧ (Sl w_ u 2 (I.syms.take j).length (symCells (I.syms.take j))) ∧ (Own w_ 1 x (I.words.take i).length (wordCells (I.words.take i))) ∧ (From w.heap.size x) ∧ (x.ownBlock ≠ some b2) ∧ (x.ownBlock ≠ some b4)) (I.words.length) ?_ ?_
    have B43 := (hB2).ext (ed88)
    have B44 := (hB4).ext (ed88)
    have O45 := (hO).ext (ed88)
    · exact ⟨(0), (a + 4), (.slice none 0 0), by omega, hdw, by omega, (fun _ g _ e => by cases e), hc8_0, hc8_2, hc8_4, rfl, hc8_6, rfl, hc8_8, rfl, hc8_13, hc8_14, hc8_15, hc8_16, hc8_17, hc8_18, hc8_19, hc8_20, hc8_21, hc8_23, hc8_24, hc8_25, hc8_26, hc8_27, hc8_28, hc8_29, hc8_30, hc8_31, hc8_32, hc8_33, hc8_34, hc8_35, hc8_42, rfl, rfl, rfl, rfl, rfl, rfl, rfl, rfl, rfl, rfl, rfl, rfl, rfl, rfl, rfl, rfl, rfl, E42, B43, B44, (O45).sl, Own.nil _ _, (fun g hg => by cases hg), (fun h => by cases h), (fun h => by cases h)⟩
    rintro kb f2 wr2 ⟨i, c, x, hk2, hdc, hc, hux, h0_2, h2_2, h4_2, h5_2, h6_2, h7_2, h8_2, h11_2, h13_2, h14_2, h15_2, h16_2, h17_2, h18_2, h19_2, h20_2, h21_2, h23_2, h24_2, h25_2, h26_2, h27_2, h28_2, h29_2, h30_2, h31_2, h32_2, h33_2, h34_2, h35_2, h42_2, h85_2, h86_2, h87_2, h88_2, h89_2, h90_2, h91_2, h92_2, h93_2, h94_2, h95_2, h96_2, h97_2, h98_2, h99_2, h100_2, h101_2, hE2, hB22, hB42, hU, hX, hFx, hx2, hx4⟩
    refine WC.seq ?_
    refine WC.seq ?_
    refine WC.region ?_
    refine WL.move (v := IN (i)) h11_2 rfl ?_
    refine WL.move (v := IN (I.words.length)) h7_2 rfl ?_
    refine WL.bin rfl rfl rfl (BinR.lss) ?_
    refine WL.nil ?_
    refine WC.cond rfl (fun hc105 => ?_) (fun hc105 => ?_)
    · have hi : i < I.words.length := by have := of_decide_eq_true hc105; omega
      have hwl := (I.words[i]).isLt
      have hdc0 := hdc.trans (wordsT_step I i hi)
      have hdc1 := drop_next hdc0 (be_length 4 _)
      have hlc := drop_len hdc0 hc
      rw [be_length] at hlc
      refine WC.skip ?_
      refine WC.seq ?_
      refine WC.block ?_
      refine WC.seq ?_
      refine WC.region ?_
      refine WL.assign (v := IN (0)) rfl rfl ?_
      refine WL.nil ?_
      refine WC.seq ?_
      refine WC.region ?_
      refine WL.move (v := sv) h0_2 rfl ?_
      refine WL.move (v := IN (c)) h5_2 rfl ?_
      refine WL.call ca34 (rfl) rfl (get_known sv d (c) 4 (((I.words[i]).toNat : Int)) (wordsT I (i + 1)) _ ((hS).ext' (hE2)) (by omega) (by decide) (hdc0) (hc) (by omega) (by omega)) ?_
      rintro _ wd111 ⟨rfl, ed111⟩
      have R46 : Ext wr2 wd111 := Mod.trans (Mod.refl _ _) (ed111)
      have E47 : Ext w wd111 := Mod.trans (hE2) (ed111)
      refine WL.move (v := .tuple #[.int .i64 (((I.words[i]).toNat : Int)), IN (c + 4)]) rfl rfl ?_
      refine WL.extract rfl rfl rfl ?_
      refine WL.extract rfl rfl rfl ?_
      refine WL.assign (v := .int .i64 (((I.words[i]).toNat : Int))) rfl rfl ?_
      refine WL.assign (v := IN (c + 4)) rfl rfl ?_
      refine WL.nil ?_
      refine WC.region ?_
      refine WL.fieldAddr h4_2 fo33_2 rfl ?_
      have B48 := (hB42).ext (ed111)
      refine WL.load1 rfl ag23 (B48.cell (j := 2) rfl) rfl ?_
      refine WL.move (v := .int .i64 (((I.words[i]).toNat : Int))) rfl rfl ?_
      refine WL.conv rfl rfl (conv_u32' Try.underlying3 Try.underlying42 _) ?_
      refine WL.buildSlice (vs := [(0, U32 ((I.words[i])))]) rfl (bls16_118k (I.words[i])) rfl ?_
      intro b118 w118 n118
      have R49 : Ext wr2 w118 := Mod.trans (R46) (n118.ext)
      have E50 : Ext w w118 := Mod.trans (E47) (n118.ext)
      have O51 := ((hX).ext (ed111)).ext (n118.ext)
      have S52 := ((hU).ext' (ed111)).ext' (n118.ext)
      refine WL.append (k := (I.words.take i).length) (m := 1) (xs := wordCells (I.words.take i)) (news := [U32 (I.words[i])]) ap23 rfl rfl rfl (O51) (Src.ofSlice _ Try.underlying23 ⟨b118, 0, none⟩ 1 1 _ rfl (fun j u hj => by rw [addr_add]; exact (n118.blk).cells j u hj) (fun u hu => by obtain rfl := List.mem_singleton.1 hu; rfl)) (by rw [List.length_take]; omega) (by rw [List.length_take]; omega) rfl ?_
      intro v119 w119 o119 m119 l119
      have o119b : Own w119 1 v119 ((I.words.take (i + 1)).length) (wordCells (I.words.take (i + 1))) := by rw [wordCells_take _ _ hi, show (I.words.take i).length + 1 = (I.words.take (i + 1)).length by rw [List.length_take, List.length_take]; omega] at o119; exact o119
      have F53 : From w.heap.size v119 := LocV.from l119 (Mod.size (E50)) (hFx)
      have B55 := ((hB22).ext (ed111)).ext (n118.ext)
      have N54 : v119.ownBlock ≠ some b2 := LocV.ne l119 ((B55).lt) hx2
      have B57 := (B48).ext (n118.ext)
      have N56 : v119.ownBlock ≠ some b4 := LocV.ne l119 ((B57).lt) hx4
      have E58 : Ext w w119 := Mod.from (E50) m119 (hFx)
      refine WL.fieldAddr h4_2 fo33_2 rfl ?_
      have B59 := (B57).mod (m119) (hx4)
      refine WL.storeB (v := v119) rfl rfl ((o119b).sl).one sz23 B59 (Nat.le_of_ble_eq_true rfl) ?_
      intro ws60 ms60 bs60 zs60
      have E60 : Ext w ws60 := Mod.then (E58) (ms60) (fun i hi (e : i = b4) => absurd hi (by omega))
      refine WL.nil ?_
      refine WC.region ?_
      refine WL.move (v := IN (i)) h11_2 rfl ?_
      refine WL.bin rfl rfl rfl (BinR.succN (by omega)) ?_
      refine WL.assign (v := IN (i + 1)) rfl rfl ?_
      refine WL.nil ?_
      have B61 := ((B55).mod (m119) (hx2)).mod (ms60) ((by omega))
      have S62 := ((S52).modp (m119) (fun h0 g hg e => hux h0 g hg e)).mod' (ms60) (fun g hg e => hn4 (hg.trans (congrArg some e)))
      have O63 := (o119b).mod (ms60) (fun g hg e => N56 (hg.trans (congrArg some e)))
      exact ⟨kb - 1, by omega, (i + 1), (c + 4), (v119), by omega, hdc1, hlc, (fun h0 g hg => LocV.ne l119 ((S52).lt h0 (by decide) hg) (hux h0 g hg)), h0_2, h2_2, h4_2, rfl, h6_2, h7_2, h8_2, rfl, h13_2, h14_2, h15_2, h16_2, h17_2, h18_2, h19_2, h20_2, h21_2, h23_2, h24_2, h25_2, h26_2, h27_2, h28_2, h29_2, h30_2, h31_2, h32_2, h33_2, h34_2, h35_2, h42_2, h85_2, h86_2, h87_2, h88_2, h89_2, h90_2, h91_2, h92_2, h93_2, h94_2, h95_2, h96_2, h97_2, h98_2, h99_2, h100_2, h101_2, E60, B61, bs60, S62, O63, F53, N54, N56⟩
    · have hi : I.words.length ≤ i := by have := of_decide_eq_false hc105; omega
      have hii : I.words.take i = I.words := List.take_of_length_le hi
      refine WC.exit ?_
      refine WC.seq ?_
      refine WC.seq ?_
      refine WC.region ?_
      refine WL.loadS [.int .i64 (I.entry), u, x] h4_2 ag33 sz33 rfl (hB42.sub (o := 0) (vs := [.int .i64 (I.entry), u, x]) rfl) rfl ?_
      have hRM : Rep wr2 u x I := ⟨(by have h := hU; rw [hjj] at h; exact h), (by have h := (hX).sl; rw [hii] at h; exact h), by omega, by omega⟩
      refine WL.call ca18 (rfl) rfl (rright_spec u x I _ hRM) ?_
      rintro _ wd122 ⟨rfl, ed122⟩
      rw [hr]
      have R64 : Ext wr2 wd122 := Mod.trans (Mod.refl _ _) (ed122)
      have E65 : Ext w wd122 := Mod.trans (hE2) (ed122)
      refine WL.un rfl rfl UnR.not ?_
      refine WL.nil ?_
      refine WC.condF rfl ?_
      refine WC.skip ?_
      refine WC.seq ?_
      refine WC.region ?_
      have B66 := (hB42).ext (ed122)
      refine WL.loadS [.int .i64 (I.entry), u, x] h4_2 ag33 sz33 rfl (B66.sub (o := 0) (vs := [.int .i64 (I.entry), u, x]) rfl) rfl ?_
      have B67 := (hB22).ext (ed122)
      have S68 := (hU).ext' (ed122)
      have O69 := (hX).ext (ed122)
      refine WL.storeS (v := .agg #[.int .i64 (I.entry), u, x]) h2_2 rfl B67 rfl sz33 rfl (ones3 rfl (S68).one ((O69).sl).one) ?_
      intro ws68 ms68 bs68 zs68
      have E70 : Ext w ws68 := Mod.then (E65) (ms68) (fun i hi (e : i = b2) => absurd hi (by omega))
      refine WL.assign (v := .bool (true)) rfl rfl ?_
      refine WL.nil ?_
      refine WC.ret ?_
      have S71 := (S68).mod' (ms68) (fun g hg e => hn2 (hg.trans (congrArg some e)))
      have O72 := (O69).mod (ms68) (fun g hg e => hx2 (hg.trans (congrArg some e)))
      exact ⟨_, Res.cellTmp (v' := .bool (true)) rfl h2_2 (loadVar_agg [.int .i64 (I.entry), u, x] ag33 sz33 rfl (bs68.sub (o := 0) rfl)) rfl, u, x, rfl, ⟨(by have h := S71; rw [hjj] at h; exact h), (by have h := (O72).sl; rw [hii] at h; exact h), by omega, by omega⟩, E70⟩
end Go.Proofs.I
