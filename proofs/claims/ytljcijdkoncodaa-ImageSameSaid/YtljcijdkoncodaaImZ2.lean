import Derived.Test.YtljcijdkoncodaaImgBig
import Derived.Test.YtljcijdkoncodaaRows
import Derived.Test.YtljcijdkoncodaaImZ1
set_option linter.unusedSimpArgs false
set_option linter.unusedVariables false
namespace Go.Proofs.I
open Go Go.Ux Go.Ux.Image Go.Proofs
theorem bld16_22b  : ∀ w : World, (Instr.build 33 #[]).run Try.prog w = .ok (.agg #[IN (0), .slice none 0 0, .slice none 0 0]) w := fun _ => by kernel_rfl
theorem bld16_61b  : ∀ w : World, (Instr.build 33 #[]).run Try.prog w = .ok (.agg #[IN (0), .slice none 0 0, .slice none 0 0]) w := fun _ => by kernel_rfl
theorem bld16_69b (a : List UInt8) : ∀ w : World, (Instr.build 54 #[(0, St a)]).run Try.prog w = .ok (.agg #[St a, IN (0)]) w := fun _ => by kernel_rfl
theorem bls16_82b (a : List UInt8) (b : Int) : ∀ w : World, (Instr.buildSlice 31 1 #[(0, .agg #[St a, .int .i64 (b)])]).run Try.prog w = .ok (.slice (some ⟨w.heap.size, 0, none⟩) 1 1) (w.alloc (.cells #[St a, .int .i64 (b)] 54)) := fun _ => by kernel_rfl
theorem bld16_102b  : ∀ w : World, (Instr.build 33 #[]).run Try.prog w = .ok (.agg #[IN (0), .slice none 0 0, .slice none 0 0]) w := fun _ => by kernel_rfl
theorem bls16_118b (z : BitVec 32) : ∀ w : World, (Instr.buildSlice 23 1 #[(0, U32 (z))]).run Try.prog w = .ok (.slice (some ⟨w.heap.size, 0, none⟩) 1 1) (w.alloc (.cells #[U32 (z)] 42)) := fun _ => by kernel_rfl
theorem bld16_124b  : ∀ w : World, (Instr.build 33 #[]).run Try.prog w = .ok (.agg #[IN (0), .slice none 0 0, .slice none 0 0]) w := fun _ => by kernel_rfl

theorem rget_bad (sv : Value) (d : List UInt8) (w : World) (hS : Sl w sv 1 d.length (bs d)) (hd : d.length ≤ 1000000) (hno : ∀ I, rightB I = true → bytesOf I ≠ d) : CallsR Try.prog 16 #[sv] w (fun v w' => v = .tuple #[.agg #[.int .i64 0, .slice none 0 0, .slice none 0 0], .bool false] ∧ Ext w w') := by
  refine callsR_of Try.func16 rfl rfl rfl ?_
  refine WC.seq ?_
  refine WC.region ?_
  refine WL.alloc zt33 rfl ?_
  intro b2 w2 n2
  have E1 : Ext w w2 := Mod.trans (Mod.refl _ _) (n2.ext)
  refine WL.assign (v := .bool (false)) rfl rfl ?_
  refine WL.nil ?_
  refine WC.seq ?_
  refine WC.region ?_
  refine WL.alloc zt33 rfl ?_
  intro b4 w4 n4
  have E2 : Ext w w4 := Mod.trans (E1) (n4.ext)
  refine WL.nil ?_
  have hb1 : w.heap.size ≤ b2 ∧ b2 < b4 := by have := n2.num; have := n2.size; have := n4.num; omega
  refine WC.seq ?_
  refine WC.seq ?_
  refine WC.region ?_
  refine WL.move (v := sv) rfl rfl ?_
  refine WL.lenSl (sz := 1) (m := d.length) (xs := bs d) el28 rfl ((hS).ext' (E2)) rfl ?_
  refine WL.bin rfl rfl rfl (BinR.lss) ?_
  refine WL.move (v := .bool (decide (((d.length : Nat) : Int) < (4 : Int)))) rfl rfl ?_
  rcases Bool.eq_false_or_eq_true (decide (((d.length : Nat) : Int) < (4 : Int))) with hg16 | hg16
  · refine WL.guardF (b' := true) (yf_bool rfl rfl hg16) rfl rfl ?_
    refine WL.guardF (b' := true) (yf_bool rfl rfl hg16) rfl rfl ?_
    refine WL.guardF (b' := true) (yf_bool rfl rfl hg16) rfl rfl ?_
    refine WL.guardF (b' := true) (yf_bool rfl rfl hg16) rfl rfl ?_
    refine WL.pick (b := true) (congrArg Value.bool hg16) rfl rfl ?_
    refine WL.nil ?_
    refine WC.condT rfl ?_
    refine WC.seq ?_
    refine WC.region ?_
    refine WL.build (v := .agg #[IN (0), .slice none 0 0, .slice none 0 0]) (vs := []) rfl (bld16_22b) rfl ?_
    have B3 := (n2.blk).ext (n4.ext)
    refine WL.storeS (v := .agg #[IN (0), .slice none 0 0, .slice none 0 0]) rfl rfl B3 rfl sz33 rfl rfl ?_
    intro ws4 ms4 bs4 zs4
    have E4 : Ext w ws4 := Mod.own (Mod.refl _ _) n2 (E2) (ms4)
    refine WL.assign (v := .bool (false)) rfl rfl ?_
    refine WL.nil ?_
    refine WC.ret ?_
    exact ⟨_, Res.cellTmp (v' := .bool (false)) rfl rfl (loadVar_agg [IN (0), .slice none 0 0, .slice none 0 0] ag33 sz33 rfl (bs4.sub (o := 0) rfl)) rfl, rfl, E4⟩
  · have h4 : 4 ≤ d.length := by have := of_decide_eq_false hg16; omega
    refine WL.guardT (yf_bool rfl rfl hg16) ?_
    refine WL.move (v := sv) rfl rfl ?_
    refine WL.guardT (yf_bool rfl rfl hg16) ?_
    refine WL.sliceToSl (sz := 1) (m := d.length) (xs := bs d) (j := 4) el28 sz5 rfl rfl (by omega) ((hS).ext' (E2)) rfl ?_
    intro v18 hv18 hbv18
    have hv18b : Sl w4 v18 1 (4) (bs (d.take 4)) := by rw [Nat.mul_one] at hv18; unfold bs at hv18 ⊢; rw [List.map_take]; exact hv18
    refine WL.guardT (yf_bool rfl rfl hg16) ?_
    refine WL.toString (m := 4) (bl := (d.take 4)) Try.underlying28 Try.underlying5 Try.underlying9 rfl (hv18b) rfl ?_
    refine WL.guardT (yf_bool rfl rfl hg16) ?_
    refine WL.bin rfl (vy := St [80, 77, 73, 49]) rfl rfl (BinR.neqS) ?_
    refine WL.pick (b := false) (congrArg Value.bool hg16) rfl rfl ?_
    refine WL.nil ?_
    refine WC.cond rfl (fun hc21 => ?_) (fun hc21 => ?_)
    · refine WC.seq ?_
      refine WC.region ?_
      refine WL.build (v := .agg #[IN (0), .slice none 0 0, .slice none 0 0]) (vs := []) rfl (bld16_22b) rfl ?_
      have B5 := (n2.blk).ext (n4.ext)
      refine WL.storeS (v := .agg #[IN (0), .slice none 0 0, .slice none 0 0]) rfl rfl B5 rfl sz33 rfl rfl ?_
      intro ws6 ms6 bs6 zs6
      have E6 : Ext w ws6 := Mod.own (Mod.refl _ _) n2 (E2) (ms6)
      refine WL.assign (v := .bool (false)) rfl rfl ?_
      refine WL.nil ?_
      refine WC.ret ?_
      exact ⟨_, Res.cellTmp (v' := .bool (false)) rfl rfl (loadVar_agg [IN (0), .slice none 0 0, .slice none 0 0] ag33 sz33 rfl (bs6.sub (o := 0) rfl)) rfl, rfl, E6⟩
    · have hm4 : d.take 4 = magic := by have h := hc21; simp at h; exact h
      have hP0 := magic_of (by have := of_decide_eq_false hg16; omega) hm4
      refine WC.skip ?_
      refine WC.seq ?_
      refine WC.region ?_
      refine WL.assign (v := IN (4)) rfl rfl ?_
      refine WL.assign (v := IN (0)) rfl rfl ?_
      refine WL.assign (v := IN (0)) rfl rfl ?_
      refine WL.nil ?_
      refine WC.seq ?_
      refine WC.region ?_
      refine WL.move (v := sv) rfl rfl ?_
      refine WL.move (v := IN (4)) rfl rfl ?_
      refine WL.call ca34 (rfl) rfl (get_any sv d (magic) (((4 : Nat) : Int)) 4 _ ((hS).ext' (E2)) (by omega) (by decide) (hP0)) ?_
      rintro _ wd26 ⟨m26, z26, rfl, hm26, hP26, hz26, ed26⟩
      have hm26 : m26 < 4294967296 := hm26
      have hr26 := hP26.range
      have E7 : Ext w wd26 := Mod.trans (E2) (ed26)
      refine WL.move (v := .tuple #[IN m26, .int .i64 z26]) rfl rfl ?_
      refine WL.extract rfl rfl rfl ?_
      refine WL.extract rfl rfl rfl ?_
      refine WL.fieldAddr rfl fo33_0 rfl ?_
      have B8 := (n4.blk).ext (ed26)
      refine WL.storeB (v := IN (m26)) rfl rfl rfl sz3 B8 (Nat.le_of_ble_eq_true rfl) ?_
      intro ws9 ms9 bs9 zs9
      have E9 : Ext w ws9 := Mod.own (E1) n4 (E7) (ms9)
      refine WL.assign (v := .int .i64 (z26)) rfl rfl ?_
      refine WL.nil ?_
      refine WC.seq ?_
      refine WC.region ?_
      refine WL.move (v := sv) rfl rfl ?_
      refine WL.move (v := .int .i64 (z26)) rfl rfl ?_
      refine WL.call ca34 (rfl) rfl (get_any sv d (magic ++ be 4 ((m26 : Nat) : Int)) (z26) 2 _ ((hS).ext' (E9)) (by omega) (by decide) (hP26)) ?_
      rintro _ wd33 ⟨m33, z33, rfl, hm33, hP33, hz33, ed33⟩
      have hm33 : m33 < 65536 := hm33
      have hr33 := hP33.range
      have E10 : Ext w wd33 := Mod.trans (E9) (ed33)
      refine WL.move (v := .tuple #[IN m33, .int .i64 z33]) rfl rfl ?_
      refine WL.extract rfl rfl rfl ?_
      refine WL.extract rfl rfl rfl ?_
      refine WL.assign (v := IN (m33)) rfl rfl ?_
      refine WL.assign (v := .int .i64 (z33)) rfl rfl ?_
      refine WL.nil ?_
      refine WC.seq ?_
      refine WC.seq ?_
      refine WC.region ?_
      refine WL.assign (v := IN (0)) rfl rfl ?_
      refine WL.nil ?_
      refine WC.block ?_
      refine WC.loop (fun k f w_ => ∃ j z u ss, (k + j = m33) ∧ (ss.length = j) ∧ (∀ s ∈ ss, s.1.length ≤ 255 ∧ 0 ≤ s.2 ∧ s.2 ≤ 4294967295) ∧ (Pre d (magic ++ be 4 ((m26 : Nat) : Int) ++ be 2 ((m33 : Nat) : Int) ++ symsB ss) z) ∧ (ss.length = 0 → u = .slice none 0 0) ∧ f 0 = sv ∧ f 2 = ptr b2 0 ∧ f 4 = ptr b4 0 ∧ f 5 = .int .i64 (z) ∧ f 6 = IN (m33) ∧ f 7 = IN (0) ∧ f 8 = IN (j) ∧ f 13 = sv ∧ f 14 = IN (d.length) ∧ f 15 = .bool (decide (((d.length : Nat) : Int) < (4 : Int))) ∧ f 16 = .bool (decide (((d.length : Nat) : Int) < (4 : Int))) ∧ f 17 = sv ∧ f 18 = v18 ∧ f 19 = St ((d.take 4)) ∧ f 20 = .bool ((((d.take 4)) != [80, 77, 73, 49])) ∧ f 21 = .bool ((((d.take 4)) != [80, 77, 73, 49])) ∧ f 23 = .tuple #[IN m26, .int .i64 z26] ∧ f 24 = sv ∧ f 25 = IN (4) ∧ f 26 = .tuple #[IN m26, .int .i64 z26] ∧ f 27 = IN (m26) ∧ f 28 = .int .i64 (z26) ∧ f 29 = ptr b4 0 ∧ f 30 = .tuple #[IN m33, .int .i64 z33] ∧ f 31 = sv ∧ f 32 = .int .i64 (z26) ∧ f 33 = .tuple #[IN m33, .int .i64 z33] ∧ f 34 = IN (m33) ∧ f 35 = .int .i64 (z33) ∧ (Ext w w_) ∧ (Blk w_ b2 #[.int .i64 0, .slice none 0 0, .slice none 0 0] 33) ∧ (Blk w_ b4 #[.int .i64 m26, u, .slice none 0 0] 33) ∧ (Own w_ 2 u ss.length (symCells ss)) ∧ (From w.heap.size u) ∧ (u.ownBlock ≠ some b2) ∧ (u.ownBlock ≠ some b4)) (m33) ?_ ?_
      have B11 := ((((n2.blk).ext (n4.ext)).ext (ed26)).mod (ms9) ((by omega))).ext (ed33)
      have B12 := (bs9).ext (ed33)
      · exact ⟨(0), (z33), (.slice none 0 0), ([]), by omega, rfl, (fun s hs => by cases hs), by rw [show symsB [] = [] from rfl, List.append_nil]; exact hP33, (fun _ => rfl), rfl, rfl, rfl, rfl, rfl, rfl, rfl, rfl, rfl, rfl, rfl, rfl, rfl, rfl, rfl, rfl, rfl, rfl, rfl, rfl, rfl, rfl, rfl, rfl, rfl, rfl, rfl, rfl, rfl, E10, B11, B12, Own.nil _ _, (fun g hg => by cases hg), (fun h => by cases h), (fun h => by cases h)⟩
      rintro ka f1 wr ⟨j, z, u, ss, hk1, hlen, hss, hP, hu0, h0_1, h2_1, h4_1, h5_1, h6_1, h7_1, h8_1, h13_1, h14_1, h15_1, h16_1, h17_1, h18_1, h19_1, h20_1, h21_1, h23_1, h24_1, h25_1, h26_1, h27_1, h28_1, h29_1, h30_1, h31_1, h32_1, h33_1, h34_1, h35_1, hE, hB2, hB4, hO, hF, hn2, hn4⟩
      refine WC.seq ?_
      refine WC.seq ?_
      refine WC.cut (fun f' w_ => f' 0 = sv ∧ f' 2 = ptr b2 0 ∧ f' 4 = ptr b4 0 ∧ f' 5 = .int .i64 (z) ∧ f' 6 = IN (m33) ∧ f' 7 = IN (0) ∧ f' 8 = IN (j) ∧ f' 13 = sv ∧ f' 14 = IN (d.length) ∧ f' 15 = .bool (decide (((d.length : Nat) : Int) < (4 : Int))) ∧ f' 16 = .bool (decide (((d.length : Nat) : Int) < (4 : Int))) ∧ f' 17 = sv ∧ f' 18 = v18 ∧ f' 19 = St ((d.take 4)) ∧ f' 20 = .bool ((((d.take 4)) != [80, 77, 73, 49])) ∧ f' 21 = .bool ((((d.take 4)) != [80, 77, 73, 49])) ∧ f' 23 = .tuple #[IN m26, .int .i64 z26] ∧ f' 24 = sv ∧ f' 25 = IN (4) ∧ f' 26 = .tuple #[IN m26, .int .i64 z26] ∧ f' 27 = IN (m26) ∧ f' 28 = .int .i64 (z26) ∧ f' 29 = ptr b4 0 ∧ f' 30 = .tuple #[IN m33, .int .i64 z33] ∧ f' 31 = sv ∧ f' 32 = .int .i64 (z26) ∧ f' 33 = .tuple #[IN m33, .int .i64 z33] ∧ f' 34 = IN (m33) ∧ f' 35 = .int .i64 (z33) ∧ f' 42 = .bool ((decide (((j : Nat) : Int) < ((m33 : Nat) : Int)) && decide ((0 : Int) ≤ (z : Int)))) ∧ wr = w_) ?_ ?_
      · refine WC.region ?_
        refine WL.move (v := IN (j)) h8_1 rfl ?_
        refine WL.move (v := IN (m33)) h6_1 rfl ?_
        refine WL.bin rfl rfl rfl (BinR.lss) ?_
        refine WL.move (v := .bool (decide (((j : Nat) : Int) < ((m33 : Nat) : Int)))) rfl rfl ?_
        rcases Bool.eq_false_or_eq_true (decide (((j : Nat) : Int) < ((m33 : Nat) : Int))) with hg39 | hg39
        · refine WL.guardT (yf_bool rfl rfl hg39) ?_
          refine WL.move (v := .int .i64 (z)) h5_1 rfl ?_
          refine WL.guardT (yf_bool rfl rfl hg39) ?_
          refine WL.bin rfl rfl rfl (BinR.geq) ?_
          refine WL.pick (b := true) (congrArg Value.bool hg39) rfl rfl ?_
          refine WL.nil ?_
          have hcut : (decide ((0 : Int) ≤ (z : Int))) = (decide (((j : Nat) : Int) < ((m33 : Nat) : Int)) && decide ((0 : Int) ≤ (z : Int))) := by simp only [*, Bool.true_or, Bool.or_true, Bool.false_or, Bool.or_false, Bool.true_and, Bool.and_true, Bool.false_and, Bool.and_false]
          exact ⟨rfl, h0_1, h2_1, h4_1, h5_1, h6_1, h7_1, h8_1, h13_1, h14_1, h15_1, h16_1, h17_1, h18_1, h19_1, h20_1, h21_1, h23_1, h24_1, h25_1, h26_1, h27_1, h28_1, h29_1, h30_1, h31_1, h32_1, h33_1, h34_1, h35_1, congrArg Value.bool hcut, rfl⟩
        · refine WL.guardF (b' := false) (yf_bool rfl rfl hg39) rfl rfl ?_
          refine WL.guardF (b' := false) (yf_bool rfl rfl hg39) rfl rfl ?_
          refine WL.pick (b := false) (congrArg Value.bool hg39) rfl rfl ?_
          refine WL.nil ?_
          have hcut : (false) = (decide (((j : Nat) : Int) < ((m33 : Nat) : Int)) && decide ((0 : Int) ≤ (z : Int))) := by simp only [*, Bool.true_or, Bool.or_true, Bool.false_or, Bool.or_false, Bool.true_and, Bool.and_true, Bool.false_and, Bool.and_false]
          exact ⟨rfl, h0_1, h2_1, h4_1, h5_1, h6_1, h7_1, h8_1, h13_1, h14_1, h15_1, h16_1, h17_1, h18_1, h19_1, h20_1, h21_1, h23_1, h24_1, h25_1, h26_1, h27_1, h28_1, h29_1, h30_1, h31_1, h32_1, h33_1, h34_1, h35_1, congrArg Value.bool hcut, rfl⟩
      rintro fc8 _ ⟨hc8_0, hc8_2, hc8_4, hc8_5, hc8_6, hc8_7, hc8_8, hc8_13, hc8_14, hc8_15, hc8_16, hc8_17, hc8_18, hc8_19, hc8_20, hc8_21, hc8_23, hc8_24, hc8_25, hc8_26, hc8_27, hc8_28, hc8_29, hc8_30, hc8_31, hc8_32, hc8_33, hc8_34, hc8_35, hc8_42, rfl⟩
      refine WC.cond hc8_42 (fun hc42 => ?_) (fun hc42 => ?_)
      · have hc42b := hc42
        rw [Bool.and_eq_true] at hc42b
        have hj : j < m33 := by have := of_decide_eq_true hc42b.1; omega
        refine WC.skip ?_
        refine WC.seq ?_
        refine WC.block ?_
        refine WC.seq ?_
        refine WC.region ?_
        refine WL.assign (v := IN (0)) rfl rfl ?_
        refine WL.nil ?_
        refine WC.seq ?_
        refine WC.region ?_
        refine WL.move (v := sv) hc8_0 rfl ?_
        refine WL.move (v := .int .i64 (z)) hc8_5 rfl ?_
        refine WL.call ca34 (rfl) rfl (get_any sv d (magic ++ be 4 ((m26 : Nat) : Int) ++ be 2 ((m33 : Nat) : Int) ++ symsB ss) (z) 1 _ ((hS).ext' (hE)) (by omega) (by decide) (hP)) ?_
        rintro _ wd48 ⟨m48, z48, rfl, hm48, hP48, hz48, ed48⟩
        have hm48 : m48 < 256 := hm48
        have hr48 := hP48.range
        have R13 : Ext wr wd48 := Mod.trans (Mod.refl _ _) (ed48)
        have E14 : Ext w wd48 := Mod.trans (hE) (ed48)
        refine WL.move (v := .tuple #[IN m48, .int .i64 z48]) rfl rfl ?_
        refine WL.extract rfl rfl rfl ?_
        refine WL.extract rfl rfl rfl ?_
        refine WL.assign (v := IN (m48)) rfl rfl ?_
        refine WL.assign (v := .int .i64 (z48)) rfl rfl ?_
        refine WL.nil ?_
        refine WC.seq ?_
        refine WC.seq ?_
        refine WC.region ?_
        refine WL.move (v := .int .i64 (z48)) rfl rfl ?_
        refine WL.bin rfl rfl rfl (BinR.lss) ?_
        refine WL.move (v := .bool (decide ((z48 : Int) < (0 : Int)))) rfl rfl ?_
        rcases Bool.eq_false_or_eq_true (decide ((z48 : Int) < (0 : Int))) with hg53 | hg53
        · refine WL.guardF (b' := true) (yf_bool rfl rfl hg53) rfl rfl ?_
          refine WL.guardF (b' := true) (yf_bool rfl rfl hg53) rfl rfl ?_
          refine WL.guardF (b' := true) (yf_bool rfl rfl hg53) rfl rfl ?_
          refine WL.guardF (b' := true) (yf_bool rfl rfl hg53) rfl rfl ?_
          refine WL.guardF (b' := true) (yf_bool rfl rfl hg53) rfl rfl ?_
          refine WL.guardF (b' := true) (yf_bool rfl rfl hg53) rfl rfl ?_
          refine WL.pick (b := true) (congrArg Value.bool hg53) rfl rfl ?_
          refine WL.nil ?_
          refine WC.condT rfl ?_
          refine WC.seq ?_
          refine WC.region ?_
          refine WL.build (v := .agg #[IN (0), .slice none 0 0, .slice none 0 0]) (vs := []) rfl (bld16_61b) rfl ?_
          have B15 := (hB2).ext (ed48)
          refine WL.storeS (v := .agg #[IN (0), .slice none 0 0, .slice none 0 0]) hc8_2 rfl B15 rfl sz33 rfl rfl ?_
          intro ws16 ms16 bs16 zs16
          have E16 : Ext w ws16 := Mod.then (E14) (ms16) (fun i hi (e : i = b2) => absurd hi (by omega))
          refine WL.assign (v := .bool (false)) rfl rfl ?_
          refine WL.nil ?_
          refine WC.ret ?_
          exact ⟨_, Res.cellTmp (v' := .bool (false)) rfl hc8_2 (loadVar_agg [IN (0), .slice none 0 0, .slice none 0 0] ag33 sz33 rfl (bs16.sub (o := 0) rfl)) rfl, rfl, E16⟩
        · refine WL.guardT (yf_bool rfl rfl hg53) ?_
          refine WL.move (v := sv) hc8_0 rfl ?_
          refine WL.guardT (yf_bool rfl rfl hg53) ?_
          refine WL.lenSl (sz := 1) (m := d.length) (xs := bs d) el28 rfl ((hS).ext' (E14)) rfl ?_
          refine WL.guardT (yf_bool rfl rfl hg53) ?_
          refine WL.move (v := .int .i64 (z48)) rfl rfl ?_
          refine WL.guardT (yf_bool rfl rfl hg53) ?_
          refine WL.bin rfl rfl rfl (BinR.subI (by omega)) ?_
          refine WL.guardT (yf_bool rfl rfl hg53) ?_
          refine WL.move (v := IN (m48)) rfl rfl ?_
          refine WL.guardT (yf_bool rfl rfl hg53) ?_
          refine WL.bin rfl rfl rfl (BinR.lss) ?_
          refine WL.pick (b := false) (congrArg Value.bool hg53) rfl rfl ?_
          refine WL.nil ?_
          refine WC.cond rfl (fun hc60 => ?_) (fun hc60 => ?_)
          · refine WC.seq ?_
            refine WC.region ?_
            refine WL.build (v := .agg #[IN (0), .slice none 0 0, .slice none 0 0]) (vs := []) rfl (bld16_61b) rfl ?_
            have B17 := (hB2).ext (ed48)
            refine WL.storeS (v := .agg #[IN (0), .slice none 0 0, .slice none 0 0]) hc8_2 rfl B17 rfl sz33 rfl rfl ?_
            intro ws18 ms18 bs18 zs18
            have E18 : Ext w ws18 := Mod.then (E14) (ms18) (fun i hi (e : i = b2) => absurd hi (by omega))
            refine WL.assign (v := .bool (false)) rfl rfl ?_
            refine WL.nil ?_
            refine WC.ret ?_
            exact ⟨_, Res.cellTmp (v' := .bool (false)) rfl hc8_2 (loadVar_agg [IN (0), .slice none 0 0, .slice none 0 0] ag33 sz33 rfl (bs18.sub (o := 0) rfl)) rfl, rfl, E18⟩
          · obtain ⟨a, rfl, ha, hta⟩ := hP48.nat (by have := of_decide_eq_false hg53; omega)
            have hle : a + m48 ≤ d.length := by have := of_decide_eq_false hc60; omega
            have hnl := name_len (d := d) (a := a) (m := m48) (by omega)
            refine WC.skip ?_
            refine WC.seq ?_
            refine WC.region ?_
            refine WL.move (v := sv) hc8_0 rfl ?_
            refine WL.move (v := .int .i64 (a)) rfl rfl ?_
            refine WL.move (v := .int .i64 (a)) rfl rfl ?_
            refine WL.move (v := IN (m48)) rfl rfl ?_
            refine WL.bin rfl rfl rfl (BinR.addN (a := a) (b := m48) (by omega)) ?_
            refine WL.sliceSl (sz := 1) (m := d.length) (xs := bs d) (i := a) (j := (a + m48)) el28 sz5 rfl rfl rfl (by omega) (by omega) ((hS).ext' (E14)) rfl ?_
            intro v67 hv67
            have hv67b : Sl wd48 v67 1 (m48) (bs ((d.drop a).take m48)) := by rw [Nat.mul_one, Nat.mul_one, show a + m48 - a = m48 by omega] at hv67; have e1 : ((bs d).drop a).take m48 = bs ((d.drop a).take m48) := (by unfold bs; rw [← List.map_drop, ← List.map_take]); rwa [e1] at hv67
            refine WL.toString (m := m48) (bl := ((d.drop a).take m48)) Try.underlying28 Try.underlying5 Try.underlying9 rfl (hv67b) rfl ?_
            refine WL.build (v := .agg #[St (((d.drop a).take m48)), IN (0)]) (vs := [(0, St (((d.drop a).take m48)))]) rfl (bld16_69b ((d.drop a).take m48)) rfl ?_
            have O19 := (hO).ext (ed48)
            have B20 := (hB2).ext (ed48)
            have B21 := (hB4).ext (ed48)
            refine WL.allocStore (v := .agg #[St (((d.drop a).take m48)), IN (0)]) zt54 rfl sz54 rfl rfl rfl rfl ?_
            intro b10 w10 n10
            have N22 : (u : Value).ownBlock ≠ some b10 := fun e => by have := (O19).lt0 hu0 (by decide) e; have := n10.num; omega
            have hl_b2_b10 : b2 < b10 := by have := (B20).lt; have := n10.num; omega
            have hl_b4_b10 : b4 < b10 := by have := (B21).lt; have := n10.num; omega
            have R23 : Ext wr w10 := Mod.trans (R13) (n10.ext)
            have E24 : Ext w w10 := Mod.trans (E14) (n10.ext)
            refine WL.nil ?_
            refine WC.seq ?_
            refine WC.region ?_
            refine WL.move (v := sv) hc8_0 rfl ?_
            refine WL.move (v := .int .i64 (a)) rfl rfl ?_
            refine WL.move (v := IN (m48)) rfl rfl ?_
            refine WL.bin rfl rfl rfl (BinR.addN (a := a) (b := m48) (by omega)) ?_
            refine WL.call ca34 (rfl) rfl (get_any sv d (magic ++ be 4 ((m26 : Nat) : Int) ++ be 2 ((m33 : Nat) : Int) ++ symsB ss ++ be 1 ((m48 : Nat) : Int) ++ ((d.drop a).take m48)) (((a + m48 : Nat) : Int)) 4 _ ((hS).ext' (E24)) (by omega) (by decide) (.inr ⟨a + m48, rfl, hle, take_name hta⟩)) ?_
            rintro _ wd75 ⟨m75, z75, rfl, hm75, hP75, hz75, ed75⟩
            have hm75 : m75 < 4294967296 := hm75
            have hr75 := hP75.range
            have R25 : Ext wr wd75 := Mod.trans (R23) (ed75)
            have E26 : Ext w wd75 := Mod.trans (E24) (ed75)
            refine WL.move (v := .tuple #[IN m75, .int .i64 z75]) rfl rfl ?_
            refine WL.extract rfl rfl rfl ?_
            refine WL.extract rfl rfl rfl ?_
            refine WL.fieldAddr rfl fo54_1 rfl ?_
            have B27 := (n10.blk).ext (ed75)
            refine WL.storeB (v := IN (m75)) rfl rfl rfl sz3 B27 (Nat.le_of_ble_eq_true rfl) ?_
            intro ws28 ms28 bs28 zs28
            have R28 : Ext wr ws28 := Mod.own (R13) n10 (R25) (ms28)
            have E29 : Ext w ws28 := Mod.own (E14) n10 (E26) (ms28)
            refine WL.assign (v := .int .i64 (z75)) rfl rfl ?_
            refine WL.nil ?_
            refine WC.region ?_
            refine WL.fieldAddr hc8_4 fo33_1 rfl ?_
            have B30 := (((B21).ext (n10.ext)).ext (ed75)).mod (ms28) ((by omega))
            refine WL.load1 rfl ag31 (B30.cell (j := 1) rfl) rfl ?_
            refine WL.loadS [St (((d.drop a).take m48)), IN (m75)] rfl ag54 sz54 rfl (bs28.sub (o := 0) (vs := [St (((d.drop a).take m48)), IN (m75)]) rfl) rfl ?_
            have O31 := (((O19).ext (n10.ext)).ext (ed75)).mod (ms28) (fun g hg e => N22 (hg.trans (congrArg some e)))
            refine WL.buildSlice (vs := [(0, .agg #[St (((d.drop a).take m48)), IN (m75)])]) rfl (bls16_82b ((d.drop a).take m48) (m75 : Int)) rfl ?_
            intro b82 w82 n82
            have N32 : (u : Value).ownBlock ≠ some b82 := fun e => by have := (O31).lt0 hu0 (by decide) e; have := n82.num; omega
            have R33 : Ext wr w82 := Mod.trans (R28) (n82.ext)
            have E34 : Ext w w82 := Mod.trans (E29) (n82.ext)
            have O35 := (O31).ext (n82.ext)
            refine WL.append (k := ss.length) (m := 1) (xs := symCells ss) (news := [St ((d.drop a).take m48), .int .i64 (m75 : Int)]) ap31 rfl rfl rfl (O35) (Src.ofSlice _ Try.underlying31 ⟨b82, 0, none⟩ 1 1 _ rfl (fun j u hj => by rw [addr_add]; exact (n82.blk).cells j u hj) (sym_one _ _)) (by omega) (by omega) rfl ?_
            intro v83 w83 o83 m83 l83
            have o83b : Own w83 2 v83 (ss.length + 1) (symCells (ss ++ [(((d.drop a).take m48), (m75 : Int))])) := by rw [symCells_append] at o83; exact o83
            have F36 : From w.heap.size v83 := LocV.from l83 (Mod.size (E34)) (hF)
            have B38 := ((((B20).ext (n10.ext)).ext (ed75)).mod (ms28) ((by omega))).ext (n82.ext)
            have N37 : v83.ownBlock ≠ some b2 := LocV.ne l83 ((B38).lt) hn2
            have B40 := (B30).ext (n82.ext)
            have N39 : v83.ownBlock ≠ some b4 := LocV.ne l83 ((B40).lt) hn4
            have B42 := (bs28).ext (n82.ext)
            have N41 : v83.ownBlock ≠ some b10 := LocV.ne l83 ((B42).lt) N22
            have N43 : v83.ownBlock ≠ some b82 := LocV.ne l83 ((n82.blk).lt) N32
            have E44 : Ext w w83 := Mod.from (E34) m83 (hF)
            refine WL.fieldAddr hc8_4 fo33_1 rfl ?_
            have B45 := (B40).mod (m83) (hn4)
            refine WL.storeB (v := v83) rfl rfl ((o83b).sl).one sz31 B45 (Nat.le_of_ble_eq_true rfl) ?_
            intro ws46 ms46 bs46 zs46
            have E46 : Ext w ws46 := Mod.then (E44) (ms46) (fun i hi (e : i = b4) => absurd hi (by omega))
            refine WL.nil ?_
            refine WC.region ?_
            refine WL.move (v := IN (j)) hc8_8 rfl ?_
            refine WL.bin rfl rfl rfl (BinR.succN (by omega)) ?_
            refine WL.assign (v := IN (j + 1)) rfl rfl ?_
            refine WL.nil ?_
            have B47 := ((B38).mod (m83) (hn2)).mod (ms46) ((by omega))
            have O48 := (o83b).mod (ms46) (fun g hg e => N39 (hg.trans (congrArg some e)))
            exact ⟨ka - 1, by omega, (j + 1), (z75), (v83), (ss ++ [(((d.drop a).take m48), (m75 : Int))]), by omega, by rw [List.length_append, List.length_singleton]; omega, (fun s hs => by rcases List.mem_append.1 hs with hs | hs; exact hss s hs; obtain rfl := List.mem_singleton.1 hs; exact ⟨by show ((d.drop a).take m48).length ≤ 255; omega, by show (0 : Int) ≤ (m75 : Int); omega, by show (m75 : Int) ≤ 4294967295; omega⟩), pre_sym hnl hP75, (fun h => by rw [List.length_append, List.length_singleton] at h; omega), hc8_0, hc8_2, hc8_4, rfl, hc8_6, hc8_7, rfl, hc8_13, hc8_14, hc8_15, hc8_16, hc8_17, hc8_18, hc8_19, hc8_20, hc8_21, hc8_23, hc8_24, hc8_25, hc8_26, hc8_27, hc8_28, hc8_29, hc8_30, hc8_31, hc8_32, hc8_33, hc8_34, hc8_35, E46, B47, bs46, by rw [List.length_append]; exact O48, F36, N37, N39⟩
      · refine WC.exit ?_
        refine WC.seq ?_
        refine WC.region ?_
        refine WL.move (v := sv) hc8_0 rfl ?_
        refine WL.move (v := .int .i64 (z)) hc8_5 rfl ?_
        refine WL.call ca34 (rfl) rfl (get_any sv d (magic ++ be 4 ((m26 : Nat) : Int) ++ be 2 ((m33 : Nat) : Int) ++ symsB ss) (z) 4 _ ((hS).ext' (hE)) (by omega) (by decide) (hP)) ?_
        rintro _ wd88 ⟨m88, z88, rfl, hm88, hP88, hz88, ed88⟩
        have hm88 : m88 < 4294967296 := hm88
        have hr88 := hP88.range
        have R49 : Ext wr wd88 := Mod.trans (Mod.refl _ _) (ed88)
        have E50 : Ext w wd88 := Mod.trans (hE) (ed88)
        refine WL.move (v := .tuple #[IN m88, .int .i64 z88]) rfl rfl ?_
        refine WL.extract rfl rfl rfl ?_
        refine WL.extract rfl rfl rfl ?_
        refine WL.assign (v := IN (m88)) rfl rfl ?_
        refine WL.assign (v := .int .i64 (z88)) rfl rfl ?_
        refine WL.nil ?_
        refine WC.seq ?_
        refine WC.seq ?_
        refine WC.region ?_
        refine WL.move (v := .int .i64 (z88)) rfl rfl ?_
        refine WL.bin rfl rfl rfl (BinR.lss) ?_
        refine WL.move (v := .bool (decide ((z88 : Int) < (0 : Int)))) rfl rfl ?_
        rcases Bool.eq_false_or_eq_true (decide ((z88 : Int) < (0 : Int))) with hg93 | hg93
        · refine WL.guardF (b' := true) (yf_bool rfl rfl hg93) rfl rfl ?_
          refine WL.guardF (b' := true) (yf_bool rfl rfl hg93) rfl rfl ?_
          refine WL.guardF (b' := true) (yf_bool rfl rfl hg93) rfl rfl ?_
          refine WL.guardF (b' := true) (yf_bool rfl rfl hg93) rfl rfl ?_
          refine WL.guardF (b' := true) (yf_bool rfl rfl hg93) rfl rfl ?_
          refine WL.guardF (b' := true) (yf_bool rfl rfl hg93) rfl rfl ?_
          refine WL.guardF (b' := true) (yf_bool rfl rfl hg93) rfl rfl ?_
          refine WL.pick (b := true) (congrArg Value.bool hg93) rfl rfl ?_
          refine WL.nil ?_
          refine WC.condT rfl ?_
          refine WC.seq ?_
          refine WC.region ?_
          refine WL.build (v := .agg #[IN (0), .slice none 0 0, .slice none 0 0]) (vs := []) rfl (bld16_102b) rfl ?_
          have B51 := (hB2).ext (ed88)
          refine WL.storeS (v := .agg #[IN (0), .slice none 0 0, .slice none 0 0]) hc8_2 rfl B51 rfl sz33 rfl rfl ?_
          intro ws52 ms52 bs52 zs52
          have E52 : Ext w ws52 := Mod.then (E50) (ms52) (fun i hi (e : i = b2) => absurd hi (by omega))
          refine WL.assign (v := .bool (false)) rfl rfl ?_
          refine WL.nil ?_
          refine WC.ret ?_
          exact ⟨_, Res.cellTmp (v' := .bool (false)) rfl hc8_2 (loadVar_agg [IN (0), .slice none 0 0, .slice none 0 0] ag33 sz33 rfl (bs52.sub (o := 0) rfl)) rfl, rfl, E52⟩
        · refine WL.guardT (yf_bool rfl rfl hg93) ?_
          refine WL.move (v := sv) hc8_0 rfl ?_
          refine WL.guardT (yf_bool rfl rfl hg93) ?_
          refine WL.lenSl (sz := 1) (m := d.length) (xs := bs d) el28 rfl ((hS).ext' (E50)) rfl ?_
          refine WL.guardT (yf_bool rfl rfl hg93) ?_
          refine WL.move (v := .int .i64 (z88)) rfl rfl ?_
          refine WL.guardT (yf_bool rfl rfl hg93) ?_
          refine WL.bin rfl rfl rfl (BinR.subI (by omega)) ?_
          refine WL.guardT (yf_bool rfl rfl hg93) ?_
          refine WL.move (v := IN (m88)) rfl rfl ?_
          refine WL.guardT (yf_bool rfl rfl hg93) ?_
          refine WL.bin rfl rfl rfl (BinR.mulN (a := 4) (b := m88) (by omega)) ?_
          refine WL.guardT (yf_bool rfl rfl hg93) ?_
          refine WL.bin rfl rfl rfl (BinR.neq) ?_
          refine WL.pick (b := false) (congrArg Value.bool hg93) rfl rfl ?_
          refine WL.nil ?_
          refine WC.cond rfl (fun hc101 => ?_) (fun hc101 => ?_)
          · refine WC.seq ?_
            refine WC.region ?_
            refine WL.build (v := .agg #[IN (0), .slice none 0 0, .slice none 0 0]) (vs := []) rfl (bld16_102b) rfl ?_
            have B53 := (hB2).ext (ed88)
            refine WL.storeS (v := .agg #[IN (0), .slice none 0 0, .slice none 0 0]) hc8_2 rfl B53 rfl sz33 rfl rfl ?_
            intro ws54 ms54 bs54 zs54
            have E54 : Ext w ws54 := Mod.then (E50) (ms54) (fun i hi (e : i = b2) => absurd hi (by omega))
            refine WL.assign (v := .bool (false)) rfl rfl ?_
            refine WL.nil ?_
            refine WC.ret ?_
            exact ⟨_, Res.cellTmp (v' := .bool (false)) rfl hc8_2 (loadVar_agg [IN (0), .slice none 0 0, .slice none 0 0] ag33 sz33 rfl (bs54.sub (o := 0) rfl)) rfl, rfl, E54⟩
          · have hz0 := hz88 (by have := of_decide_eq_false hg93; omega)
            have hjm : j = m33 := by have h := hc42; simp only [Bool.and_eq_false_iff, decide_eq_false_iff_not] at h; omega
            obtain ⟨c0, rfl, hc0, htc⟩ := hP88.nat (by have := of_decide_eq_false hg93; omega)
            have hlw : c0 + 4 * m88 = d.length := by have h := hc101; simp at h; omega
            refine WC.skip ?_
            refine WC.seq ?_
            refine WC.seq ?_
            refine WC.region ?_
            refine WL.assign (v := IN (0)) rfl rfl ?_
            refine WL.nil ?_
            refine WC.block ?_
            refine WC.loop (fun k f w_ => ∃ i c x ww, (k + i = m88) ∧ (ww.length = i) ∧ (c + 4 * (m88 - i) = d.length) ∧ (d.take c = magic ++ be 4 ((m26 : Nat) : Int) ++ be 2 ((m33 : Nat) : Int) ++ symsB ss ++ be 4 ((m88 : Nat) : Int) ++ wordsB ww) ∧ (0 < ss.length → ∀ g, u.ownBlock = some g → x.ownBlock ≠ some g) ∧ f 0 = sv ∧ f 2 = ptr b2 0 ∧ f 4 = ptr b4 0 ∧ f 5 = IN (c) ∧ f 6 = IN (m33) ∧ f 7 = IN (m88) ∧ f 8 = IN (j) ∧ f 11 = IN (i) ∧ f 13 = sv ∧ f 14 = IN (d.length) ∧ f 15 = .bool (decide (((d.length : Nat) : Int) < (4 : Int))) ∧ f 16 = .bool (decide (((d.length : Nat) : Int) < (4 : Int))) ∧ f 17 = sv ∧ f 18 = v18 ∧ f 19 = St ((d.take 4)) ∧ f 20 = .bool ((((d.take 4)) != [80, 77, 73, 49])) ∧ f 21 = .bool ((((d.take 4)) != [80, 77, 73, 49])) ∧ f 23 = .tuple #[IN m26, .int .i64 z26] ∧ f 24 = sv ∧ f 25 = IN (4) ∧ f 26 = .tuple #[IN m26, .int .i64 z26] ∧ f 27 = IN (m26) ∧ f 28 = .int .i64 (z26) ∧ f 29 = ptr b4 0 ∧ f 30 = .tuple #[IN m33, .int .i64 z33] ∧ f 31 = sv ∧ f 32 = .int .i64 (z26) ∧ f 33 = .tuple #[IN m33, .int .i64 z33] ∧ f 34 = IN (m33) ∧ f 35 = .int .i64 (z33) ∧ f 42 = .bool ((decide (((j : Nat) : Int) < ((m33 : Nat) : Int)) && decide ((0 : Int) ≤ (z : Int)))) ∧ f 85 = .tuple #[IN m88, .int .i64 c0] ∧ f 86 = sv ∧ f 87 = .int .i64 (z) ∧ f 88 = .tuple #[IN m88, .int .i64 c0] ∧ f 89 = IN (m88) ∧ f 90 = .int .i64 (c0) ∧ f 91 = .int .i64 (c0) ∧ f 92 = .bool (decide ((c0 : Int) < (0 : Int))) ∧ f 93 = .bool (decide ((c0 : Int) < (0 : Int))) ∧ f 94 = sv ∧ f 95 = IN (d.length) ∧ f 96 = .int .i64 (c0) ∧ f 97 = .int .i64 (((d.length : Nat) : Int) - c0) ∧ f 98 = IN (m88) ∧ f 99 = IN ((4 * m88)) ∧ f 100 = .bool (((((d.length : Nat) : Int) - c0 : Int) != (((4 * m88) : Nat) : Int))) ∧ f 101 = .bool (((((d.length : Nat) : Int) - c0 : Int) != (((4 * m88) : Nat) : Int))) ∧ (Ext w w_) ∧ (Blk w_ b2 #[.int .i64 0, .slice none 0 0, .slice none 0 0] 33) ∧ (Blk w_ b4 #[.int .i64 m26, u, x] 33) ∧ (Sl w_ u 2 ss.length (symCells ss)) ∧ (Own w_ 1 x ww.length (wordCells ww)) ∧ (From w.heap.size x) ∧ (x.ownBlock ≠ some b2) ∧ (x.ownBlock ≠ some b4)) (m88) ?_ ?_
            have B55 := (hB2).ext (ed88)
            have B56 := (hB4).ext (ed88)
            have O57 := (hO).ext (ed88)
            · exact ⟨(0), (c0), (.slice none 0 0), ([]), by omega, rfl, by omega, by rw [show wordsB [] = [] from rfl, List.append_nil]; exact htc, (fun _ g _ e => by cases e), hc8_0, hc8_2, hc8_4, rfl, hc8_6, rfl, hc8_8, rfl, hc8_13, hc8_14, hc8_15, hc8_16, hc8_17, hc8_18, hc8_19, hc8_20, hc8_21, hc8_23, hc8_24, hc8_25, hc8_26, hc8_27, hc8_28, hc8_29, hc8_30, hc8_31, hc8_32, hc8_33, hc8_34, hc8_35, hc8_42, rfl, rfl, rfl, rfl, rfl, rfl, rfl, rfl, rfl, rfl, rfl, rfl, rfl, rfl, rfl, rfl, rfl, E50, B55, B56, (O57).sl, Own.nil _ _, (fun g hg => by cases hg), (fun h => by cases h), (fun h => by cases h)⟩
            rintro kb f2 wr2 ⟨i, c, x, ww, hk2, hwl, hcl, htc, hux, h0_2, h2_2, h4_2, h5_2, h6_2, h7_2, h8_2, h11_2, h13_2, h14_2, h15_2, h16_2, h17_2, h18_2, h19_2, h20_2, h21_2, h23_2, h24_2, h25_2, h26_2, h27_2, h28_2, h29_2, h30_2, h31_2, h32_2, h33_2, h34_2, h35_2, h42_2, h85_2, h86_2, h87_2, h88_2, h89_2, h90_2, h91_2, h92_2, h93_2, h94_2, h95_2, h96_2, h97_2, h98_2, h99_2, h100_2, h101_2, hE2, hB22, hB42, hU, hX, hFx, hx2, hx4⟩
            refine WC.seq ?_
            refine WC.seq ?_
            refine WC.region ?_
            refine WL.move (v := IN (i)) h11_2 rfl ?_
            refine WL.move (v := IN (m88)) h7_2 rfl ?_
            refine WL.bin rfl rfl rfl (BinR.lss) ?_
            refine WL.nil ?_
            refine WC.cond rfl (fun hc105 => ?_) (fun hc105 => ?_)
            · have hi : i < m88 := by have := of_decide_eq_true hc105; omega
              refine WC.skip ?_
              refine WC.seq ?_
              refine WC.block ?_
              refine WC.seq ?_
              refine WC.region ?_
              refine WL.assign (v := IN (0)) rfl rfl ?_
              refine WL.nil ?_
              refine WC.seq ?_
              refine WC.region ?_
              refine WL.move (v := sv) h0_2 rfl ?_
              refine WL.move (v := IN (c)) h5_2 rfl ?_
              refine WL.call ca34 (rfl) rfl (get_ok sv d c 4 _ ((hS).ext' (hE2)) (by omega) (by decide) (by omega)) ?_
              rintro _ wd111 ⟨rfl, ed111⟩
              have R58 : Ext wr2 wd111 := Mod.trans (Mod.refl _ _) (ed111)
              have E59 : Ext w wd111 := Mod.trans (hE2) (ed111)
              refine WL.move (v := .tuple #[IN (num ((d.drop c).take 4)), IN (c + 4)]) rfl rfl ?_
              refine WL.extract rfl rfl rfl ?_
              refine WL.extract rfl rfl rfl ?_
              refine WL.assign (v := IN (num ((d.drop c).take 4))) rfl rfl ?_
              refine WL.assign (v := IN (c + 4)) rfl rfl ?_
              refine WL.nil ?_
              refine WC.region ?_
              refine WL.fieldAddr h4_2 fo33_2 rfl ?_
              have B60 := (hB42).ext (ed111)
              refine WL.load1 rfl ag23 (B60.cell (j := 2) rfl) rfl ?_
              refine WL.move (v := IN (num ((d.drop c).take 4))) rfl rfl ?_
              refine WL.conv rfl rfl (conv_u32 Try.underlying3 Try.underlying42 _) ?_
              refine WL.buildSlice (vs := [(0, U32 (BitVec.ofNat 32 (num ((d.drop c).take 4))))]) rfl (bls16_118b (BitVec.ofNat 32 (num ((d.drop c).take 4)))) rfl ?_
              intro b118 w118 n118
              have R61 : Ext wr2 w118 := Mod.trans (R58) (n118.ext)
              have E62 : Ext w w118 := Mod.trans (E59) (n118.ext)
              have O63 := ((hX).ext (ed111)).ext (n118.ext)
              have S64 := ((hU).ext' (ed111)).ext' (n118.ext)
              refine WL.append (k := ww.length) (m := 1) (xs := wordCells ww) (news := [U32 (BitVec.ofNat 32 (num ((d.drop c).take 4)))]) ap23 rfl rfl rfl (O63) (Src.ofSlice _ Try.underlying23 ⟨b118, 0, none⟩ 1 1 _ rfl (fun j u hj => by rw [addr_add]; exact (n118.blk).cells j u hj) (fun u hu => by obtain rfl := List.mem_singleton.1 hu; rfl)) (by omega) (by omega) rfl ?_
              intro v119 w119 o119 m119 l119
              have o119b : Own w119 1 v119 (ww.length + 1) (wordCells ww ++ [U32 (BitVec.ofNat 32 (num ((d.drop c).take 4)))]) := by exact o119
              have F65 : From w.heap.size v119 := LocV.from l119 (Mod.size (E62)) (hFx)
              have B67 := ((hB22).ext (ed111)).ext (n118.ext)
              have N66 : v119.ownBlock ≠ some b2 := LocV.ne l119 ((B67).lt) hx2
              have B69 := (B60).ext (n118.ext)
              have N68 : v119.ownBlock ≠ some b4 := LocV.ne l119 ((B69).lt) hx4
              have E70 : Ext w w119 := Mod.from (E62) m119 (hFx)
              refine WL.fieldAddr h4_2 fo33_2 rfl ?_
              have B71 := (B69).mod (m119) (hx4)
              refine WL.storeB (v := v119) rfl rfl ((o119b).sl).one sz23 B71 (Nat.le_of_ble_eq_true rfl) ?_
              intro ws72 ms72 bs72 zs72
              have E72 : Ext w ws72 := Mod.then (E70) (ms72) (fun i hi (e : i = b4) => absurd hi (by omega))
              refine WL.nil ?_
              refine WC.region ?_
              refine WL.move (v := IN (i)) h11_2 rfl ?_
              refine WL.bin rfl rfl rfl (BinR.succN (by omega)) ?_
              refine WL.assign (v := IN (i + 1)) rfl rfl ?_
              refine WL.nil ?_
              have B73 := ((B67).mod (m119) (hx2)).mod (ms72) ((by omega))
              have S74 := ((S64).modp (m119) (fun h0 g hg e => hux h0 g hg e)).mod' (ms72) (fun g hg e => hn4 (hg.trans (congrArg some e)))
              have O75 := (o119b).mod (ms72) (fun g hg e => N68 (hg.trans (congrArg some e)))
              exact ⟨kb - 1, by omega, (i + 1), (c + 4), (v119), (ww ++ [BitVec.ofNat 32 (num ((d.drop c).take 4))]), by omega, by rw [List.length_append, List.length_singleton]; omega, by omega, pre_word htc (by omega), (fun h0 g hg => LocV.ne l119 ((S64).lt h0 (by decide) hg) (hux h0 g hg)), h0_2, h2_2, h4_2, rfl, h6_2, h7_2, h8_2, rfl, h13_2, h14_2, h15_2, h16_2, h17_2, h18_2, h19_2, h20_2, h21_2, h23_2, h24_2, h25_2, h26_2, h27_2, h28_2, h29_2, h30_2, h31_2, h32_2, h33_2, h34_2, h35_2, h42_2, h85_2, h86_2, h87_2, h88_2, h89_2, h90_2, h91_2, h92_2, h93_2, h94_2, h95_2, h96_2, h97_2, h98_2, h99_2, h100_2, h101_2, E72, B73, bs72, S74, by rw [List.length_append, show wordCells (ww ++ [BitVec.ofNat 32 (num ((d.drop c).take 4))]) = wordCells ww ++ [U32 (BitVec.ofNat 32 (num ((d.drop c).take 4)))] by simp [wordCells]]; exact O75, F65, N66, N68⟩
            · have hi : m88 ≤ i := by have := of_decide_eq_false hc105; omega
              have hM : bytesOf (⟨(m26 : Int), ss, ww⟩ : Img) = d := by rw [bytesOf_M _ _ _ m33 m88 (by omega) (by omega), ← htc]; exact List.take_of_length_le (by omega)
              refine WC.exit ?_
              refine WC.seq ?_
              refine WC.seq ?_
              refine WC.region ?_
              refine WL.loadS [.int .i64 (m26), u, x] h4_2 ag33 sz33 rfl (hB42.sub (o := 0) (vs := [.int .i64 (m26), u, x]) rfl) rfl ?_
              have hRM : Rep wr2 u x (⟨(m26 : Int), ss, ww⟩ : Img) := ⟨hU, (hX).sl, show ss.length ≤ 1000000000 by omega, show ww.length ≤ 1000000000 by omega⟩
              refine WL.call ca18 (rfl) rfl (rright_spec u x (⟨(m26 : Int), ss, ww⟩ : Img) _ hRM) ?_
              rintro _ wd122 ⟨rfl, ed122⟩
              have R76 : Ext wr2 wd122 := Mod.trans (Mod.refl _ _) (ed122)
              have E77 : Ext w wd122 := Mod.trans (hE2) (ed122)
              refine WL.un rfl rfl UnR.not ?_
              refine WL.nil ?_
              refine WC.cond rfl (fun hc123 => ?_) (fun hc123 => ?_)
              · refine WC.seq ?_
                refine WC.region ?_
                refine WL.build (v := .agg #[IN (0), .slice none 0 0, .slice none 0 0]) (vs := []) rfl (bld16_124b) rfl ?_
                have B78 := (hB22).ext (ed122)
                refine WL.storeS (v := .agg #[IN (0), .slice none 0 0, .slice none 0 0]) h2_2 rfl B78 rfl sz33 rfl rfl ?_
                intro ws79 ms79 bs79 zs79
                have E79 : Ext w ws79 := Mod.then (E77) (ms79) (fun i hi (e : i = b2) => absurd hi (by omega))
                refine WL.assign (v := .bool (false)) rfl rfl ?_
                refine WL.nil ?_
                refine WC.ret ?_
                exact ⟨_, Res.cellTmp (v' := .bool (false)) rfl h2_2 (loadVar_agg [IN (0), .slice none 0 0, .slice none 0 0] ag33 sz33 rfl (bs79.sub (o := 0) rfl)) rfl, rfl, E79⟩
              · exact absurd hM (hno _ (by simpa using hc123))
end Go.Proofs.I
