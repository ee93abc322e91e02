import Derived.Test.YtgjhmdnbpnpkaaaDoorUxSl
import Derived.Test.YtgjhmdnbpnpkaaaDoorWordLaws
import Derived.Test.YtgjhmdnbpnpkaaaDoorRows
import Derived.Test.YtgjhmdnbpnpkaaaDoorWtX5
set_option linter.unusedSimpArgs false
set_option linter.unusedVariables false
namespace Go.Proofs.W
open Go Go.Ux Go.Ux.Word Go.Proofs
theorem bls4_34  : ∀ w : World, (Instr.buildSlice 23 2 #[(0, .int .u8 (14)), (1, .int .u8 (15))]).run Tryd.prog w = .ok (.slice (some ⟨w.heap.size, 0, none⟩) 2 2) (w.alloc (.cells #[.int .u8 (14), .int .u8 (15)] 22)) := fun _ => by kernel_rfl

theorem wordOrder_spec (x y z : BitVec 64) (w : World) (ht : Tab w) : CallsR Tryd.prog 4 #[I64 (x), I64 (y), I64 (z)] w (fun v w' => v = .bool true ∧ Ext w w') := by
  refine callsR_of Tryd.func4 rfl rfl rfl ?_
  refine WC.seq ?_
  refine WC.region ?_
  refine WL.assign (v := .bool (false)) rfl rfl ?_
  refine WL.nil ?_
  refine WC.seq ?_
  refine WC.region ?_
  refine WL.assign (v := I64 (BitVec.ofInt 64 (-9223372036854775808))) (cI64 _ (by decide)) rfl ?_
  refine WL.nil ?_
  refine WC.seq ?_
  refine WC.seq ?_
  refine WC.region ?_
  refine WL.move (v := I64 (x)) rfl rfl ?_
  refine WL.move (v := I64 (y)) rfl rfl ?_
  refine WL.call ca10 (rfl) rfl (do_spec 14 (x) (y) _ (by decide)) ?_
  rintro _ wd12 ⟨rfl, ed12⟩
  have E1 : Ext w wd12 := Mod.trans (Mod.refl _ _) (ed12)
  refine WL.move (v := I64 (x)) rfl rfl ?_
  refine WL.move (v := I64 (BitVec.ofInt 64 (-9223372036854775808))) rfl rfl ?_
  refine WL.call ca10 (rfl) rfl (do_spec 10 (x) (BitVec.ofInt 64 (-9223372036854775808)) _ (by decide)) ?_
  rintro _ wd15 ⟨rfl, ed15⟩
  have E2 : Ext w wd15 := Mod.trans (E1) (ed15)
  refine WL.move (v := I64 (y)) rfl rfl ?_
  refine WL.move (v := I64 (BitVec.ofInt 64 (-9223372036854775808))) rfl rfl ?_
  refine WL.call ca10 (rfl) rfl (do_spec 10 (y) (BitVec.ofInt 64 (-9223372036854775808)) _ (by decide)) ?_
  rintro _ wd18 ⟨rfl, ed18⟩
  have E3 : Ext w wd18 := Mod.trans (E2) (ed18)
  refine WL.call ca10 (rfl) rfl (do_spec 15 ((opW 10 (x) (BitVec.ofInt 64 (-9223372036854775808)))) ((opW 10 (y) (BitVec.ofInt 64 (-9223372036854775808)))) _ (by decide)) ?_
  rintro _ wd19 ⟨rfl, ed19⟩
  have E4 : Ext w wd19 := Mod.trans (E3) (ed19)
  refine WL.bin (v := .bool (false)) rfl rfl rfl (BinR.toB (BinR.neq64) (ne_of (order1 x y))) ?_
  refine WL.move (v := .bool (false)) rfl rfl ?_
  refine WL.guardT (rfl) ?_
  refine WL.move (v := I64 (x)) rfl rfl ?_
  refine WL.guardT (rfl) ?_
  refine WL.move (v := I64 (y)) rfl rfl ?_
  refine WL.guardT (rfl) ?_
  refine WL.call ca10 (rfl) rfl (do_spec 16 (x) (y) _ (by decide)) ?_
  rintro _ wd24 ⟨rfl, ed24⟩
  have E5 : Ext w wd24 := Mod.trans (E4) (ed24)
  refine WL.guardT (rfl) ?_
  refine WL.move (v := I64 (x)) rfl rfl ?_
  refine WL.guardT (rfl) ?_
  refine WL.move (v := I64 (z)) rfl rfl ?_
  refine WL.guardT (rfl) ?_
  refine WL.call ca10 (rfl) rfl (do_spec 1 (x) (z) _ (by decide)) ?_
  rintro _ wd27 ⟨rfl, ed27⟩
  have E6 : Ext w wd27 := Mod.trans (E5) (ed27)
  refine WL.guardT (rfl) ?_
  refine WL.move (v := I64 (y)) rfl rfl ?_
  refine WL.guardT (rfl) ?_
  refine WL.move (v := I64 (z)) rfl rfl ?_
  refine WL.guardT (rfl) ?_
  refine WL.call ca10 (rfl) rfl (do_spec 1 (y) (z) _ (by decide)) ?_
  rintro _ wd30 ⟨rfl, ed30⟩
  have E7 : Ext w wd30 := Mod.trans (E6) (ed30)
  refine WL.guardT (rfl) ?_
  refine WL.call ca10 (rfl) rfl (do_spec 16 ((opW 1 (x) (z))) ((opW 1 (y) (z))) _ (by decide)) ?_
  rintro _ wd31 ⟨rfl, ed31⟩
  have E8 : Ext w wd31 := Mod.trans (E7) (ed31)
  refine WL.guardT (rfl) ?_
  refine WL.bin (v := .bool (false)) rfl rfl rfl (BinR.toB (BinR.neq64) (ne_of (congrArg oneW (order2 x y z)))) ?_
  refine WL.pick (b := false) rfl rfl rfl ?_
  refine WL.nil ?_
  refine WC.condF rfl ?_
  refine WC.skip ?_
  refine WC.seq ?_
  refine WC.seq ?_
  refine WC.region ?_
  refine WL.buildSlice (vs := [(0, .int .u8 (14)), (1, .int .u8 (15))]) rfl (bls4_34) rfl ?_
  intro b34 w34 n34
  have E9 : Ext w w34 := Mod.trans (E8) (n34.ext)
  refine WL.lenS el23 rfl rfl ?_
  refine WL.move (v := IN (0)) rfl rfl ?_
  refine WL.nil ?_
  refine WC.block ?_
  refine WC.loop (fun k f w_ => ∃ j, (k + j = 2) ∧ f 0 = I64 (x) ∧ f 1 = I64 (y) ∧ f 2 = I64 (z) ∧ f 7 = I64 (BitVec.ofInt 64 (-9223372036854775808)) ∧ f 10 = I64 (x) ∧ f 11 = I64 (y) ∧ f 12 = I64 ((opW 14 (x) (y))) ∧ f 13 = I64 (x) ∧ f 14 = I64 (BitVec.ofInt 64 (-9223372036854775808)) ∧ f 15 = I64 ((opW 10 (x) (BitVec.ofInt 64 (-9223372036854775808)))) ∧ f 16 = I64 (y) ∧ f 17 = I64 (BitVec.ofInt 64 (-9223372036854775808)) ∧ f 18 = I64 ((opW 10 (y) (BitVec.ofInt 64 (-9223372036854775808)))) ∧ f 19 = I64 ((opW 15 ((opW 10 (x) (BitVec.ofInt 64 (-9223372036854775808)))) ((opW 10 (y) (BitVec.ofInt 64 (-9223372036854775808)))))) ∧ f 20 = .bool (false) ∧ f 21 = .bool (false) ∧ f 22 = I64 (x) ∧ f 23 = I64 (y) ∧ f 24 = I64 ((opW 16 (x) (y))) ∧ f 25 = I64 (x) ∧ f 26 = I64 (z) ∧ f 27 = I64 ((opW 1 (x) (z))) ∧ f 28 = I64 (y) ∧ f 29 = I64 (z) ∧ f 30 = I64 ((opW 1 (y) (z))) ∧ f 31 = I64 ((opW 16 ((opW 1 (x) (z))) ((opW 1 (y) (z))))) ∧ f 32 = .bool (false) ∧ f 33 = .bool (false) ∧ f 34 = .slice (some ⟨b34, 0, none⟩) 2 2 ∧ f 35 = IN (2) ∧ f 36 = IN (j) ∧ (Ext w w_) ∧ (∀ i, i < 2 → w_.cell? ⟨b34, i, none⟩ = some (.int .u8 ((opl2 i : Nat) : Int)))) (2) ?_ ?_
  · exact ⟨(0), by omega, rfl, rfl, rfl, rfl, rfl, rfl, rfl, rfl, rfl, rfl, rfl, rfl, rfl, rfl, rfl, rfl, rfl, rfl, rfl, rfl, rfl, rfl, rfl, rfl, rfl, rfl, rfl, rfl, rfl, rfl, rfl, E9, fun i hi => by match i, hi with | 0, _ => exact n34.blk.cell rfl | 1, _ => exact n34.blk.cell rfl⟩
  rintro k f1 wr ⟨j, hk, h0_1, h1_1, h2_1, h7_1, h10_1, h11_1, h12_1, h13_1, h14_1, h15_1, h16_1, h17_1, h18_1, h19_1, h20_1, h21_1, h22_1, h23_1, h24_1, h25_1, h26_1, h27_1, h28_1, h29_1, h30_1, h31_1, h32_1, h33_1, h34_1, h35_1, h36_1, hE, hB⟩
  refine WC.seq ?_
  refine WC.region ?_
  refine WL.bin h36_1 h35_1 rfl (BinR.lss) ?_
  refine WL.nil ?_
  refine WC.seq ?_
  refine WC.cond rfl (fun hc37 => ?_) (fun hc37 => ?_)
  · have hj : j < 2 := by have := of_decide_eq_true hc37; omega
    refine WC.skip ?_
    refine WC.seq ?_
    refine WC.block ?_
    refine WC.seq ?_
    refine WC.region ?_
    refine WL.indexAddr1 (i := j) (b := b34) (o := 0) el23 sz22 h34_1 h36_1 (by omega) rfl ?_
    rw [Nat.zero_add]
    refine WL.load1 rfl ag22 (hB j hj) rfl ?_
    refine WL.assign (v := .int .u8 (((opl2 j : Nat) : Int))) rfl rfl ?_
    refine WL.nil ?_
    refine WC.seq ?_
    refine WC.region ?_
    refine WL.move (v := .int .u8 (((opl2 j : Nat) : Int))) rfl rfl ?_
    refine WL.move (v := I64 (x)) h0_1 rfl ?_
    refine WL.move (v := I64 (y)) h1_1 rfl ?_
    refine WL.call ca10 (rfl) rfl (do_spec (opl2 j) (x) (y) _ (opl2_lt j hj)) ?_
    rintro _ wd43 ⟨rfl, ed43⟩
    have R10 : Ext wr wd43 := Mod.trans (Mod.refl _ _) (ed43)
    have E11 : Ext w wd43 := Mod.trans (hE) (ed43)
    refine WL.bin rfl (vy := I64 (1#64)) rfl rfl (BinR.eql64) ?_
    refine WL.move (v := .bool (((opW (opl2 j) (x) (y)) == 1#64))) rfl rfl ?_
    rcases Bool.eq_false_or_eq_true (((opW (opl2 j) (x) (y)) == 1#64)) with hg45 | hg45
    · refine WL.guardT (yf_bool rfl rfl hg45) ?_
      refine WL.move (v := .int .u8 (((opl2 j : Nat) : Int))) rfl rfl ?_
      refine WL.guardT (yf_bool rfl rfl hg45) ?_
      refine WL.move (v := I64 (y)) h1_1 rfl ?_
      refine WL.guardT (yf_bool rfl rfl hg45) ?_
      refine WL.move (v := I64 (z)) h2_1 rfl ?_
      refine WL.guardT (yf_bool rfl rfl hg45) ?_
      refine WL.call ca10 (rfl) rfl (do_spec (opl2 j) (y) (z) _ (opl2_lt j hj)) ?_
      rintro _ wd49 ⟨rfl, ed49⟩
      have R12 : Ext wr wd49 := Mod.trans (R10) (ed49)
      have E13 : Ext w wd49 := Mod.trans (E11) (ed49)
      refine WL.guardT (yf_bool rfl rfl hg45) ?_
      refine WL.bin rfl (vy := I64 (1#64)) rfl rfl (BinR.eql64) ?_
      refine WL.pick (b := true) (congrArg Value.bool hg45) rfl rfl ?_
      refine WL.move (v := .bool (((opW (opl2 j) (y) (z)) == 1#64))) rfl rfl ?_
      rcases Bool.eq_false_or_eq_true (((opW (opl2 j) (y) (z)) == 1#64)) with hg52 | hg52
      · refine WL.guardT (yf_bool rfl rfl hg52) ?_
        refine WL.move (v := .int .u8 (((opl2 j : Nat) : Int))) rfl rfl ?_
        refine WL.guardT (yf_bool rfl rfl hg52) ?_
        refine WL.move (v := I64 (x)) h0_1 rfl ?_
        refine WL.guardT (yf_bool rfl rfl hg52) ?_
        refine WL.move (v := I64 (z)) h2_1 rfl ?_
        refine WL.guardT (yf_bool rfl rfl hg52) ?_
        refine WL.call ca10 (rfl) rfl (do_spec (opl2 j) (x) (z) _ (opl2_lt j hj)) ?_
        rintro _ wd56 ⟨rfl, ed56⟩
        have R14 : Ext wr wd56 := Mod.trans (R12) (ed56)
        have E15 : Ext w wd56 := Mod.trans (E13) (ed56)
        refine WL.guardT (yf_bool rfl rfl hg52) ?_
        refine WL.bin (v := .bool (false)) rfl (vy := I64 (1#64)) rfl rfl (BinR.toB (BinR.neq64) (order3 j hj x y z hg45 hg52)) ?_
        refine WL.pick (b := true) (congrArg Value.bool hg52) rfl rfl ?_
        refine WL.nil ?_
        refine WC.condF rfl ?_
        refine WC.skip ?_
        refine WC.region ?_
        refine WL.bin h36_1 rfl rfl (BinR.succN (by omega)) ?_
        refine WL.move (v := IN (j + 1)) rfl rfl ?_
        refine WL.nil ?_
        exact ⟨k - 1, by omega, (j + 1), by omega, h0_1, h1_1, h2_1, h7_1, h10_1, h11_1, h12_1, h13_1, h14_1, h15_1, h16_1, h17_1, h18_1, h19_1, h20_1, h21_1, h22_1, h23_1, h24_1, h25_1, h26_1, h27_1, h28_1, h29_1, h30_1, h31_1, h32_1, h33_1, h34_1, h35_1, rfl, E15, fun i hi => (R14).cell (hB i hi) (fun x => x)⟩
      · refine WL.guardF (b' := false) (yf_bool rfl rfl hg52) rfl rfl ?_
        refine WL.guardF (b' := false) (yf_bool rfl rfl hg52) rfl rfl ?_
        refine WL.guardF (b' := false) (yf_bool rfl rfl hg52) rfl rfl ?_
        refine WL.guardF (b' := false) (yf_bool rfl rfl hg52) rfl rfl ?_
        refine WL.guardF (b' := false) (yf_bool rfl rfl hg52) rfl rfl ?_
        refine WL.pick (b := false) (congrArg Value.bool hg52) rfl rfl ?_
        refine WL.nil ?_
        refine WC.condF rfl ?_
        refine WC.skip ?_
        refine WC.region ?_
        refine WL.bin h36_1 rfl rfl (BinR.succN (by omega)) ?_
        refine WL.move (v := IN (j + 1)) rfl rfl ?_
        refine WL.nil ?_
        exact ⟨k - 1, by omega, (j + 1), by omega, h0_1, h1_1, h2_1, h7_1, h10_1, h11_1, h12_1, h13_1, h14_1, h15_1, h16_1, h17_1, h18_1, h19_1, h20_1, h21_1, h22_1, h23_1, h24_1, h25_1, h26_1, h27_1, h28_1, h29_1, h30_1, h31_1, h32_1, h33_1, h34_1, h35_1, rfl, E13, fun i hi => (R12).cell (hB i hi) (fun x => x)⟩
    · refine WL.guardF (b' := false) (yf_bool rfl rfl hg45) rfl rfl ?_
      refine WL.guardF (b' := false) (yf_bool rfl rfl hg45) rfl rfl ?_
      refine WL.guardF (b' := false) (yf_bool rfl rfl hg45) rfl rfl ?_
      refine WL.guardF (b' := false) (yf_bool rfl rfl hg45) rfl rfl ?_
      refine WL.guardF (b' := false) (yf_bool rfl rfl hg45) rfl rfl ?_
      refine WL.pick (b := false) (congrArg Value.bool hg45) rfl rfl ?_
      refine WL.move (v := .bool (false)) rfl rfl ?_
      refine WL.guardF (b' := false) (rfl) rfl rfl ?_
      refine WL.guardF (b' := false) (rfl) rfl rfl ?_
      refine WL.guardF (b' := false) (rfl) rfl rfl ?_
      refine WL.guardF (b' := false) (rfl) rfl rfl ?_
      refine WL.guardF (b' := false) (rfl) rfl rfl ?_
      refine WL.pick (b := false) rfl rfl rfl ?_
      refine WL.nil ?_
      refine WC.condF rfl ?_
      refine WC.skip ?_
      refine WC.region ?_
      refine WL.bin h36_1 rfl rfl (BinR.succN (by omega)) ?_
      refine WL.move (v := IN (j + 1)) rfl rfl ?_
      refine WL.nil ?_
      exact ⟨k - 1, by omega, (j + 1), by omega, h0_1, h1_1, h2_1, h7_1, h10_1, h11_1, h12_1, h13_1, h14_1, h15_1, h16_1, h17_1, h18_1, h19_1, h20_1, h21_1, h22_1, h23_1, h24_1, h25_1, h26_1, h27_1, h28_1, h29_1, h30_1, h31_1, h32_1, h33_1, h34_1, h35_1, rfl, E11, fun i hi => (R10).cell (hB i hi) (fun x => x)⟩
  · refine WC.exit ?_
    refine WC.seq ?_
    refine WC.seq ?_
    refine WC.region ?_
    refine WL.move (v := I64 (x)) h0_1 rfl ?_
    refine WL.move (v := I64 (y)) h1_1 rfl ?_
    refine WL.move (v := I64 (z)) h2_1 rfl ?_
    refine WL.call ca10 (rfl) rfl (do_spec 1 (y) (z) _ (by decide)) ?_
    rintro _ wd63 ⟨rfl, ed63⟩
    have R16 : Ext wr wd63 := Mod.trans (Mod.refl _ _) (ed63)
    have E17 : Ext w wd63 := Mod.trans (hE) (ed63)
    refine WL.call ca10 (rfl) rfl (do_spec 3 (x) ((opW 1 (y) (z))) _ (by decide)) ?_
    rintro _ wd64 ⟨rfl, ed64⟩
    have R18 : Ext wr wd64 := Mod.trans (R16) (ed64)
    have E19 : Ext w wd64 := Mod.trans (E17) (ed64)
    refine WL.move (v := I64 (x)) h0_1 rfl ?_
    refine WL.move (v := I64 (y)) h1_1 rfl ?_
    refine WL.call ca10 (rfl) rfl (do_spec 3 (x) (y) _ (by decide)) ?_
    rintro _ wd67 ⟨rfl, ed67⟩
    have R20 : Ext wr wd67 := Mod.trans (R18) (ed67)
    have E21 : Ext w wd67 := Mod.trans (E19) (ed67)
    refine WL.move (v := I64 (x)) h0_1 rfl ?_
    refine WL.move (v := I64 (z)) h2_1 rfl ?_
    refine WL.call ca10 (rfl) rfl (do_spec 3 (x) (z) _ (by decide)) ?_
    rintro _ wd70 ⟨rfl, ed70⟩
    have R22 : Ext wr wd70 := Mod.trans (R20) (ed70)
    have E23 : Ext w wd70 := Mod.trans (E21) (ed70)
    refine WL.call ca10 (rfl) rfl (do_spec 1 ((opW 3 (x) (y))) ((opW 3 (x) (z))) _ (by decide)) ?_
    rintro _ wd71 ⟨rfl, ed71⟩
    have R24 : Ext wr wd71 := Mod.trans (R22) (ed71)
    have E25 : Ext w wd71 := Mod.trans (E23) (ed71)
    refine WL.bin (v := .bool (false)) rfl rfl rfl (BinR.toB (BinR.neq64) (ne_of (BitVec.mul_add ..))) ?_
    refine WL.move (v := .bool (false)) rfl rfl ?_
    refine WL.guardT (rfl) ?_
    refine WL.move (v := I64 (x)) h0_1 rfl ?_
    refine WL.guardT (rfl) ?_
    refine WL.move (v := I64 (y)) h1_1 rfl ?_
    refine WL.guardT (rfl) ?_
    refine WL.move (v := I64 (z)) h2_1 rfl ?_
    refine WL.guardT (rfl) ?_
    refine WL.call ca10 (rfl) rfl (do_spec 9 (y) (z) _ (by decide)) ?_
    rintro _ wd77 ⟨rfl, ed77⟩
    have R26 : Ext wr wd77 := Mod.trans (R24) (ed77)
    have E27 : Ext w wd77 := Mod.trans (E25) (ed77)
    refine WL.guardT (rfl) ?_
    refine WL.call ca10 (rfl) rfl (do_spec 8 (x) ((opW 9 (y) (z))) _ (by decide)) ?_
    rintro _ wd78 ⟨rfl, ed78⟩
    have R28 : Ext wr wd78 := Mod.trans (R26) (ed78)
    have E29 : Ext w wd78 := Mod.trans (E27) (ed78)
    refine WL.guardT (rfl) ?_
    refine WL.move (v := I64 (x)) h0_1 rfl ?_
    refine WL.guardT (rfl) ?_
    refine WL.move (v := I64 (y)) h1_1 rfl ?_
    refine WL.guardT (rfl) ?_
    refine WL.call ca10 (rfl) rfl (do_spec 8 (x) (y) _ (by decide)) ?_
    rintro _ wd81 ⟨rfl, ed81⟩
    have R30 : Ext wr wd81 := Mod.trans (R28) (ed81)
    have E31 : Ext w wd81 := Mod.trans (E29) (ed81)
    refine WL.guardT (rfl) ?_
    refine WL.move (v := I64 (x)) h0_1 rfl ?_
    refine WL.guardT (rfl) ?_
    refine WL.move (v := I64 (z)) h2_1 rfl ?_
    refine WL.guardT (rfl) ?_
    refine WL.call ca10 (rfl) rfl (do_spec 8 (x) (z) _ (by decide)) ?_
    rintro _ wd84 ⟨rfl, ed84⟩
    have R32 : Ext wr wd84 := Mod.trans (R30) (ed84)
    have E33 : Ext w wd84 := Mod.trans (E31) (ed84)
    refine WL.guardT (rfl) ?_
    refine WL.call ca10 (rfl) rfl (do_spec 9 ((opW 8 (x) (y))) ((opW 8 (x) (z))) _ (by decide)) ?_
    rintro _ wd85 ⟨rfl, ed85⟩
    have R34 : Ext wr wd85 := Mod.trans (R32) (ed85)
    have E35 : Ext w wd85 := Mod.trans (E33) (ed85)
    refine WL.guardT (rfl) ?_
    refine WL.bin (v := .bool (false)) rfl rfl rfl (BinR.toB (BinR.neq64) (ne_of (order4 x y z))) ?_
    refine WL.pick (b := false) rfl rfl rfl ?_
    refine WL.nil ?_
    refine WC.condF rfl ?_
    refine WC.skip ?_
    refine WC.seq ?_
    refine WC.region ?_
    refine WL.move (v := I64 (x)) h0_1 rfl ?_
    refine WL.move (v := I64 (y)) h1_1 rfl ?_
    refine WL.call ca10 (rfl) rfl (do_spec 10 (x) (y) _ (by decide)) ?_
    rintro _ wd90 ⟨rfl, ed90⟩
    have R36 : Ext wr wd90 := Mod.trans (R34) (ed90)
    have E37 : Ext w wd90 := Mod.trans (E35) (ed90)
    refine WL.move (v := I64 (x)) h0_1 rfl ?_
    refine WL.move (v := I64 (y)) h1_1 rfl ?_
    refine WL.call ca10 (rfl) rfl (do_spec 8 (x) (y) _ (by decide)) ?_
    rintro _ wd93 ⟨rfl, ed93⟩
    have R38 : Ext wr wd93 := Mod.trans (R36) (ed93)
    have E39 : Ext w wd93 := Mod.trans (E37) (ed93)
    refine WL.call ca10 (rfl) rfl (do_spec 3 (2#64) ((opW 8 (x) (y))) _ (by decide)) ?_
    rintro _ wd94 ⟨rfl, ed94⟩
    have R40 : Ext wr wd94 := Mod.trans (R38) (ed94)
    have E41 : Ext w wd94 := Mod.trans (E39) (ed94)
    refine WL.call ca10 (rfl) rfl (do_spec 1 ((opW 10 (x) (y))) ((opW 3 (2#64) ((opW 8 (x) (y))))) _ (by decide)) ?_
    rintro _ wd95 ⟨rfl, ed95⟩
    have R42 : Ext wr wd95 := Mod.trans (R40) (ed95)
    have E43 : Ext w wd95 := Mod.trans (E41) (ed95)
    refine WL.move (v := I64 (x)) h0_1 rfl ?_
    refine WL.move (v := I64 (y)) h1_1 rfl ?_
    refine WL.call ca10 (rfl) rfl (do_spec 1 (x) (y) _ (by decide)) ?_
    rintro _ wd98 ⟨rfl, ed98⟩
    have R44 : Ext wr wd98 := Mod.trans (R42) (ed98)
    have E45 : Ext w wd98 := Mod.trans (E43) (ed98)
    refine WL.bin (v := .bool (true)) rfl rfl rfl (BinR.toB (BinR.eql64) (eq_of (order5 x y))) ?_
    refine WL.move (v := .bool (true)) rfl rfl ?_
    refine WL.guardT (rfl) ?_
    refine WL.move (v := I64 (x)) h0_1 rfl ?_
    refine WL.guardT (rfl) ?_
    refine WL.move (v := I64 (y)) h1_1 rfl ?_
    refine WL.guardT (rfl) ?_
    refine WL.call ca10 (rfl) rfl (do_spec 9 (x) (y) _ (by decide)) ?_
    rintro _ wd103 ⟨rfl, ed103⟩
    have R46 : Ext wr wd103 := Mod.trans (R44) (ed103)
    have E47 : Ext w wd103 := Mod.trans (E45) (ed103)
    refine WL.guardT (rfl) ?_
    refine WL.move (v := I64 (x)) h0_1 rfl ?_
    refine WL.guardT (rfl) ?_
    refine WL.move (v := I64 (y)) h1_1 rfl ?_
    refine WL.guardT (rfl) ?_
    refine WL.call ca10 (rfl) rfl (do_spec 8 (x) (y) _ (by decide)) ?_
    rintro _ wd106 ⟨rfl, ed106⟩
    have R48 : Ext wr wd106 := Mod.trans (R46) (ed106)
    have E49 : Ext w wd106 := Mod.trans (E47) (ed106)
    refine WL.guardT (rfl) ?_
    refine WL.call ca10 (rfl) rfl (do_spec 2 ((opW 9 (x) (y))) ((opW 8 (x) (y))) _ (by decide)) ?_
    rintro _ wd107 ⟨rfl, ed107⟩
    have R50 : Ext wr wd107 := Mod.trans (R48) (ed107)
    have E51 : Ext w wd107 := Mod.trans (E49) (ed107)
    refine WL.guardT (rfl) ?_
    refine WL.move (v := I64 (x)) h0_1 rfl ?_
    refine WL.guardT (rfl) ?_
    refine WL.move (v := I64 (y)) h1_1 rfl ?_
    refine WL.guardT (rfl) ?_
    refine WL.call ca10 (rfl) rfl (do_spec 10 (x) (y) _ (by decide)) ?_
    rintro _ wd110 ⟨rfl, ed110⟩
    have R52 : Ext wr wd110 := Mod.trans (R50) (ed110)
    have E53 : Ext w wd110 := Mod.trans (E51) (ed110)
    refine WL.guardT (rfl) ?_
    refine WL.bin (v := .bool (true)) rfl rfl rfl (BinR.toB (BinR.eql64) (eq_of (order6 x y))) ?_
    refine WL.pick (b := true) rfl rfl rfl ?_
    refine WL.move (v := .bool (true)) rfl rfl ?_
    refine WL.guardT (rfl) ?_
    refine WL.call ca11 (rfl) rfl (works_spec _ (ht.ext (E53))) ?_
    rintro _ wd114 ⟨rfl, ed114⟩
    have R54 : Ext wr wd114 := Mod.trans (R52) (ed114)
    have E55 : Ext w wd114 := Mod.trans (E53) (ed114)
    refine WL.pick (b := true) rfl rfl rfl ?_
    refine WL.assign (v := .bool (true)) rfl rfl ?_
    refine WL.nil ?_
    refine WC.ret ?_
    exact ⟨_, Res.one (v := .bool (true)) rfl rfl, rfl, E55⟩

theorem wordLaws_spec (n : Nat) (x y z : BitVec 64) (w : World) (hn2 : n < 256) (ht : Tab w) : CallsR Tryd.prog 7 #[.int .u8 (((n : Nat) : Int)), I64 (x), I64 (y), I64 (z)] w (fun v w' => v = .bool true ∧ Ext w w') := by
  refine callsR_of Tryd.func7 rfl rfl rfl ?_
  refine WC.seq ?_
  refine WC.region ?_
  refine WL.assign (v := .bool (false)) rfl rfl ?_
  refine WL.nil ?_
  refine WC.seq ?_
  refine WC.seq ?_
  refine WC.cut (fun f' w_ => f' 0 = .int .u8 (((n : Nat) : Int)) ∧ f' 1 = I64 (x) ∧ f' 2 = I64 (y) ∧ f' 3 = I64 (z) ∧ f' 8 = .bool (false) ∧ f' 48 = .bool (false) ∧ Ext w w_) ?_ ?_
  · refine WC.region ?_
    refine WL.move (v := .int .u8 (((n : Nat) : Int))) rfl rfl ?_
    refine WL.call ca19 (rfl) rfl (swaps_spec n _ hn2) ?_
    rintro _ wd16 ⟨rfl, ed16⟩
    have E1 : Ext w wd16 := Mod.trans (Mod.refl _ _) (ed16)
    refine WL.move (v := .bool ((swapsW n))) rfl rfl ?_
    rcases Bool.eq_false_or_eq_true ((swapsW n)) with hg17 | hg17
    · refine WL.guardT (yf_bool rfl rfl hg17) ?_
      refine WL.move (v := .int .u8 (((n : Nat) : Int))) rfl rfl ?_
      refine WL.guardT (yf_bool rfl rfl hg17) ?_
      refine WL.move (v := I64 (x)) rfl rfl ?_
      refine WL.guardT (yf_bool rfl rfl hg17) ?_
      refine WL.move (v := I64 (y)) rfl rfl ?_
      refine WL.guardT (yf_bool rfl rfl hg17) ?_
      refine WL.call ca10 (rfl) rfl (do_spec n (x) (y) _ hn2) ?_
      rintro _ wd21 ⟨rfl, ed21⟩
      have E2 : Ext w wd21 := Mod.trans (E1) (ed21)
      refine WL.guardT (yf_bool rfl rfl hg17) ?_
      refine WL.move (v := .int .u8 (((n : Nat) : Int))) rfl rfl ?_
      refine WL.guardT (yf_bool rfl rfl hg17) ?_
      refine WL.move (v := I64 (y)) rfl rfl ?_
      refine WL.guardT (yf_bool rfl rfl hg17) ?_
      refine WL.move (v := I64 (x)) rfl rfl ?_
      refine WL.guardT (yf_bool rfl rfl hg17) ?_
      refine WL.call ca10 (rfl) rfl (do_spec n (y) (x) _ hn2) ?_
      rintro _ wd25 ⟨rfl, ed25⟩
      have E3 : Ext w wd25 := Mod.trans (E2) (ed25)
      refine WL.guardT (yf_bool rfl rfl hg17) ?_
      refine WL.bin (v := .bool (false)) rfl rfl rfl (BinR.toB (BinR.neq64) (ne_of (laws1 n x y hg17))) ?_
      refine WL.pick (b := true) (congrArg Value.bool hg17) rfl rfl ?_
      refine WL.move (v := .bool (false)) rfl rfl ?_
      refine WL.guardT (rfl) ?_
      refine WL.move (v := .int .u8 (((n : Nat) : Int))) rfl rfl ?_
      refine WL.guardT (rfl) ?_
      refine WL.call ca21 (rfl) rfl (groups_spec n _ hn2) ?_
      rintro _ wd30 ⟨rfl, ed30⟩
      have E4 : Ext w wd30 := Mod.trans (E3) (ed30)
      refine WL.guardT (rfl) ?_
      refine WL.move (v := .bool ((groupsW n))) rfl rfl ?_
      rcases Bool.eq_false_or_eq_true ((groupsW n)) with hg31 | hg31
      · refine WL.guardT (yf_bool rfl rfl hg31) ?_
        refine WL.move (v := .int .u8 (((n : Nat) : Int))) rfl rfl ?_
        refine WL.guardT (yf_bool rfl rfl hg31) ?_
        refine WL.move (v := .int .u8 (((n : Nat) : Int))) rfl rfl ?_
        refine WL.guardT (yf_bool rfl rfl hg31) ?_
        refine WL.move (v := I64 (x)) rfl rfl ?_
        refine WL.guardT (yf_bool rfl rfl hg31) ?_
        refine WL.move (v := I64 (y)) rfl rfl ?_
        refine WL.guardT (yf_bool rfl rfl hg31) ?_
        refine WL.call ca10 (rfl) rfl (do_spec n (x) (y) _ hn2) ?_
        rintro _ wd36 ⟨rfl, ed36⟩
        have E5 : Ext w wd36 := Mod.trans (E4) (ed36)
        refine WL.guardT (yf_bool rfl rfl hg31) ?_
        refine WL.move (v := I64 (z)) rfl rfl ?_
        refine WL.guardT (yf_bool rfl rfl hg31) ?_
        refine WL.call ca10 (rfl) rfl (do_spec n ((opW n (x) (y))) (z) _ hn2) ?_
        rintro _ wd38 ⟨rfl, ed38⟩
        have E6 : Ext w wd38 := Mod.trans (E5) (ed38)
        refine WL.guardT (yf_bool rfl rfl hg31) ?_
        refine WL.move (v := .int .u8 (((n : Nat) : Int))) rfl rfl ?_
        refine WL.guardT (yf_bool rfl rfl hg31) ?_
        refine WL.move (v := I64 (x)) rfl rfl ?_
        refine WL.guardT (yf_bool rfl rfl hg31) ?_
        refine WL.move (v := .int .u8 (((n : Nat) : Int))) rfl rfl ?_
        refine WL.guardT (yf_bool rfl rfl hg31) ?_
        refine WL.move (v := I64 (y)) rfl rfl ?_
        refine WL.guardT (yf_bool rfl rfl hg31) ?_
        refine WL.move (v := I64 (z)) rfl rfl ?_
        refine WL.guardT (yf_bool rfl rfl hg31) ?_
        refine WL.call ca10 (rfl) rfl (do_spec n (y) (z) _ hn2) ?_
        rintro _ wd44 ⟨rfl, ed44⟩
        have E7 : Ext w wd44 := Mod.trans (E6) (ed44)
        refine WL.guardT (yf_bool rfl rfl hg31) ?_
        refine WL.call ca10 (rfl) rfl (do_spec n (x) ((opW n (y) (z))) _ hn2) ?_
        rintro _ wd45 ⟨rfl, ed45⟩
        have E8 : Ext w wd45 := Mod.trans (E7) (ed45)
        refine WL.guardT (yf_bool rfl rfl hg31) ?_
        refine WL.bin (v := .bool (false)) rfl rfl rfl (BinR.toB (BinR.neq64) (ne_of (laws2 n x y z hg31))) ?_
        refine WL.guardT (rfl) ?_
        refine WL.pick (b := true) (congrArg Value.bool hg31) rfl rfl ?_
        refine WL.pick (b := false) rfl rfl rfl ?_
        refine WL.nil ?_
        exact ⟨rfl, rfl, rfl, rfl, rfl, rfl, rfl, E8⟩
      · refine WL.guardF (b' := false) (yf_bool rfl rfl hg31) rfl rfl ?_
        refine WL.guardF (b' := false) (yf_bool rfl rfl hg31) rfl rfl ?_
        refine WL.guardF (b' := false) (yf_bool rfl rfl hg31) rfl rfl ?_
        refine WL.guardF (b' := false) (yf_bool rfl rfl hg31) rfl rfl ?_
        refine WL.guardF (b' := false) (yf_bool rfl rfl hg31) rfl rfl ?_
        refine WL.guardF (b' := false) (yf_bool rfl rfl hg31) rfl rfl ?_
        refine WL.guardF (b' := false) (yf_bool rfl rfl hg31) rfl rfl ?_
        refine WL.guardF (b' := false) (yf_bool rfl rfl hg31) rfl rfl ?_
        refine WL.guardF (b' := false) (yf_bool rfl rfl hg31) rfl rfl ?_
        refine WL.guardF (b' := false) (yf_bool rfl rfl hg31) rfl rfl ?_
        refine WL.guardF (b' := false) (yf_bool rfl rfl hg31) rfl rfl ?_
        refine WL.guardF (b' := false) (yf_bool rfl rfl hg31) rfl rfl ?_
        refine WL.guardF (b' := false) (yf_bool rfl rfl hg31) rfl rfl ?_
        refine WL.guardF (b' := false) (yf_bool rfl rfl hg31) rfl rfl ?_
        refine WL.guardF (b' := false) (yf_bool rfl rfl hg31) rfl rfl ?_
        refine WL.guardT (rfl) ?_
        refine WL.pick (b := false) (congrArg Value.bool hg31) rfl rfl ?_
        refine WL.pick (b := false) rfl rfl rfl ?_
        refine WL.nil ?_
        exact ⟨rfl, rfl, rfl, rfl, rfl, rfl, rfl, E4⟩
    · refine WL.guardF (b' := false) (yf_bool rfl rfl hg17) rfl rfl ?_
      refine WL.guardF (b' := false) (yf_bool rfl rfl hg17) rfl rfl ?_
      refine WL.guardF (b' := false) (yf_bool rfl rfl hg17) rfl rfl ?_
      refine WL.guardF (b' := false) (yf_bool rfl rfl hg17) rfl rfl ?_
      refine WL.guardF (b' := false) (yf_bool rfl rfl hg17) rfl rfl ?_
      refine WL.guardF (b' := false) (yf_bool rfl rfl hg17) rfl rfl ?_
      refine WL.guardF (b' := false) (yf_bool rfl rfl hg17) rfl rfl ?_
      refine WL.guardF (b' := false) (yf_bool rfl rfl hg17) rfl rfl ?_
      refine WL.guardF (b' := false) (yf_bool rfl rfl hg17) rfl rfl ?_
      refine WL.pick (b := false) (congrArg Value.bool hg17) rfl rfl ?_
      refine WL.move (v := .bool (false)) rfl rfl ?_
      refine WL.guardT (rfl) ?_
      refine WL.move (v := .int .u8 (((n : Nat) : Int))) rfl rfl ?_
      refine WL.guardT (rfl) ?_
      refine WL.call ca21 (rfl) rfl (groups_spec n _ hn2) ?_
      rintro _ wd30 ⟨rfl, ed30⟩
      have E9 : Ext w wd30 := Mod.trans (E1) (ed30)
      refine WL.guardT (rfl) ?_
      refine WL.move (v := .bool ((groupsW n))) rfl rfl ?_
      rcases Bool.eq_false_or_eq_true ((groupsW n)) with hg31 | hg31
      · refine WL.guardT (yf_bool rfl rfl hg31) ?_
        refine WL.move (v := .int .u8 (((n : Nat) : Int))) rfl rfl ?_
        refine WL.guardT (yf_bool rfl rfl hg31) ?_
        refine WL.move (v := .int .u8 (((n : Nat) : Int))) rfl rfl ?_
        refine WL.guardT (yf_bool rfl rfl hg31) ?_
        refine WL.move (v := I64 (x)) rfl rfl ?_
        refine WL.guardT (yf_bool rfl rfl hg31) ?_
        refine WL.move (v := I64 (y)) rfl rfl ?_
        refine WL.guardT (yf_bool rfl rfl hg31) ?_
        refine WL.call ca10 (rfl) rfl (do_spec n (x) (y) _ hn2) ?_
        rintro _ wd36 ⟨rfl, ed36⟩
        have E10 : Ext w wd36 := Mod.trans (E9) (ed36)
        refine WL.guardT (yf_bool rfl rfl hg31) ?_
        refine WL.move (v := I64 (z)) rfl rfl ?_
        refine WL.guardT (yf_bool rfl rfl hg31) ?_
        refine WL.call ca10 (rfl) rfl (do_spec n ((opW n (x) (y))) (z) _ hn2) ?_
        rintro _ wd38 ⟨rfl, ed38⟩
        have E11 : Ext w wd38 := Mod.trans (E10) (ed38)
        refine WL.guardT (yf_bool rfl rfl hg31) ?_
        refine WL.move (v := .int .u8 (((n : Nat) : Int))) rfl rfl ?_
        refine WL.guardT (yf_bool rfl rfl hg31) ?_
        refine WL.move (v := I64 (x)) rfl rfl ?_
        refine WL.guardT (yf_bool rfl rfl hg31) ?_
        refine WL.move (v := .int .u8 (((n : Nat) : Int))) rfl rfl ?_
        refine WL.guardT (yf_bool rfl rfl hg31) ?_
        refine WL.move (v := I64 (y)) rfl rfl ?_
        refine WL.guardT (yf_bool rfl rfl hg31) ?_
        refine WL.move (v := I64 (z)) rfl rfl ?_
        refine WL.guardT (yf_bool rfl rfl hg31) ?_
        refine WL.call ca10 (rfl) rfl (do_spec n (y) (z) _ hn2) ?_
        rintro _ wd44 ⟨rfl, ed44⟩
        have E12 : Ext w wd44 := Mod.trans (E11) (ed44)
        refine WL.guardT (yf_bool rfl rfl hg31) ?_
        refine WL.call ca10 (rfl) rfl (do_spec n (x) ((opW n (y) (z))) _ hn2) ?_
        rintro _ wd45 ⟨rfl, ed45⟩
        have E13 : Ext w wd45 := Mod.trans (E12) (ed45)
        refine WL.guardT (yf_bool rfl rfl hg31) ?_
        refine WL.bin (v := .bool (false)) rfl rfl rfl (BinR.toB (BinR.neq64) (ne_of (laws2 n x y z hg31))) ?_
        refine WL.guardT (rfl) ?_
        refine WL.pick (b := true) (congrArg Value.bool hg31) rfl rfl ?_
        refine WL.pick (b := false) rfl rfl rfl ?_
        refine WL.nil ?_
        exact ⟨rfl, rfl, rfl, rfl, rfl, rfl, rfl, E13⟩
      · refine WL.guardF (b' := false) (yf_bool rfl rfl hg31) rfl rfl ?_
        refine WL.guardF (b' := false) (yf_bool rfl rfl hg31) rfl rfl ?_
        refine WL.guardF (b' := false) (yf_bool rfl rfl hg31) rfl rfl ?_
        refine WL.guardF (b' := false) (yf_bool rfl rfl hg31) rfl rfl ?_
        refine WL.guardF (b' := false) (yf_bool rfl rfl hg31) rfl rfl ?_
        refine WL.guardF (b' := false) (yf_bool rfl rfl hg31) rfl rfl ?_
        refine WL.guardF (b' := false) (yf_bool rfl rfl hg31) rfl rfl ?_
        refine WL.guardF (b' := false) (yf_bool rfl rfl hg31) rfl rfl ?_
        refine WL.guardF (b' := false) (yf_bool rfl rfl hg31) rfl rfl ?_
        refine WL.guardF (b' := false) (yf_bool rfl rfl hg31) rfl rfl ?_
        refine WL.guardF (b' := false) (yf_bool rfl rfl hg31) rfl rfl ?_
        refine WL.guardF (b' := false) (yf_bool rfl rfl hg31) rfl rfl ?_
        refine WL.guardF (b' := false) (yf_bool rfl rfl hg31) rfl rfl ?_
        refine WL.guardF (b' := false) (yf_bool rfl rfl hg31) rfl rfl ?_
        refine WL.guardF (b' := false) (yf_bool rfl rfl hg31) rfl rfl ?_
        refine WL.guardT (rfl) ?_
        refine WL.pick (b := false) (congrArg Value.bool hg31) rfl rfl ?_
        refine WL.pick (b := false) rfl rfl rfl ?_
        refine WL.nil ?_
        exact ⟨rfl, rfl, rfl, rfl, rfl, rfl, rfl, E9⟩
  rintro fc1 wc1 ⟨hc1_0, hc1_1, hc1_2, hc1_3, hc1_8, hc1_48, Ec48⟩
  refine WC.condF hc1_48 ?_
  refine WC.skip ?_
  refine WC.seq ?_
  refine WC.region ?_
  refine WL.move (v := .int .u8 (((n : Nat) : Int))) hc1_0 rfl ?_
  refine WL.call ca15 (rfl) rfl (keeps_spec n _ hn2) ?_
  rintro _ wd51 ⟨rfl, ed51⟩
  have E14 : Ext w wd51 := Mod.trans (Ec48) (ed51)
  refine WL.move (v := .tuple #[I64 ((keepsW n).1), .bool ((keepsW n).2)]) rfl rfl ?_
  refine WL.extract rfl rfl rfl ?_
  refine WL.extract rfl rfl rfl ?_
  refine WL.assign (v := I64 ((keepsW n).1)) rfl rfl ?_
  refine WL.assign (v := .bool ((keepsW n).2)) rfl rfl ?_
  refine WL.nil ?_
  refine WC.seq ?_
  refine WC.seq ?_
  refine WC.cut (fun f' w_ => f' 0 = .int .u8 (((n : Nat) : Int)) ∧ f' 1 = I64 (x) ∧ f' 2 = I64 (y) ∧ f' 3 = I64 (z) ∧ f' 8 = .bool (false) ∧ f' 9 = I64 ((keepsW n).1) ∧ f' 10 = .bool ((keepsW n).2) ∧ f' 48 = .bool (false) ∧ f' 49 = .tuple #[I64 ((keepsW n).1), .bool ((keepsW n).2)] ∧ f' 50 = .int .u8 (((n : Nat) : Int)) ∧ f' 51 = .tuple #[I64 ((keepsW n).1), .bool ((keepsW n).2)] ∧ f' 52 = I64 ((keepsW n).1) ∧ f' 53 = .bool ((keepsW n).2) ∧ f' 62 = .bool (false) ∧ Ext w w_) ?_ ?_
  · refine WC.region ?_
    refine WL.move (v := .bool ((keepsW n).2)) rfl rfl ?_
    refine WL.move (v := .bool ((keepsW n).2)) rfl rfl ?_
    rcases Bool.eq_false_or_eq_true ((keepsW n).2) with hg55 | hg55
    · refine WL.guardT (yf_bool rfl rfl hg55) ?_
      refine WL.move (v := .int .u8 (((n : Nat) : Int))) hc1_0 rfl ?_
      refine WL.guardT (yf_bool rfl rfl hg55) ?_
      refine WL.move (v := I64 (x)) hc1_1 rfl ?_
      refine WL.guardT (yf_bool rfl rfl hg55) ?_
      refine WL.move (v := I64 ((keepsW n).1)) rfl rfl ?_
      refine WL.guardT (yf_bool rfl rfl hg55) ?_
      refine WL.call ca10 (rfl) rfl (do_spec n (x) ((keepsW n).1) _ hn2) ?_
      rintro _ wd59 ⟨rfl, ed59⟩
      have E15 : Ext w wd59 := Mod.trans (E14) (ed59)
      refine WL.guardT (yf_bool rfl rfl hg55) ?_
      refine WL.move (v := I64 (x)) hc1_1 rfl ?_
      refine WL.guardT (yf_bool rfl rfl hg55) ?_
      refine WL.bin (v := .bool (false)) rfl rfl rfl (BinR.toB (BinR.neq64) (ne_of (laws3 n x hg55))) ?_
      refine WL.pick (b := true) (congrArg Value.bool hg55) rfl rfl ?_
      refine WL.nil ?_
      exact ⟨rfl, hc1_0, hc1_1, hc1_2, hc1_3, hc1_8, rfl, rfl, hc1_48, rfl, rfl, rfl, rfl, rfl, rfl, E15⟩
    · refine WL.guardF (b' := false) (yf_bool rfl rfl hg55) rfl rfl ?_
      refine WL.guardF (b' := false) (yf_bool rfl rfl hg55) rfl rfl ?_
      refine WL.guardF (b' := false) (yf_bool rfl rfl hg55) rfl rfl ?_
      refine WL.guardF (b' := false) (yf_bool rfl rfl hg55) rfl rfl ?_
      refine WL.guardF (b' := false) (yf_bool rfl rfl hg55) rfl rfl ?_
      refine WL.guardF (b' := false) (yf_bool rfl rfl hg55) rfl rfl ?_
      refine WL.pick (b := false) (congrArg Value.bool hg55) rfl rfl ?_
      refine WL.nil ?_
      exact ⟨rfl, hc1_0, hc1_1, hc1_2, hc1_3, hc1_8, rfl, rfl, hc1_48, rfl, rfl, rfl, rfl, rfl, rfl, E14⟩
  rintro fc4 wc4 ⟨hc4_0, hc4_1, hc4_2, hc4_3, hc4_8, hc4_9, hc4_10, hc4_48, hc4_49, hc4_50, hc4_51, hc4_52, hc4_53, hc4_62, Ec62⟩
  refine WC.condF hc4_62 ?_
  refine WC.skip ?_
  refine WC.seq ?_
  refine WC.seq ?_
  refine WC.cut (fun f' w_ => f' 0 = .int .u8 (((n : Nat) : Int)) ∧ f' 1 = I64 (x) ∧ f' 2 = I64 (y) ∧ f' 3 = I64 (z) ∧ f' 8 = .bool (false) ∧ f' 9 = I64 ((keepsW n).1) ∧ f' 10 = .bool ((keepsW n).2) ∧ f' 48 = .bool (false) ∧ f' 49 = .tuple #[I64 ((keepsW n).1), .bool ((keepsW n).2)] ∧ f' 50 = .int .u8 (((n : Nat) : Int)) ∧ f' 51 = .tuple #[I64 ((keepsW n).1), .bool ((keepsW n).2)] ∧ f' 52 = I64 ((keepsW n).1) ∧ f' 53 = .bool ((keepsW n).2) ∧ f' 62 = .bool (false) ∧ f' 98 = .bool (false) ∧ Ext w w_) ?_ ?_
  · refine WC.region ?_
    refine WL.move (v := I64 (y)) hc4_2 rfl ?_
    refine WL.bin rfl (vy := I64 (0#64)) rfl rfl (BinR.neq64) ?_
    refine WL.move (v := .bool ((y != 0#64))) rfl rfl ?_
    rcases Bool.eq_false_or_eq_true ((y != 0#64)) with hg65 | hg65
    · refine WL.guardT (yf_bool rfl rfl hg65) ?_
      refine WL.move (v := I64 (x)) hc4_1 rfl ?_
      refine WL.guardT (yf_bool rfl rfl hg65) ?_
      refine WL.move (v := I64 (y)) hc4_2 rfl ?_
      refine WL.guardT (yf_bool rfl rfl hg65) ?_
      refine WL.call ca10 (rfl) rfl (do_spec 4 (x) (y) _ (by decide)) ?_
      rintro _ wd68 ⟨rfl, ed68⟩
      have E16 : Ext w wd68 := Mod.trans (Ec62) (ed68)
      refine WL.guardT (yf_bool rfl rfl hg65) ?_
      refine WL.move (v := I64 (y)) hc4_2 rfl ?_
      refine WL.guardT (yf_bool rfl rfl hg65) ?_
      refine WL.call ca10 (rfl) rfl (do_spec 3 ((opW 4 (x) (y))) (y) _ (by decide)) ?_
      rintro _ wd70 ⟨rfl, ed70⟩
      have E17 : Ext w wd70 := Mod.trans (E16) (ed70)
      refine WL.guardT (yf_bool rfl rfl hg65) ?_
      refine WL.move (v := I64 (x)) hc4_1 rfl ?_
      refine WL.guardT (yf_bool rfl rfl hg65) ?_
      refine WL.move (v := I64 (y)) hc4_2 rfl ?_
      refine WL.guardT (yf_bool rfl rfl hg65) ?_
      refine WL.call ca10 (rfl) rfl (do_spec 5 (x) (y) _ (by decide)) ?_
      rintro _ wd73 ⟨rfl, ed73⟩
      have E18 : Ext w wd73 := Mod.trans (E17) (ed73)
      refine WL.guardT (yf_bool rfl rfl hg65) ?_
      refine WL.call ca10 (rfl) rfl (do_spec 1 ((opW 3 ((opW 4 (x) (y))) (y))) ((opW 5 (x) (y))) _ (by decide)) ?_
      rintro _ wd74 ⟨rfl, ed74⟩
      have E19 : Ext w wd74 := Mod.trans (E18) (ed74)
      refine WL.guardT (yf_bool rfl rfl hg65) ?_
      refine WL.move (v := I64 (x)) hc4_1 rfl ?_
      refine WL.guardT (yf_bool rfl rfl hg65) ?_
      refine WL.bin (v := .bool (false)) rfl rfl rfl (BinR.toB (BinR.neq64) (ne_of (laws4 x y (bne_iff_ne.1 hg65)))) ?_
      refine WL.guardT (yf_bool rfl rfl hg65) ?_
      refine WL.move (v := .bool (false)) rfl rfl ?_
      refine WL.guardT (rfl) ?_
      refine WL.move (v := I64 (x)) hc4_1 rfl ?_
      refine WL.guardT (rfl) ?_
      refine WL.move (v := I64 (y)) hc4_2 rfl ?_
      refine WL.guardT (rfl) ?_
      refine WL.call ca10 (rfl) rfl (do_spec 6 (x) (y) _ (by decide)) ?_
      rintro _ wd80 ⟨rfl, ed80⟩
      have E20 : Ext w wd80 := Mod.trans (E19) (ed80)
      refine WL.guardT (rfl) ?_
      refine WL.move (v := I64 (y)) hc4_2 rfl ?_
      refine WL.guardT (rfl) ?_
      refine WL.call ca10 (rfl) rfl (do_spec 3 ((opW 6 (x) (y))) (y) _ (by decide)) ?_
      rintro _ wd82 ⟨rfl, ed82⟩
      have E21 : Ext w wd82 := Mod.trans (E20) (ed82)
      refine WL.guardT (rfl) ?_
      refine WL.move (v := I64 (x)) hc4_1 rfl ?_
      refine WL.guardT (rfl) ?_
      refine WL.move (v := I64 (y)) hc4_2 rfl ?_
      refine WL.guardT (rfl) ?_
      refine WL.call ca10 (rfl) rfl (do_spec 7 (x) (y) _ (by decide)) ?_
      rintro _ wd85 ⟨rfl, ed85⟩
      have E22 : Ext w wd85 := Mod.trans (E21) (ed85)
      refine WL.guardT (rfl) ?_
      refine WL.call ca10 (rfl) rfl (do_spec 1 ((opW 3 ((opW 6 (x) (y))) (y))) ((opW 7 (x) (y))) _ (by decide)) ?_
      rintro _ wd86 ⟨rfl, ed86⟩
      have E23 : Ext w wd86 := Mod.trans (E22) (ed86)
      refine WL.guardT (rfl) ?_
      refine WL.move (v := I64 (x)) hc4_1 rfl ?_
      refine WL.guardT (rfl) ?_
      refine WL.bin (v := .bool (false)) rfl rfl rfl (BinR.toB (BinR.neq64) (ne_of (laws5 x y (bne_iff_ne.1 hg65)))) ?_
      refine WL.guardT (yf_bool rfl rfl hg65) ?_
      refine WL.pick (b := false) rfl rfl rfl ?_
      refine WL.guardT (yf_bool rfl rfl hg65) ?_
      refine WL.move (v := .bool (false)) rfl rfl ?_
      refine WL.guardT (rfl) ?_
      refine WL.move (v := I64 (x)) hc4_1 rfl ?_
      refine WL.guardT (rfl) ?_
      refine WL.move (v := I64 (y)) hc4_2 rfl ?_
      refine WL.guardT (rfl) ?_
      refine WL.call ca10 (rfl) rfl (do_spec 7 (x) (y) _ (by decide)) ?_
      rintro _ wd93 ⟨rfl, ed93⟩
      have E24 : Ext w wd93 := Mod.trans (E23) (ed93)
      refine WL.guardT (rfl) ?_
      refine WL.move (v := I64 (y)) hc4_2 rfl ?_
      refine WL.guardT (rfl) ?_
      refine WL.call ca10 (rfl) rfl (do_spec 15 ((opW 7 (x) (y))) (y) _ (by decide)) ?_
      rintro _ wd95 ⟨rfl, ed95⟩
      have E25 : Ext w wd95 := Mod.trans (E24) (ed95)
      refine WL.guardT (rfl) ?_
      refine WL.bin (v := .bool (false)) rfl (vy := I64 (1#64)) rfl rfl (BinR.toB (BinR.neq64) (ne_of (laws6 x y (bne_iff_ne.1 hg65)))) ?_
      refine WL.guardT (yf_bool rfl rfl hg65) ?_
      refine WL.pick (b := false) rfl rfl rfl ?_
      refine WL.pick (b := true) (congrArg Value.bool hg65) rfl rfl ?_
      refine WL.nil ?_
      exact ⟨rfl, hc4_0, hc4_1, hc4_2, hc4_3, hc4_8, hc4_9, hc4_10, hc4_48, hc4_49, hc4_50, hc4_51, hc4_52, hc4_53, hc4_62, rfl, E25⟩
    · refine WL.guardF (b' := false) (yf_bool rfl rfl hg65) rfl rfl ?_
      refine WL.guardF (b' := false) (yf_bool rfl rfl hg65) rfl rfl ?_
      refine WL.guardF (b' := false) (yf_bool rfl rfl hg65) rfl rfl ?_
      refine WL.guardF (b' := false) (yf_bool rfl rfl hg65) rfl rfl ?_
      refine WL.guardF (b' := false) (yf_bool rfl rfl hg65) rfl rfl ?_
      refine WL.guardF (b' := false) (yf_bool rfl rfl hg65) rfl rfl ?_
      refine WL.guardF (b' := false) (yf_bool rfl rfl hg65) rfl rfl ?_
      refine WL.guardF (b' := false) (yf_bool rfl rfl hg65) rfl rfl ?_
      refine WL.guardF (b' := false) (yf_bool rfl rfl hg65) rfl rfl ?_
      refine WL.guardF (b' := false) (yf_bool rfl rfl hg65) rfl rfl ?_
      refine WL.guardF (b' := false) (yf_bool rfl rfl hg65) rfl rfl ?_
      refine WL.guardF (b' := false) (yf_bool rfl rfl hg65) rfl rfl ?_
      refine WL.guardU rfl rfl ?_
      refine WL.guardU rfl rfl ?_
      refine WL.guardU rfl rfl ?_
      refine WL.guardU rfl rfl ?_
      refine WL.guardU rfl rfl ?_
      refine WL.guardU rfl rfl ?_
      refine WL.guardU rfl rfl ?_
      refine WL.guardU rfl rfl ?_
      refine WL.guardU rfl rfl ?_
      refine WL.guardU rfl rfl ?_
      refine WL.guardU rfl rfl ?_
      refine WL.guardF (b' := false) (yf_bool rfl rfl hg65) rfl rfl ?_
      refine WL.guardF (b' := false) (yf_bool rfl rfl hg65) rfl rfl ?_
      refine WL.guardU rfl rfl ?_
      refine WL.guardU rfl rfl ?_
      refine WL.guardU rfl rfl ?_
      refine WL.guardU rfl rfl ?_
      refine WL.guardU rfl rfl ?_
      refine WL.guardU rfl rfl ?_
      refine WL.guardF (b' := false) (yf_bool rfl rfl hg65) rfl rfl ?_
      refine WL.pick (b := false) (congrArg Value.bool hg65) rfl rfl ?_
      refine WL.nil ?_
      exact ⟨rfl, hc4_0, hc4_1, hc4_2, hc4_3, hc4_8, hc4_9, hc4_10, hc4_48, hc4_49, hc4_50, hc4_51, hc4_52, hc4_53, hc4_62, rfl, Ec62⟩
  rintro fc6 wc6 ⟨hc6_0, hc6_1, hc6_2, hc6_3, hc6_8, hc6_9, hc6_10, hc6_48, hc6_49, hc6_50, hc6_51, hc6_52, hc6_53, hc6_62, hc6_98, Ec98⟩
  refine WC.condF hc6_98 ?_
  refine WC.skip ?_
  refine WC.seq ?_
  refine WC.region ?_
  refine WL.move (v := I64 (y)) hc6_2 rfl ?_
  refine WL.call ca17 (rfl) rfl (power_spec (y) _ (ht.ext (Ec98))) ?_
  rintro _ _ ⟨rfl, rfl⟩
  refine WL.move (v := .tuple #[I64 ((powW (y)).1), .bool ((powW (y)).2)]) rfl rfl ?_
  refine WL.extract rfl rfl rfl ?_
  refine WL.extract rfl rfl rfl ?_
  refine WL.assign (v := I64 ((powW (y)).1)) rfl rfl ?_
  refine WL.assign (v := .bool ((powW (y)).2)) rfl rfl ?_
  refine WL.nil ?_
  refine WC.seq ?_
  refine WC.seq ?_
  refine WC.cut (fun f' w_ => f' 0 = .int .u8 (((n : Nat) : Int)) ∧ f' 1 = I64 (x) ∧ f' 2 = I64 (y) ∧ f' 3 = I64 (z) ∧ f' 8 = .bool (false) ∧ f' 9 = I64 ((keepsW n).1) ∧ f' 10 = .bool ((keepsW n).2) ∧ f' 11 = I64 ((powW (y)).1) ∧ f' 12 = .bool ((powW (y)).2) ∧ f' 48 = .bool (false) ∧ f' 49 = .tuple #[I64 ((keepsW n).1), .bool ((keepsW n).2)] ∧ f' 50 = .int .u8 (((n : Nat) : Int)) ∧ f' 51 = .tuple #[I64 ((keepsW n).1), .bool ((keepsW n).2)] ∧ f' 52 = I64 ((keepsW n).1) ∧ f' 53 = .bool ((keepsW n).2) ∧ f' 62 = .bool (false) ∧ f' 98 = .bool (false) ∧ f' 99 = .tuple #[I64 ((powW (y)).1), .bool ((powW (y)).2)] ∧ f' 100 = I64 (y) ∧ f' 101 = .tuple #[I64 ((powW (y)).1), .bool ((powW (y)).2)] ∧ f' 102 = I64 ((powW (y)).1) ∧ f' 103 = .bool ((powW (y)).2) ∧ f' 132 = .bool (false) ∧ Ext w w_) ?_ ?_
  · refine WC.region ?_
    refine WL.move (v := .bool ((powW (y)).2)) rfl rfl ?_
    refine WL.move (v := .bool ((powW (y)).2)) rfl rfl ?_
    rcases Bool.eq_false_or_eq_true ((powW (y)).2) with hg105 | hg105
    · refine WL.guardT (yf_bool rfl rfl hg105) ?_
      refine WL.move (v := I64 (x)) hc6_1 rfl ?_
      refine WL.guardT (yf_bool rfl rfl hg105) ?_
      refine WL.move (v := I64 (y)) hc6_2 rfl ?_
      refine WL.guardT (yf_bool rfl rfl hg105) ?_
      refine WL.call ca10 (rfl) rfl (do_spec 3 (x) (y) _ (by decide)) ?_
      rintro _ wd108 ⟨rfl, ed108⟩
      have E26 : Ext w wd108 := Mod.trans (Ec98) (ed108)
      refine WL.guardT (yf_bool rfl rfl hg105) ?_
      refine WL.move (v := I64 (x)) hc6_1 rfl ?_
      refine WL.guardT (yf_bool rfl rfl hg105) ?_
      refine WL.move (v := I64 ((powW (y)).1)) rfl rfl ?_
      refine WL.guardT (yf_bool rfl rfl hg105) ?_
      refine WL.call ca10 (rfl) rfl (do_spec 11 (x) ((powW (y)).1) _ (by decide)) ?_
      rintro _ wd111 ⟨rfl, ed111⟩
      have E27 : Ext w wd111 := Mod.trans (E26) (ed111)
      refine WL.guardT (yf_bool rfl rfl hg105) ?_
      refine WL.bin (v := .bool (false)) rfl rfl rfl (BinR.toB (BinR.neq64) (ne_of (laws7 x y hg105))) ?_
      refine WL.guardT (yf_bool rfl rfl hg105) ?_
      refine WL.move (v := .bool (false)) rfl rfl ?_
      refine WL.guardT (rfl) ?_
      refine WL.move (v := I64 (x)) hc6_1 rfl ?_
      refine WL.guardT (rfl) ?_
      refine WL.move (v := I64 (y)) hc6_2 rfl ?_
      refine WL.guardT (rfl) ?_
      refine WL.call ca10 (rfl) rfl (do_spec 6 (x) (y) _ (by decide)) ?_
      rintro _ wd116 ⟨rfl, ed116⟩
      have E28 : Ext w wd116 := Mod.trans (E27) (ed116)
      refine WL.guardT (rfl) ?_
      refine WL.move (v := I64 (x)) hc6_1 rfl ?_
      refine WL.guardT (rfl) ?_
      refine WL.move (v := I64 ((powW (y)).1)) rfl rfl ?_
      refine WL.guardT (rfl) ?_
      refine WL.call ca10 (rfl) rfl (do_spec 12 (x) ((powW (y)).1) _ (by decide)) ?_
      rintro _ wd119 ⟨rfl, ed119⟩
      have E29 : Ext w wd119 := Mod.trans (E28) (ed119)
      refine WL.guardT (rfl) ?_
      refine WL.bin (v := .bool (false)) rfl rfl rfl (BinR.toB (BinR.neq64) (ne_of (laws8 x y hg105))) ?_
      refine WL.guardT (yf_bool rfl rfl hg105) ?_
      refine WL.pick (b := false) rfl rfl rfl ?_
      refine WL.guardT (yf_bool rfl rfl hg105) ?_
      refine WL.move (v := .bool (false)) rfl rfl ?_
      refine WL.guardT (rfl) ?_
      refine WL.move (v := I64 (x)) hc6_1 rfl ?_
      refine WL.guardT (rfl) ?_
      refine WL.move (v := I64 (y)) hc6_2 rfl ?_
      refine WL.guardT (rfl) ?_
      refine WL.call ca10 (rfl) rfl (do_spec 7 (x) (y) _ (by decide)) ?_
      rintro _ wd125 ⟨rfl, ed125⟩
      have E30 : Ext w wd125 := Mod.trans (E29) (ed125)
      refine WL.guardT (rfl) ?_
      refine WL.move (v := I64 (x)) hc6_1 rfl ?_
      refine WL.guardT (rfl) ?_
      refine WL.move (v := I64 (y)) hc6_2 rfl ?_
      refine WL.guardT (rfl) ?_
      refine WL.call ca10 (rfl) rfl (do_spec 2 (y) (1#64) _ (by decide)) ?_
      rintro _ wd128 ⟨rfl, ed128⟩
      have E31 : Ext w wd128 := Mod.trans (E30) (ed128)
      refine WL.guardT (rfl) ?_
      refine WL.call ca10 (rfl) rfl (do_spec 8 (x) ((opW 2 (y) (1#64))) _ (by decide)) ?_
      rintro _ wd129 ⟨rfl, ed129⟩
      have E32 : Ext w wd129 := Mod.trans (E31) (ed129)
      refine WL.guardT (rfl) ?_
      refine WL.bin (v := .bool (false)) rfl rfl rfl (BinR.toB (BinR.neq64) (ne_of (laws9 x y hg105))) ?_
      refine WL.guardT (yf_bool rfl rfl hg105) ?_
      refine WL.pick (b := false) rfl rfl rfl ?_
      refine WL.pick (b := true) (congrArg Value.bool hg105) rfl rfl ?_
      refine WL.nil ?_
      exact ⟨rfl, hc6_0, hc6_1, hc6_2, hc6_3, hc6_8, hc6_9, hc6_10, rfl, rfl, hc6_48, hc6_49, hc6_50, hc6_51, hc6_52, hc6_53, hc6_62, hc6_98, rfl, rfl, rfl, rfl, rfl, rfl, E32⟩
    · refine WL.guardF (b' := false) (yf_bool rfl rfl hg105) rfl rfl ?_
      refine WL.guardF (b' := false) (yf_bool rfl rfl hg105) rfl rfl ?_
      refine WL.guardF (b' := false) (yf_bool rfl rfl hg105) rfl rfl ?_
      refine WL.guardF (b' := false) (yf_bool rfl rfl hg105) rfl rfl ?_
      refine WL.guardF (b' := false) (yf_bool rfl rfl hg105) rfl rfl ?_
      refine WL.guardF (b' := false) (yf_bool rfl rfl hg105) rfl rfl ?_
      refine WL.guardF (b' := false) (yf_bool rfl rfl hg105) rfl rfl ?_
      refine WL.guardF (b' := false) (yf_bool rfl rfl hg105) rfl rfl ?_
      refine WL.guardU rfl rfl ?_
      refine WL.guardU rfl rfl ?_
      refine WL.guardU rfl rfl ?_
      refine WL.guardU rfl rfl ?_
      refine WL.guardU rfl rfl ?_
      refine WL.guardU rfl rfl ?_
      refine WL.guardU rfl rfl ?_
      refine WL.guardF (b' := false) (yf_bool rfl rfl hg105) rfl rfl ?_
      refine WL.guardF (b' := false) (yf_bool rfl rfl hg105) rfl rfl ?_
      refine WL.guardU rfl rfl ?_
      refine WL.guardU rfl rfl ?_
      refine WL.guardU rfl rfl ?_
      refine WL.guardU rfl rfl ?_
      refine WL.guardU rfl rfl ?_
      refine WL.guardU rfl rfl ?_
      refine WL.guardU rfl rfl ?_
      refine WL.guardU rfl rfl ?_
      refine WL.guardF (b' := false) (yf_bool rfl rfl hg105) rfl rfl ?_
      refine WL.pick (b := false) (congrArg Value.bool hg105) rfl rfl ?_
      refine WL.nil ?_
      exact ⟨rfl, hc6_0, hc6_1, hc6_2, hc6_3, hc6_8, hc6_9, hc6_10, rfl, rfl, hc6_48, hc6_49, hc6_50, hc6_51, hc6_52, hc6_53, hc6_62, hc6_98, rfl, rfl, rfl, rfl, rfl, rfl, Ec98⟩
  rintro fc9 wc9 ⟨hc9_0, hc9_1, hc9_2, hc9_3, hc9_8, hc9_9, hc9_10, hc9_11, hc9_12, hc9_48, hc9_49, hc9_50, hc9_51, hc9_52, hc9_53, hc9_62, hc9_98, hc9_99, hc9_100, hc9_101, hc9_102, hc9_103, hc9_132, Ec132⟩
  refine WC.condF hc9_132 ?_
  refine WC.skip ?_
  refine WC.seq ?_
  refine WC.region ?_
  refine WL.move (v := I64 (x)) hc9_1 rfl ?_
  refine WL.move (v := I64 (y)) hc9_2 rfl ?_
  refine WL.call ca10 (rfl) rfl (do_spec 14 (x) (y) _ (by decide)) ?_
  rintro _ wd135 ⟨rfl, ed135⟩
  have E33 : Ext w wd135 := Mod.trans (Ec132) (ed135)
  refine WL.move (v := I64 (y)) hc9_2 rfl ?_
  refine WL.move (v := I64 (x)) hc9_1 rfl ?_
  refine WL.call ca10 (rfl) rfl (do_spec 14 (y) (x) _ (by decide)) ?_
  rintro _ wd138 ⟨rfl, ed138⟩
  have E34 : Ext w wd138 := Mod.trans (E33) (ed138)
  refine WL.bin rfl rfl rfl (BinR.add64) ?_
  refine WL.move (v := I64 (x)) hc9_1 rfl ?_
  refine WL.move (v := I64 (y)) hc9_2 rfl ?_
  refine WL.call ca10 (rfl) rfl (do_spec 16 (x) (y) _ (by decide)) ?_
  rintro _ wd142 ⟨rfl, ed142⟩
  have E35 : Ext w wd142 := Mod.trans (E34) (ed142)
  refine WL.bin rfl rfl rfl (BinR.add64) ?_
  refine WL.assign (v := I64 ((((opW 14 (x) (y)) + (opW 14 (y) (x))) + (opW 16 (x) (y))))) rfl rfl ?_
  refine WL.nil ?_
  refine WC.seq ?_
  refine WC.region ?_
  refine WL.move (v := I64 (x)) hc9_1 rfl ?_
  refine WL.move (v := I64 (y)) hc9_2 rfl ?_
  refine WL.call ca10 (rfl) rfl (do_spec 15 (x) (y) _ (by decide)) ?_
  rintro _ wd146 ⟨rfl, ed146⟩
  have E36 : Ext w wd146 := Mod.trans (E35) (ed146)
  refine WL.move (v := I64 (y)) hc9_2 rfl ?_
  refine WL.move (v := I64 (x)) hc9_1 rfl ?_
  refine WL.call ca10 (rfl) rfl (do_spec 15 (y) (x) _ (by decide)) ?_
  rintro _ wd149 ⟨rfl, ed149⟩
  have E37 : Ext w wd149 := Mod.trans (E36) (ed149)
  refine WL.bin rfl rfl rfl (BinR.add64) ?_
  refine WL.move (v := I64 (x)) hc9_1 rfl ?_
  refine WL.move (v := I64 (y)) hc9_2 rfl ?_
  refine WL.call ca10 (rfl) rfl (do_spec 16 (x) (y) _ (by decide)) ?_
  rintro _ wd153 ⟨rfl, ed153⟩
  have E38 : Ext w wd153 := Mod.trans (E37) (ed153)
  refine WL.bin rfl rfl rfl (BinR.add64) ?_
  refine WL.assign (v := I64 ((((opW 15 (x) (y)) + (opW 15 (y) (x))) + (opW 16 (x) (y))))) rfl rfl ?_
  refine WL.nil ?_
  refine WC.seq ?_
  refine WC.region ?_
  refine WL.move (v := I64 (x)) hc9_1 rfl ?_
  refine WL.move (v := I64 (y)) hc9_2 rfl ?_
  refine WL.call ca10 (rfl) rfl (do_spec 2 (x) (y) _ (by decide)) ?_
  rintro _ wd157 ⟨rfl, ed157⟩
  have E39 : Ext w wd157 := Mod.trans (E38) (ed157)
  refine WL.move (v := I64 (x)) hc9_1 rfl ?_
  refine WL.move (v := I64 (y)) hc9_2 rfl ?_
  refine WL.call ca10 (rfl) rfl (do_spec 2 (0#64) (y) _ (by decide)) ?_
  rintro _ wd160 ⟨rfl, ed160⟩
  have E40 : Ext w wd160 := Mod.trans (E39) (ed160)
  refine WL.call ca10 (rfl) rfl (do_spec 1 (x) ((opW 2 (0#64) (y))) _ (by decide)) ?_
  rintro _ wd161 ⟨rfl, ed161⟩
  have E41 : Ext w wd161 := Mod.trans (E40) (ed161)
  refine WL.bin (v := .bool (true)) rfl rfl rfl (BinR.toB (BinR.eql64) (eq_of (laws10 x y))) ?_
  refine WL.move (v := .bool (true)) rfl rfl ?_
  refine WL.guardT (rfl) ?_
  refine WL.move (v := I64 ((((opW 14 (x) (y)) + (opW 14 (y) (x))) + (opW 16 (x) (y))))) rfl rfl ?_
  refine WL.guardT (rfl) ?_
  refine WL.bin (v := .bool (true)) rfl (vy := I64 (1#64)) rfl rfl (BinR.toB (BinR.eql64) (eq_of (laws11 x y))) ?_
  refine WL.pick (b := true) rfl rfl rfl ?_
  refine WL.move (v := .bool (true)) rfl rfl ?_
  refine WL.guardT (rfl) ?_
  refine WL.move (v := I64 ((((opW 15 (x) (y)) + (opW 15 (y) (x))) + (opW 16 (x) (y))))) rfl rfl ?_
  refine WL.guardT (rfl) ?_
  refine WL.bin (v := .bool (true)) rfl (vy := I64 (1#64)) rfl rfl (BinR.toB (BinR.eql64) (eq_of (laws12 x y))) ?_
  refine WL.pick (b := true) rfl rfl rfl ?_
  refine WL.move (v := .bool (true)) rfl rfl ?_
  refine WL.guardT (rfl) ?_
  refine WL.call ca11 (rfl) rfl (works_spec _ (ht.ext (E41))) ?_
  rintro _ wd172 ⟨rfl, ed172⟩
  have E42 : Ext w wd172 := Mod.trans (E41) (ed172)
  refine WL.pick (b := true) rfl rfl rfl ?_
  refine WL.assign (v := .bool (true)) rfl rfl ?_
  refine WL.nil ?_
  refine WC.ret ?_
  exact ⟨_, Res.one (v := .bool (true)) rfl rfl, rfl, E42⟩
end Go.Proofs.W
