import Derived.Test.YtgjhmdnbpnpkaaaDoorUxSl
import Derived.Test.YtgjhmdnbpnpkaaaDoorWordLaws
import Derived.Test.YtgjhmdnbpnpkaaaDoorRows
import Derived.Test.YtgjhmdnbpnpkaaaDoorWtX4
set_option linter.unusedSimpArgs false
set_option linter.unusedVariables false
namespace Go.Proofs.W
open Go Go.Ux Go.Ux.Word Go.Proofs
theorem ca25 : callable Tryd.prog 25 = true := by kernel_rfl
theorem ca26 : callable Tryd.prog 26 = true := by kernel_rfl
theorem el23 : elemT Tryd.prog 23 = some 22 := by kernel_rfl
theorem sz22 : sizeT Tryd.prog 22 = some 1 := by kernel_rfl
theorem bls3_16  : ∀ w : World, (Instr.buildSlice 23 3 #[(0, .int .u8 (11)), (1, .int .u8 (12)), (2, .int .u8 (13))]).run Tryd.prog w = .ok (.slice (some ⟨w.heap.size, 0, none⟩) 3 3) (w.alloc (.cells #[.int .u8 (11), .int .u8 (12), .int .u8 (13)] 22)) := fun _ => by kernel_rfl
theorem ag22 : isAggT Tryd.prog 22 = some false := by kernel_rfl

theorem wordAll_nil (n : Nat) (ao : Option Addr) (cap : Nat) (w : World) (ht : Tab w) : CallsR Tryd.prog 8 #[.int .u8 (((n : Nat) : Int)), .slice ao 0 cap] w (fun v w' => v = .bool true ∧ Ext w w') := by
  refine callsR_of Tryd.func8 rfl rfl rfl ?_
  refine WC.seq ?_
  refine WC.region ?_
  refine WL.assign (v := .bool (false)) rfl rfl ?_
  refine WL.nil ?_
  refine WC.seq ?_
  refine WC.seq ?_
  refine WC.region ?_
  refine WL.move (v := .slice ao 0 cap) rfl rfl ?_
  refine WL.lenS el35 rfl rfl ?_
  refine WL.bin (v := .bool (false)) rfl rfl rfl (BinR.toB (BinR.gtr) (decide_eq_false (by omega))) ?_
  refine WL.nil ?_
  refine WC.condF rfl ?_
  refine WC.skip ?_
  refine WC.seq ?_
  refine WC.region ?_
  refine WL.move (v := .int .u8 (((n : Nat) : Int))) rfl rfl ?_
  refine WL.move (v := .slice ao 0 cap) rfl rfl ?_
  refine WL.call ca25 (rfl) rfl (all_nil n ao cap _) ?_
  rintro _ _ ⟨rfl, rfl⟩
  refine WL.move (v := .int .u8 (((n : Nat) : Int))) rfl rfl ?_
  refine WL.move (v := .slice ao 0 cap) rfl rfl ?_
  refine WL.call ca26 (rfl) rfl (rall_nil n ao cap _) ?_
  rintro _ _ ⟨rfl, rfl⟩
  refine WL.bin (v := .bool (true)) rfl rfl rfl (BinR.toB (BinR.eql64) (beq_self_eq_true _)) ?_
  refine WL.move (v := .bool (true)) rfl rfl ?_
  refine WL.guardT (rfl) ?_
  refine WL.call ca11 (rfl) rfl (works_spec _ (ht.ext (Mod.refl _ _))) ?_
  rintro _ wd17 ⟨rfl, ed17⟩
  have E1 : Ext w wd17 := Mod.trans (Mod.refl _ _) (ed17)
  refine WL.pick (b := true) rfl rfl rfl ?_
  refine WL.assign (v := .bool (true)) rfl rfl ?_
  refine WL.nil ?_
  refine WC.ret ?_
  exact ⟨_, Res.one (v := .bool (true)) rfl rfl, rfl, E1⟩

theorem wordAll_cons (n : Nat) (a : BitVec 64) (r : List (BitVec 64)) (b o cap : Nat) (w : World) (hn2 : n < 256) (hlen : r.length < 1000000) (hcap : r.length + 1 ≤ cap) (hc : Cells w b o ((a :: r).map I64)) (ht : Tab w) (h60 : r.length + 1 ≤ 60) : CallsR Tryd.prog 8 #[.int .u8 (((n : Nat) : Int)), .slice (some ⟨b, o, none⟩) (r.length + 1) cap] w (fun v w' => v = .bool true ∧ Ext w w') := by
  refine callsR_of Tryd.func8 rfl rfl rfl ?_
  refine WC.seq ?_
  refine WC.region ?_
  refine WL.assign (v := .bool (false)) rfl rfl ?_
  refine WL.nil ?_
  refine WC.seq ?_
  refine WC.seq ?_
  refine WC.region ?_
  refine WL.move (v := .slice (some ⟨b, o, none⟩) (r.length + 1) cap) rfl rfl ?_
  refine WL.lenS el35 rfl rfl ?_
  refine WL.bin (v := .bool (false)) rfl rfl rfl (BinR.toB (BinR.gtr) (decide_eq_false (by omega))) ?_
  refine WL.nil ?_
  refine WC.condF rfl ?_
  refine WC.skip ?_
  refine WC.seq ?_
  refine WC.region ?_
  refine WL.move (v := .int .u8 (((n : Nat) : Int))) rfl rfl ?_
  refine WL.move (v := .slice (some ⟨b, o, none⟩) (r.length + 1) cap) rfl rfl ?_
  refine WL.call ca25 (rfl) rfl (all_cons n a r b o cap _ hn2 hlen hcap hc) ?_
  rintro _ wd11 ⟨rfl, ed11⟩
  have E1 : Ext w wd11 := Mod.trans (Mod.refl _ _) (ed11)
  refine WL.move (v := .int .u8 (((n : Nat) : Int))) rfl rfl ?_
  refine WL.move (v := .slice (some ⟨b, o, none⟩) (r.length + 1) cap) rfl rfl ?_
  refine WL.call ca26 (rfl) rfl (rall_cons n a r b o cap _ hn2 hlen hcap (hc.mod (E1) (fun x => x))) ?_
  rintro _ _ ⟨rfl, rfl⟩
  refine WL.bin (v := .bool (true)) rfl rfl rfl (BinR.toB (BinR.eql64) (beq_self_eq_true _)) ?_
  refine WL.move (v := .bool (true)) rfl rfl ?_
  refine WL.guardT (rfl) ?_
  refine WL.call ca11 (rfl) rfl (works_spec _ (ht.ext (E1))) ?_
  rintro _ wd17 ⟨rfl, ed17⟩
  have E2 : Ext w wd17 := Mod.trans (E1) (ed17)
  refine WL.pick (b := true) rfl rfl rfl ?_
  refine WL.assign (v := .bool (true)) rfl rfl ?_
  refine WL.nil ?_
  refine WC.ret ?_
  exact ⟨_, Res.one (v := .bool (true)) rfl rfl, rfl, E2⟩

theorem wordAll_long (n : Nat) (ao : Option Addr) (m cap : Nat) (w : World) (ht : Tab w) (h60 : 60 < m) : CallsR Tryd.prog 8 #[.int .u8 (((n : Nat) : Int)), .slice ao m cap] w (fun v w' => v = .bool true ∧ Ext w w') := by
  refine callsR_of Tryd.func8 rfl rfl rfl ?_
  refine WC.seq ?_
  refine WC.region ?_
  refine WL.assign (v := .bool (false)) rfl rfl ?_
  refine WL.nil ?_
  refine WC.seq ?_
  refine WC.seq ?_
  refine WC.region ?_
  refine WL.move (v := .slice ao m cap) rfl rfl ?_
  refine WL.lenS el35 rfl rfl ?_
  refine WL.bin (v := .bool (true)) rfl rfl rfl (BinR.toB (BinR.gtr) (decide_eq_true (by omega))) ?_
  refine WL.nil ?_
  refine WC.condT rfl ?_
  refine WC.seq ?_
  refine WC.region ?_
  refine WL.call ca11 (rfl) rfl (works_spec _ (ht.ext (Mod.refl _ _))) ?_
  rintro _ wd8 ⟨rfl, ed8⟩
  have E1 : Ext w wd8 := Mod.trans (Mod.refl _ _) (ed8)
  refine WL.assign (v := .bool (true)) rfl rfl ?_
  refine WL.nil ?_
  refine WC.ret ?_
  exact ⟨_, Res.one (v := .bool (true)) rfl rfl, rfl, E1⟩

theorem wordMoves_spec (x y z : BitVec 64) (w : World) (ht : Tab w) : CallsR Tryd.prog 3 #[I64 (x), I64 (y), I64 (z)] w (fun v w' => v = .bool true ∧ Ext w w') := by
  refine callsR_of Tryd.func3 rfl rfl rfl ?_
  refine WC.seq ?_
  refine WC.region ?_
  refine WL.assign (v := .bool (false)) rfl rfl ?_
  refine WL.nil ?_
  refine WC.seq ?_
  refine WC.region ?_
  refine WL.move (v := I64 (y)) rfl rfl ?_
  refine WL.bin rfl (vy := I64 (63#64)) rfl rfl (BinR.and64) ?_
  refine WL.move (v := I64 (z)) rfl rfl ?_
  refine WL.bin rfl (vy := I64 (63#64)) rfl rfl (BinR.and64) ?_
  refine WL.assign (v := I64 ((y &&& 63#64))) rfl rfl ?_
  refine WL.assign (v := I64 ((z &&& 63#64))) rfl rfl ?_
  refine WL.nil ?_
  refine WC.seq ?_
  refine WC.seq ?_
  refine WC.region ?_
  refine WL.buildSlice (vs := [(0, .int .u8 (11)), (1, .int .u8 (12)), (2, .int .u8 (13))]) rfl (bls3_16) rfl ?_
  intro b16 w16 n16
  have E1 : Ext w w16 := Mod.trans (Mod.refl _ _) (n16.ext)
  refine WL.lenS el23 rfl rfl ?_
  refine WL.move (v := IN (0)) rfl rfl ?_
  refine WL.nil ?_
  refine WC.block ?_
  refine WC.loop (fun k f w_ => ∃ j, (k + j = 3) ∧ f 0 = I64 (x) ∧ f 1 = I64 (y) ∧ f 2 = I64 (z) ∧ f 7 = I64 ((y &&& 63#64)) ∧ f 8 = I64 ((z &&& 63#64)) ∧ f 12 = I64 (y) ∧ f 13 = I64 ((y &&& 63#64)) ∧ f 14 = I64 (z) ∧ f 15 = I64 ((z &&& 63#64)) ∧ f 16 = .slice (some ⟨b16, 0, none⟩) 3 3 ∧ f 17 = IN (3) ∧ f 18 = IN (j) ∧ (Ext w w_) ∧ (∀ i, i < 3 → w_.cell? ⟨b16, i, none⟩ = some (.int .u8 ((opl i : Nat) : Int)))) (3) ?_ ?_
  · exact ⟨(0), by omega, rfl, rfl, rfl, rfl, rfl, rfl, rfl, rfl, rfl, rfl, rfl, rfl, E1, fun i hi => by match i, hi with | 0, _ => exact n16.blk.cell rfl | 1, _ => exact n16.blk.cell rfl | 2, _ => exact n16.blk.cell rfl⟩
  rintro k f1 wr ⟨j, hk, h0_1, h1_1, h2_1, h7_1, h8_1, h12_1, h13_1, h14_1, h15_1, h16_1, h17_1, h18_1, hE, hB⟩
  refine WC.seq ?_
  refine WC.region ?_
  refine WL.bin h18_1 h17_1 rfl (BinR.lss) ?_
  refine WL.nil ?_
  refine WC.seq ?_
  refine WC.cond rfl (fun hc19 => ?_) (fun hc19 => ?_)
  · have hj : j < 3 := by have := of_decide_eq_true hc19; omega
    refine WC.skip ?_
    refine WC.seq ?_
    refine WC.block ?_
    refine WC.seq ?_
    refine WC.region ?_
    refine WL.indexAddr1 (i := j) (b := b16) (o := 0) el23 sz22 h16_1 h18_1 (by omega) rfl ?_
    rw [Nat.zero_add]
    refine WL.load1 rfl ag22 (hB j hj) rfl ?_
    refine WL.assign (v := .int .u8 (((opl j : Nat) : Int))) rfl rfl ?_
    refine WL.nil ?_
    refine WC.seq ?_
    refine WC.region ?_
    refine WL.move (v := I64 ((y &&& 63#64))) h7_1 rfl ?_
    refine WL.move (v := I64 ((z &&& 63#64))) h8_1 rfl ?_
    refine WL.bin rfl rfl rfl (BinR.add64) ?_
    refine WL.bin rfl (vy := I64 (64#64)) rfl rfl (BinR.lss64) ?_
    refine WL.move (v := .bool (BitVec.slt (((y &&& 63#64) + (z &&& 63#64))) (64#64))) rfl rfl ?_
    rcases Bool.eq_false_or_eq_true (BitVec.slt (((y &&& 63#64) + (z &&& 63#64))) (64#64)) with hg26 | hg26
    · refine WL.guardT (yf_bool rfl rfl hg26) ?_
      refine WL.move (v := .int .u8 (((opl j : Nat) : Int))) rfl rfl ?_
      refine WL.guardT (yf_bool rfl rfl hg26) ?_
      refine WL.move (v := .int .u8 (((opl j : Nat) : Int))) rfl rfl ?_
      refine WL.guardT (yf_bool rfl rfl hg26) ?_
      refine WL.move (v := I64 (x)) h0_1 rfl ?_
      refine WL.guardT (yf_bool rfl rfl hg26) ?_
      refine WL.move (v := I64 ((y &&& 63#64))) h7_1 rfl ?_
      refine WL.guardT (yf_bool rfl rfl hg26) ?_
      refine WL.call ca10 (rfl) rfl (do_spec (opl j) (x) ((y &&& 63#64)) _ (opl_lt j hj)) ?_
      rintro _ wd31 ⟨rfl, ed31⟩
      have R2 : Ext wr wd31 := Mod.trans (Mod.refl _ _) (ed31)
      have E3 : Ext w wd31 := Mod.trans (hE) (ed31)
      refine WL.guardT (yf_bool rfl rfl hg26) ?_
      refine WL.move (v := I64 ((z &&& 63#64))) h8_1 rfl ?_
      refine WL.guardT (yf_bool rfl rfl hg26) ?_
      refine WL.call ca10 (rfl) rfl (do_spec (opl j) ((opW (opl j) (x) ((y &&& 63#64)))) ((z &&& 63#64)) _ (opl_lt j hj)) ?_
      rintro _ wd33 ⟨rfl, ed33⟩
      have R4 : Ext wr wd33 := Mod.trans (R2) (ed33)
      have E5 : Ext w wd33 := Mod.trans (E3) (ed33)
      refine WL.guardT (yf_bool rfl rfl hg26) ?_
      refine WL.move (v := .int .u8 (((opl j : Nat) : Int))) rfl rfl ?_
      refine WL.guardT (yf_bool rfl rfl hg26) ?_
      refine WL.move (v := I64 (x)) h0_1 rfl ?_
      refine WL.guardT (yf_bool rfl rfl hg26) ?_
      refine WL.move (v := I64 ((y &&& 63#64))) h7_1 rfl ?_
      refine WL.guardT (yf_bool rfl rfl hg26) ?_
      refine WL.move (v := I64 ((z &&& 63#64))) h8_1 rfl ?_
      refine WL.guardT (yf_bool rfl rfl hg26) ?_
      refine WL.bin rfl rfl rfl (BinR.add64) ?_
      refine WL.guardT (yf_bool rfl rfl hg26) ?_
      refine WL.call ca10 (rfl) rfl (do_spec (opl j) (x) (((y &&& 63#64) + (z &&& 63#64))) _ (opl_lt j hj)) ?_
      rintro _ wd39 ⟨rfl, ed39⟩
      have R6 : Ext wr wd39 := Mod.trans (R4) (ed39)
      have E7 : Ext w wd39 := Mod.trans (E5) (ed39)
      refine WL.guardT (yf_bool rfl rfl hg26) ?_
      refine WL.bin (v := .bool (false)) rfl rfl rfl (BinR.toB (BinR.neq64) (by rw [moves1 j hj x y z hg26]; exact bne_self_eq_false _)) ?_
      refine WL.pick (b := true) (congrArg Value.bool hg26) rfl rfl ?_
      refine WL.move (v := .bool (false)) rfl rfl ?_
      refine WL.guardT (rfl) ?_
      refine WL.move (v := .int .u8 (((opl j : Nat) : Int))) rfl rfl ?_
      refine WL.guardT (rfl) ?_
      refine WL.move (v := I64 (x)) h0_1 rfl ?_
      refine WL.guardT (rfl) ?_
      refine WL.move (v := I64 (y)) h1_1 rfl ?_
      refine WL.guardT (rfl) ?_
      refine WL.call ca10 (rfl) rfl (do_spec (opl j) (x) (y) _ (opl_lt j hj)) ?_
      rintro _ wd46 ⟨rfl, ed46⟩
      have R8 : Ext wr wd46 := Mod.trans (R6) (ed46)
      have E9 : Ext w wd46 := Mod.trans (E7) (ed46)
      refine WL.guardT (rfl) ?_
      refine WL.move (v := .int .u8 (((opl j : Nat) : Int))) rfl rfl ?_
      refine WL.guardT (rfl) ?_
      refine WL.move (v := I64 (x)) h0_1 rfl ?_
      refine WL.guardT (rfl) ?_
      refine WL.move (v := I64 ((y &&& 63#64))) h7_1 rfl ?_
      refine WL.guardT (rfl) ?_
      refine WL.call ca10 (rfl) rfl (do_spec (opl j) (x) ((y &&& 63#64)) _ (opl_lt j hj)) ?_
      rintro _ wd50 ⟨rfl, ed50⟩
      have R10 : Ext wr wd50 := Mod.trans (R8) (ed50)
      have E11 : Ext w wd50 := Mod.trans (E9) (ed50)
      refine WL.guardT (rfl) ?_
      refine WL.bin (v := .bool (false)) rfl rfl rfl (BinR.toB (BinR.neq64) (by rw [moves2 j hj x y]; exact bne_self_eq_false _)) ?_
      refine WL.pick (b := false) rfl rfl rfl ?_
      refine WL.nil ?_
      refine WC.condF rfl ?_
      refine WC.skip ?_
      refine WC.region ?_
      refine WL.bin h18_1 rfl rfl (BinR.succN (by omega)) ?_
      refine WL.move (v := IN (j + 1)) rfl rfl ?_
      refine WL.nil ?_
      exact ⟨k - 1, by omega, (j + 1), by omega, h0_1, h1_1, h2_1, h7_1, h8_1, h12_1, h13_1, h14_1, h15_1, h16_1, h17_1, rfl, E11, fun i hi => (R10).cell (hB i hi) (fun x => x)⟩
    · refine WL.guardF (b' := false) (yf_bool rfl rfl hg26) rfl rfl ?_
      refine WL.guardF (b' := false) (yf_bool rfl rfl hg26) rfl rfl ?_
      refine WL.guardF (b' := false) (yf_bool rfl rfl hg26) rfl rfl ?_
      refine WL.guardF (b' := false) (yf_bool rfl rfl hg26) rfl rfl ?_
      refine WL.guardF (b' := false) (yf_bool rfl rfl hg26) rfl rfl ?_
      refine WL.guardF (b' := false) (yf_bool rfl rfl hg26) rfl rfl ?_
      refine WL.guardF (b' := false) (yf_bool rfl rfl hg26) rfl rfl ?_
      refine WL.guardF (b' := false) (yf_bool rfl rfl hg26) rfl rfl ?_
      refine WL.guardF (b' := false) (yf_bool rfl rfl hg26) rfl rfl ?_
      refine WL.guardF (b' := false) (yf_bool rfl rfl hg26) rfl rfl ?_
      refine WL.guardF (b' := false) (yf_bool rfl rfl hg26) rfl rfl ?_
      refine WL.guardF (b' := false) (yf_bool rfl rfl hg26) rfl rfl ?_
      refine WL.guardF (b' := false) (yf_bool rfl rfl hg26) rfl rfl ?_
      refine WL.guardF (b' := false) (yf_bool rfl rfl hg26) rfl rfl ?_
      refine WL.pick (b := false) (congrArg Value.bool hg26) rfl rfl ?_
      refine WL.move (v := .bool (false)) rfl rfl ?_
      refine WL.guardT (rfl) ?_
      refine WL.move (v := .int .u8 (((opl j : Nat) : Int))) rfl rfl ?_
      refine WL.guardT (rfl) ?_
      refine WL.move (v := I64 (x)) h0_1 rfl ?_
      refine WL.guardT (rfl) ?_
      refine WL.move (v := I64 (y)) h1_1 rfl ?_
      refine WL.guardT (rfl) ?_
      refine WL.call ca10 (rfl) rfl (do_spec (opl j) (x) (y) _ (opl_lt j hj)) ?_
      rintro _ wd46 ⟨rfl, ed46⟩
      have R12 : Ext wr wd46 := Mod.trans (Mod.refl _ _) (ed46)
      have E13 : Ext w wd46 := Mod.trans (hE) (ed46)
      refine WL.guardT (rfl) ?_
      refine WL.move (v := .int .u8 (((opl j : Nat) : Int))) rfl rfl ?_
      refine WL.guardT (rfl) ?_
      refine WL.move (v := I64 (x)) h0_1 rfl ?_
      refine WL.guardT (rfl) ?_
      refine WL.move (v := I64 ((y &&& 63#64))) h7_1 rfl ?_
      refine WL.guardT (rfl) ?_
      refine WL.call ca10 (rfl) rfl (do_spec (opl j) (x) ((y &&& 63#64)) _ (opl_lt j hj)) ?_
      rintro _ wd50 ⟨rfl, ed50⟩
      have R14 : Ext wr wd50 := Mod.trans (R12) (ed50)
      have E15 : Ext w wd50 := Mod.trans (E13) (ed50)
      refine WL.guardT (rfl) ?_
      refine WL.bin (v := .bool (false)) rfl rfl rfl (BinR.toB (BinR.neq64) (by rw [moves2 j hj x y]; exact bne_self_eq_false _)) ?_
      refine WL.pick (b := false) rfl rfl rfl ?_
      refine WL.nil ?_
      refine WC.condF rfl ?_
      refine WC.skip ?_
      refine WC.region ?_
      refine WL.bin h18_1 rfl rfl (BinR.succN (by omega)) ?_
      refine WL.move (v := IN (j + 1)) rfl rfl ?_
      refine WL.nil ?_
      exact ⟨k - 1, by omega, (j + 1), by omega, h0_1, h1_1, h2_1, h7_1, h8_1, h12_1, h13_1, h14_1, h15_1, h16_1, h17_1, rfl, E15, fun i hi => (R14).cell (hB i hi) (fun x => x)⟩
  · refine WC.exit ?_
    refine WC.seq ?_
    refine WC.region ?_
    refine WL.move (v := I64 ((y &&& 63#64))) h7_1 rfl ?_
    refine WL.call ca10 (argsL3 rfl (cI64 _ (by decide)) rfl) rfl (do_spec 12 (BitVec.ofInt 64 (-1)) ((y &&& 63#64)) _ (by decide)) ?_
    rintro _ wd55 ⟨rfl, ed55⟩
    have R16 : Ext wr wd55 := Mod.trans (Mod.refl _ _) (ed55)
    have E17 : Ext w wd55 := Mod.trans (hE) (ed55)
    refine WL.assign (v := I64 ((opW 12 (BitVec.ofInt 64 (-1)) ((y &&& 63#64))))) rfl rfl ?_
    refine WL.nil ?_
    refine WC.seq ?_
    refine WC.seq ?_
    refine WC.region ?_
    refine WL.move (v := I64 (x)) h0_1 rfl ?_
    refine WL.move (v := I64 ((y &&& 63#64))) h7_1 rfl ?_
    refine WL.call ca10 (rfl) rfl (do_spec 11 (x) ((y &&& 63#64)) _ (by decide)) ?_
    rintro _ wd58 ⟨rfl, ed58⟩
    have R18 : Ext wr wd58 := Mod.trans (R16) (ed58)
    have E19 : Ext w wd58 := Mod.trans (E17) (ed58)
    refine WL.move (v := I64 ((y &&& 63#64))) h7_1 rfl ?_
    refine WL.call ca10 (rfl) rfl (do_spec 12 ((opW 11 (x) ((y &&& 63#64)))) ((y &&& 63#64)) _ (by decide)) ?_
    rintro _ wd60 ⟨rfl, ed60⟩
    have R20 : Ext wr wd60 := Mod.trans (R18) (ed60)
    have E21 : Ext w wd60 := Mod.trans (E19) (ed60)
    refine WL.move (v := I64 (x)) h0_1 rfl ?_
    refine WL.move (v := I64 ((opW 12 (BitVec.ofInt 64 (-1)) ((y &&& 63#64))))) rfl rfl ?_
    refine WL.call ca10 (rfl) rfl (do_spec 8 (x) ((opW 12 (BitVec.ofInt 64 (-1)) ((y &&& 63#64)))) _ (by decide)) ?_
    rintro _ wd63 ⟨rfl, ed63⟩
    have R22 : Ext wr wd63 := Mod.trans (R20) (ed63)
    have E23 : Ext w wd63 := Mod.trans (E21) (ed63)
    refine WL.bin (v := .bool (false)) rfl rfl rfl (BinR.toB (BinR.neq64) (by rw [show BitVec.ofInt 64 (-1) = minusOne from rfl, moves3]; exact bne_self_eq_false _)) ?_
    refine WL.nil ?_
    refine WC.condF rfl ?_
    refine WC.skip ?_
    refine WC.seq ?_
    refine WC.region ?_
    refine WL.move (v := I64 (x)) h0_1 rfl ?_
    refine WL.bin rfl (vy := I64 (0#64)) rfl rfl (BinR.lss64) ?_
    refine WL.move (v := .bool (BitVec.slt (x) (0#64))) rfl rfl ?_
    rcases Bool.eq_false_or_eq_true (BitVec.slt (x) (0#64)) with hg67 | hg67
    · refine WL.guardF (b' := true) (yf_bool rfl rfl hg67) rfl rfl ?_
      refine WL.guardF (b' := true) (yf_bool rfl rfl hg67) rfl rfl ?_
      refine WL.guardF (b' := true) (yf_bool rfl rfl hg67) rfl rfl ?_
      refine WL.guardF (b' := true) (yf_bool rfl rfl hg67) rfl rfl ?_
      refine WL.guardF (b' := true) (yf_bool rfl rfl hg67) rfl rfl ?_
      refine WL.guardF (b' := true) (yf_bool rfl rfl hg67) rfl rfl ?_
      refine WL.guardF (b' := true) (yf_bool rfl rfl hg67) rfl rfl ?_
      refine WL.pick (b := true) (congrArg Value.bool hg67) rfl rfl ?_
      refine WL.move (v := .bool (true)) rfl rfl ?_
      refine WL.guardT (rfl) ?_
      refine WL.call ca11 (rfl) rfl (works_spec _ (ht.ext (E23))) ?_
      rintro _ wd77 ⟨rfl, ed77⟩
      have R24 : Ext wr wd77 := Mod.trans (R22) (ed77)
      have E25 : Ext w wd77 := Mod.trans (E23) (ed77)
      refine WL.pick (b := true) rfl rfl rfl ?_
      refine WL.assign (v := .bool (true)) rfl rfl ?_
      refine WL.nil ?_
      refine WC.ret ?_
      exact ⟨_, Res.one (v := .bool (true)) rfl rfl, rfl, E25⟩
    · refine WL.guardT (yf_bool rfl rfl hg67) ?_
      refine WL.move (v := I64 (x)) h0_1 rfl ?_
      refine WL.guardT (yf_bool rfl rfl hg67) ?_
      refine WL.move (v := I64 ((y &&& 63#64))) h7_1 rfl ?_
      refine WL.guardT (yf_bool rfl rfl hg67) ?_
      refine WL.call ca10 (rfl) rfl (do_spec 13 (x) ((y &&& 63#64)) _ (by decide)) ?_
      rintro _ wd70 ⟨rfl, ed70⟩
      have R26 : Ext wr wd70 := Mod.trans (R22) (ed70)
      have E27 : Ext w wd70 := Mod.trans (E23) (ed70)
      refine WL.guardT (yf_bool rfl rfl hg67) ?_
      refine WL.move (v := I64 (x)) h0_1 rfl ?_
      refine WL.guardT (yf_bool rfl rfl hg67) ?_
      refine WL.move (v := I64 ((y &&& 63#64))) h7_1 rfl ?_
      refine WL.guardT (yf_bool rfl rfl hg67) ?_
      refine WL.call ca10 (rfl) rfl (do_spec 12 (x) ((y &&& 63#64)) _ (by decide)) ?_
      rintro _ wd73 ⟨rfl, ed73⟩
      have R28 : Ext wr wd73 := Mod.trans (R26) (ed73)
      have E29 : Ext w wd73 := Mod.trans (E27) (ed73)
      refine WL.guardT (yf_bool rfl rfl hg67) ?_
      refine WL.bin (v := .bool (true)) rfl rfl rfl (BinR.toB (BinR.eql64) (by rw [moves4 x y hg67]; exact beq_self_eq_true _)) ?_
      refine WL.pick (b := false) (congrArg Value.bool hg67) rfl rfl ?_
      refine WL.move (v := .bool (true)) rfl rfl ?_
      refine WL.guardT (rfl) ?_
      refine WL.call ca11 (rfl) rfl (works_spec _ (ht.ext (E29))) ?_
      rintro _ wd77 ⟨rfl, ed77⟩
      have R30 : Ext wr wd77 := Mod.trans (R28) (ed77)
      have E31 : Ext w wd77 := Mod.trans (E29) (ed77)
      refine WL.pick (b := true) rfl rfl rfl ?_
      refine WL.assign (v := .bool (true)) rfl rfl ?_
      refine WL.nil ?_
      refine WC.ret ?_
      exact ⟨_, Res.one (v := .bool (true)) rfl rfl, rfl, E31⟩
end Go.Proofs.W
