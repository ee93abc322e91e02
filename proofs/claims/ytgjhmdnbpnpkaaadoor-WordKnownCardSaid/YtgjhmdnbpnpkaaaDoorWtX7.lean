import Derived.Test.YtgjhmdnbpnpkaaaDoorUxMore
import Derived.Test.YtgjhmdnbpnpkaaaDoorWordLaws
import Derived.Test.YtgjhmdnbpnpkaaaDoorRows
import Derived.Test.YtgjhmdnbpnpkaaaDoorWtX6
set_option linter.unusedSimpArgs false
set_option linter.unusedVariables false
namespace Go.Proofs.W
open Go Go.Ux Go.Ux.Word Go.Proofs
theorem bls9_5  : ∀ w : World, (Instr.buildSlice 35 19 #[(0, I64 (0#64)), (1, I64 (1#64)), (2, I64 (BitVec.ofInt 64 (-1))), (3, I64 (2#64)), (4, I64 (3#64)), (5, I64 (BitVec.ofInt 64 (-2))), (6, I64 (7#64)), (7, I64 (63#64)), (8, I64 (64#64)), (9, I64 (65#64)), (10, I64 (255#64)), (11, I64 (2147483648#64)), (12, I64 (BitVec.ofInt 64 (-2147483648))), (13, I64 (2147483647#64)), (14, I64 (4294967296#64)), (15, I64 (4611686018427387904#64)), (16, I64 (9223372036854775807#64)), (17, I64 (BitVec.ofInt 64 (-9223372036854775808))), (18, I64 (BitVec.ofInt 64 (-9223372036854775807)))]).run Tryd.prog w = .ok (.slice (some ⟨w.heap.size, 0, none⟩) 19 19) (w.alloc (.cells #[I64 (0#64), I64 (1#64), I64 (BitVec.ofInt 64 (-1)), I64 (2#64), I64 (3#64), I64 (BitVec.ofInt 64 (-2)), I64 (7#64), I64 (63#64), I64 (64#64), I64 (65#64), I64 (255#64), I64 (2147483648#64), I64 (BitVec.ofInt 64 (-2147483648)), I64 (2147483647#64), I64 (4294967296#64), I64 (4611686018427387904#64), I64 (9223372036854775807#64), I64 (BitVec.ofInt 64 (-9223372036854775808)), I64 (BitVec.ofInt 64 (-9223372036854775807))] 2)) := fun _ => by kernel_rfl
theorem ca5 : callable Tryd.prog 5 = true := by kernel_rfl
theorem ca7 : callable Tryd.prog 7 = true := by kernel_rfl
theorem ca6 : callable Tryd.prog 6 = true := by kernel_rfl
theorem ca8 : callable Tryd.prog 8 = true := by kernel_rfl

theorem mixed : Tryd.prog.follows .mixedOrders = true := by kernel_rfl
def nums : List Int := [0, 1, -1, 2, 3, -2, 7, 63, 64, 65, 255, 2147483648, -2147483648, 2147483647, 4294967296, 4611686018427387904, 9223372036854775807, -9223372036854775808, -9223372036854775807]
def num (j : Nat) : BitVec 64 := BitVec.ofInt 64 (nums.getD j 0)
def numR : List (BitVec 64) := [num 1, num 2, num 3, num 4, num 5, num 6, num 7, num 8, num 9, num 10, num 11, num 12, num 13, num 14, num 15, num 16, num 17, num 18]
theorem num_cells : (#[IN (0), IN (1), .int .i64 (-1), IN (2), IN (3), .int .i64 (-2), IN (7), IN (63), IN (64), IN (65), IN (255), IN (2147483648), .int .i64 (-2147483648), IN (2147483647), IN (4294967296), IN (4611686018427387904), IN (9223372036854775807), .int .i64 (-9223372036854775808), .int .i64 (-9223372036854775807)] : Array Value).toList = (num 0 :: numR).map I64 := by
  simp only [numR, List.map, List.map_cons, List.map_nil]
  rw [show I64 (num 0) = .int .i64 0 from (cI64 _ (by decide)).symm]
  rw [show I64 (num 1) = .int .i64 1 from (cI64 _ (by decide)).symm]
  rw [show I64 (num 2) = .int .i64 (-1) from (cI64 _ (by decide)).symm]
  rw [show I64 (num 3) = .int .i64 2 from (cI64 _ (by decide)).symm]
  rw [show I64 (num 4) = .int .i64 3 from (cI64 _ (by decide)).symm]
  rw [show I64 (num 5) = .int .i64 (-2) from (cI64 _ (by decide)).symm]
  rw [show I64 (num 6) = .int .i64 7 from (cI64 _ (by decide)).symm]
  rw [show I64 (num 7) = .int .i64 63 from (cI64 _ (by decide)).symm]
  rw [show I64 (num 8) = .int .i64 64 from (cI64 _ (by decide)).symm]
  rw [show I64 (num 9) = .int .i64 65 from (cI64 _ (by decide)).symm]
  rw [show I64 (num 10) = .int .i64 255 from (cI64 _ (by decide)).symm]
  rw [show I64 (num 11) = .int .i64 2147483648 from (cI64 _ (by decide)).symm]
  rw [show I64 (num 12) = .int .i64 (-2147483648) from (cI64 _ (by decide)).symm]
  rw [show I64 (num 13) = .int .i64 2147483647 from (cI64 _ (by decide)).symm]
  rw [show I64 (num 14) = .int .i64 4294967296 from (cI64 _ (by decide)).symm]
  rw [show I64 (num 15) = .int .i64 4611686018427387904 from (cI64 _ (by decide)).symm]
  rw [show I64 (num 16) = .int .i64 9223372036854775807 from (cI64 _ (by decide)).symm]
  rw [show I64 (num 17) = .int .i64 (-9223372036854775808) from (cI64 _ (by decide)).symm]
  rw [show I64 (num 18) = .int .i64 (-9223372036854775807) from (cI64 _ (by decide)).symm]
  rfl
theorem num_blk {w : World} {b : Nat} {t : TypeId} (h : Blk w b #[IN (0), IN (1), .int .i64 (-1), IN (2), IN (3), .int .i64 (-2), IN (7), IN (63), IN (64), IN (65), IN (255), IN (2147483648), .int .i64 (-2147483648), IN (2147483647), IN (4294967296), IN (4611686018427387904), IN (9223372036854775807), .int .i64 (-9223372036854775808), .int .i64 (-9223372036854775807)] t) : Cells w b 0 ((num 0 :: numR).map I64) := by
  have := h.cells
  rwa [num_cells] at this
theorem num_at (j : Nat) (h : j < 19) : ((num 0 :: numR).map I64)[j]? = some (I64 (num j)) := by
  have : ∀ i : Fin 19, (num 0 :: numR)[i.val]? = some (num i.val) := by decide
  rw [List.getElem?_map, this ⟨j, h⟩]; rfl
theorem num_cell {w w' : World} {b : Nat} (h : Cells w b 0 ((num 0 :: numR).map I64)) (m : Ext w w') (j : Nat) (hj : j < 19) : w'.cell? ⟨b, j, none⟩ = some (I64 (num j)) := by
  have := h j _ (num_at j hj)
  rw [Nat.zero_add] at this
  exact m.cell this fun x => x
theorem num_one {w : World} {b : Nat} (h : Cells w b 0 ((num 0 :: numR).map I64)) : Cells w b 0 ([num 0].map I64) := by
  intro j u hj
  match j, hj with
  | 0, hj => exact h 0 u hj

theorem wordKnown_spec (w : World) (ht : Tab w) : CallsR Tryd.prog 9 #[] w (fun v w' => v = .bool true ∧ Ext w w') := by
  refine callsR_of Tryd.func9 rfl rfl rfl ?_
  refine WC.seq ?_
  refine WC.region ?_
  refine WL.assign (v := .bool (false)) rfl rfl ?_
  refine WL.nil ?_
  refine WC.seq ?_
  refine WC.region ?_
  refine WL.buildSlice (vs := [(0, I64 (0#64)), (1, I64 (1#64)), (2, I64 (BitVec.ofInt 64 (-1))), (3, I64 (2#64)), (4, I64 (3#64)), (5, I64 (BitVec.ofInt 64 (-2))), (6, I64 (7#64)), (7, I64 (63#64)), (8, I64 (64#64)), (9, I64 (65#64)), (10, I64 (255#64)), (11, I64 (2147483648#64)), (12, I64 (BitVec.ofInt 64 (-2147483648))), (13, I64 (2147483647#64)), (14, I64 (4294967296#64)), (15, I64 (4611686018427387904#64)), (16, I64 (9223372036854775807#64)), (17, I64 (BitVec.ofInt 64 (-9223372036854775808))), (18, I64 (BitVec.ofInt 64 (-9223372036854775807)))]) rfl (bls9_5) rfl ?_
  intro b5 w5 n5
  have E1 : Ext w w5 := Mod.trans (Mod.refl _ _) (n5.ext)
  refine WL.assign (v := .slice (some ⟨b5, 0, none⟩) 19 19) rfl rfl ?_
  refine WL.nil ?_
  refine WC.seq ?_
  refine WC.seq ?_
  refine WC.region ?_
  refine WL.assign (v := .int .u8 (0)) rfl rfl ?_
  refine WL.nil ?_
  refine WC.block ?_
  refine WC.loop (fun k f w_ => ∃ n, (k + n = 19) ∧ f 1 = .slice (some ⟨b5, 0, none⟩) 19 19 ∧ f 2 = .int .u8 (((n : Nat) : Int)) ∧ f 5 = .slice (some ⟨b5, 0, none⟩) 19 19 ∧ (Ext w w_) ∧ (Cells w_ b5 0 ((num 0 :: numR).map I64))) (19) ?_ ?_
  · exact ⟨(0), by omega, rfl, rfl, rfl, E1, num_blk (n5.blk)⟩
  rintro k1 f1 wr1 ⟨n, hk1, h1_1, h2_1, h5_1, hE1, hC1⟩
  refine WC.seq ?_
  refine WC.seq ?_
  refine WC.region ?_
  refine WL.move (v := .int .u8 (((n : Nat) : Int))) h2_1 rfl ?_
  refine WL.bin rfl rfl rfl (BinR.lss) ?_
  refine WL.nil ?_
  refine WC.cond rfl (fun hc7 => ?_) (fun hc7 => ?_)
  · have hn : n < 19 := by have := of_decide_eq_true hc7; omega
    refine WC.skip ?_
    refine WC.seq ?_
    refine WC.block ?_
    refine WC.seq ?_
    refine WC.seq ?_
    refine WC.region ?_
    refine WL.assign (v := IN (0)) rfl rfl ?_
    refine WL.nil ?_
    refine WC.block ?_
    refine WC.loop (fun k f w_ => ∃ i, (k + i = 19) ∧ f 1 = .slice (some ⟨b5, 0, none⟩) 19 19 ∧ f 2 = .int .u8 (((n : Nat) : Int)) ∧ f 3 = IN (i) ∧ f 5 = .slice (some ⟨b5, 0, none⟩) 19 19 ∧ f 6 = .int .u8 (((n : Nat) : Int)) ∧ f 7 = .bool (decide ((((n : Nat) : Int) : Int) < (19 : Int))) ∧ (Ext w w_) ∧ (Cells w_ b5 0 ((num 0 :: numR).map I64))) (19) ?_ ?_
    · exact ⟨(0), by omega, h1_1, h2_1, rfl, h5_1, rfl, rfl, hE1, hC1⟩
    rintro k2 f2 wr2 ⟨i, hk2, h1_2, h2_2, h3_2, h5_2, h6_2, h7_2, hE2, hC2⟩
    refine WC.seq ?_
    refine WC.seq ?_
    refine WC.region ?_
    refine WL.move (v := IN (i)) h3_2 rfl ?_
    refine WL.move (v := .slice (some ⟨b5, 0, none⟩) 19 19) h1_2 rfl ?_
    refine WL.lenS el35 rfl rfl ?_
    refine WL.bin rfl rfl rfl (BinR.lss) ?_
    refine WL.nil ?_
    refine WC.cond rfl (fun hc13 => ?_) (fun hc13 => ?_)
    · have hi : i < 19 := by have := of_decide_eq_true hc13; omega
      refine WC.skip ?_
      refine WC.seq ?_
      refine WC.block ?_
      refine WC.seq ?_
      refine WC.region ?_
      refine WL.assign (v := IN (0)) rfl rfl ?_
      refine WL.nil ?_
      refine WC.block ?_
      refine WC.loop (fun k f w_ => ∃ j, (k + j = 19) ∧ f 1 = .slice (some ⟨b5, 0, none⟩) 19 19 ∧ f 2 = .int .u8 (((n : Nat) : Int)) ∧ f 3 = IN (i) ∧ f 4 = IN (j) ∧ f 5 = .slice (some ⟨b5, 0, none⟩) 19 19 ∧ f 6 = .int .u8 (((n : Nat) : Int)) ∧ f 7 = .bool (decide ((((n : Nat) : Int) : Int) < (19 : Int))) ∧ f 10 = IN (i) ∧ f 11 = .slice (some ⟨b5, 0, none⟩) 19 19 ∧ f 12 = IN (19) ∧ f 13 = .bool (decide (((i : Nat) : Int) < ((19 : Nat) : Int))) ∧ (Ext w w_) ∧ (Cells w_ b5 0 ((num 0 :: numR).map I64))) (19) ?_ ?_
      · exact ⟨(0), by omega, h1_2, h2_2, h3_2, rfl, h5_2, h6_2, h7_2, rfl, rfl, rfl, rfl, hE2, hC2⟩
      rintro k3 f3 wr3 ⟨j, hk3, h1_3, h2_3, h3_3, h4_3, h5_3, h6_3, h7_3, h10_3, h11_3, h12_3, h13_3, hE3, hC3⟩
      refine WC.seq ?_
      refine WC.seq ?_
      refine WC.region ?_
      refine WL.move (v := IN (j)) h4_3 rfl ?_
      refine WL.move (v := .slice (some ⟨b5, 0, none⟩) 19 19) h1_3 rfl ?_
      refine WL.lenS el35 rfl rfl ?_
      refine WL.bin rfl rfl rfl (BinR.lss) ?_
      refine WL.nil ?_
      refine WC.cond rfl (fun hc19 => ?_) (fun hc19 => ?_)
      · have hj : j < 19 := by have := of_decide_eq_true hc19; omega
        refine WC.skip ?_
        refine WC.seq ?_
        refine WC.block ?_
        refine WC.seq ?_
        rcases Bool.eq_false_or_eq_true (decide ((((n : Nat) : Int) : Int) < (4 : Int))) with hd11_59 | hd11_59
        · refine WC.draw (fun w_ => Ext wr3 w_) 56 rfl mixed ?_
          intro wd_11 ed_11
          have R2 : Ext wr3 wd_11 := Mod.trans (Mod.refl _ _) (ed_11)
          have R3 : Ext wr3 wd_11 := Mod.trans (Mod.refl _ _) (ed_11)
          have E4 : Ext w wd_11 := Mod.trans (hE3) (ed_11)
          refine WA.take (i := 0) (m' := 1) (v := .int .u8 (((n : Nat) : Int))) rfl rfl rfl rfl (by kernel_rfl) rfl (fun _ _ _ h => h) (fun wx hS => ?_) (R3) ?_
          · have E5 : Ext w wx := Mod.trans (hE3) (hS)
            refine WL.move (v := .int .u8 (((n : Nat) : Int))) h2_3 rfl ?_
            exact WL.nil ⟨rfl, rfl, rfl⟩
          refine WA.take (i := 1) (m' := 3) (v := .slice (some ⟨b5, 0, none⟩) 19 19) rfl rfl rfl rfl (by kernel_rfl) rfl (fun _ _ _ h => h) (fun wx hS => ?_) (R3) ?_
          · have E6 : Ext w wx := Mod.trans (hE3) (hS)
            refine WL.move (v := .slice (some ⟨b5, 0, none⟩) 19 19) h1_3 rfl ?_
            exact WL.nil ⟨rfl, rfl, rfl⟩
          refine WA.take (i := 2) (m' := 7) (v := IN (i)) rfl rfl rfl rfl (by kernel_rfl) rfl (fun _ _ _ h => h) (fun wx hS => ?_) (R3) ?_
          · have E7 : Ext w wx := Mod.trans (hE3) (hS)
            refine WL.move (v := IN (i)) h3_3 rfl ?_
            exact WL.nil ⟨rfl, rfl, rfl⟩
          refine WA.take (i := 3) (m' := 15) (v := ptr b5 i) rfl rfl rfl rfl (by kernel_rfl) rfl (fun _ _ _ h => h) (fun wx hS => ?_) (R3) ?_
          · have E8 : Ext w wx := Mod.trans (hE3) (hS)
            refine WL.indexAddr1 (i := i) (b := b5) (o := 0) el35 sz2 rfl rfl (by omega) rfl ?_
            rw [Nat.zero_add]
            exact WL.nil ⟨rfl, rfl, rfl⟩
          refine WA.take (i := 4) (m' := 31) (v := I64 ((num (i)))) rfl rfl rfl rfl (by kernel_rfl) rfl (fun _ _ _ h => h) (fun wx hS => ?_) (R3) ?_
          · have E9 : Ext w wx := Mod.trans (hE3) (hS)
            refine WL.load1 rfl ag2 (num_cell hC3 hS (i) (by omega)) rfl ?_
            exact WL.nil ⟨rfl, rfl, rfl⟩
          refine WA.take (i := 5) (m' := 63) (v := .slice (some ⟨b5, 0, none⟩) 19 19) rfl rfl rfl rfl (by kernel_rfl) rfl (fun _ _ _ h => h) (fun wx hS => ?_) (R3) ?_
          · have E10 : Ext w wx := Mod.trans (hE3) (hS)
            refine WL.move (v := .slice (some ⟨b5, 0, none⟩) 19 19) h1_3 rfl ?_
            exact WL.nil ⟨rfl, rfl, rfl⟩
          refine WA.take (i := 6) (m' := 127) (v := IN (j)) rfl rfl rfl rfl (by kernel_rfl) rfl (fun _ _ _ h => h) (fun wx hS => ?_) (R3) ?_
          · have E11 : Ext w wx := Mod.trans (hE3) (hS)
            refine WL.move (v := IN (j)) h4_3 rfl ?_
            exact WL.nil ⟨rfl, rfl, rfl⟩
          refine WA.take (i := 7) (m' := 255) (v := ptr b5 j) rfl rfl rfl rfl (by kernel_rfl) rfl (fun _ _ _ h => h) (fun wx hS => ?_) (R3) ?_
          · have E12 : Ext w wx := Mod.trans (hE3) (hS)
            refine WL.indexAddr1 (i := j) (b := b5) (o := 0) el35 sz2 rfl rfl (by omega) rfl ?_
            rw [Nat.zero_add]
            exact WL.nil ⟨rfl, rfl, rfl⟩
          refine WA.take (i := 8) (m' := 511) (v := I64 ((num (j)))) rfl rfl rfl rfl (by kernel_rfl) rfl (fun _ _ _ h => h) (fun wx hS => ?_) (R3) ?_
          · have E13 : Ext w wx := Mod.trans (hE3) (hS)
            refine WL.load1 rfl ag2 (num_cell hC3 hS (j) (by omega)) rfl ?_
            exact WL.nil ⟨rfl, rfl, rfl⟩
          refine WA.one (i := 9) (m' := 1023) (by kernel_rfl) rfl rfl ?_
          refine WL.call ca5 (rfl) rfl (wordDo_spec n ((num (i))) ((num (j))) _ (by omega) (ht.ext (E4))) ?_
          rintro _ wd31 ⟨rfl, ed31⟩
          have R14 : Ext wr3 wd31 := Mod.trans (R2) (ed31)
          have R15 : Ext wr3 wd31 := Mod.trans (R3) (ed31)
          have E16 : Ext w wd31 := Mod.trans (E4) (ed31)
          refine WL.behind (R15) ?_
          refine WA.take (i := 10) (m' := 2047) (v := .bool (false)) rfl rfl rfl rfl (by kernel_rfl) rfl (fun _ _ _ h => h) (fun wx hS => ?_) (R15) ?_
          · have E17 : Ext w wx := Mod.trans (hE3) (hS)
            refine WL.un rfl rfl UnR.not ?_
            exact WL.nil ⟨rfl, rfl, rfl⟩
          refine WA.take (i := 11) (m' := 4095) (v := .bool (false)) rfl rfl rfl rfl (by kernel_rfl) rfl (fun _ _ _ h => h) (fun wx hS => ?_) (R15) ?_
          · have E18 : Ext w wx := Mod.trans (hE3) (hS)
            refine WL.move (v := .bool (false)) rfl rfl ?_
            exact WL.nil ⟨rfl, rfl, rfl⟩
          refine WA.take (i := 12) (m' := 8191) (v := .int .u8 (((n : Nat) : Int))) rfl rfl rfl rfl (by kernel_rfl) rfl (fun _ _ _ h => h) (fun wx hS => ?_) (R15) ?_
          · have E19 : Ext w wx := Mod.trans (hE3) (hS)
            refine WL.guardT (rfl) ?_
            refine WL.move (v := .int .u8 (((n : Nat) : Int))) h2_3 rfl ?_
            exact WL.nil ⟨rfl, rfl, rfl⟩
          refine WA.take (i := 13) (m' := 16383) (v := .slice (some ⟨b5, 0, none⟩) 19 19) rfl rfl rfl rfl (by kernel_rfl) rfl (fun _ _ _ h => h) (fun wx hS => ?_) (R15) ?_
          · have E20 : Ext w wx := Mod.trans (hE3) (hS)
            refine WL.guardT (rfl) ?_
            refine WL.move (v := .slice (some ⟨b5, 0, none⟩) 19 19) h1_3 rfl ?_
            exact WL.nil ⟨rfl, rfl, rfl⟩
          refine WA.take (i := 14) (m' := 32767) (v := IN (i)) rfl rfl rfl rfl (by kernel_rfl) rfl (fun _ _ _ h => h) (fun wx hS => ?_) (R15) ?_
          · have E21 : Ext w wx := Mod.trans (hE3) (hS)
            refine WL.guardT (rfl) ?_
            refine WL.move (v := IN (i)) h3_3 rfl ?_
            exact WL.nil ⟨rfl, rfl, rfl⟩
          refine WA.take (i := 15) (m' := 65535) (v := ptr b5 i) rfl rfl rfl rfl (by kernel_rfl) rfl (fun _ _ _ h => h) (fun wx hS => ?_) (R15) ?_
          · have E22 : Ext w wx := Mod.trans (hE3) (hS)
            refine WL.guardT (rfl) ?_
            refine WL.indexAddr1 (i := i) (b := b5) (o := 0) el35 sz2 rfl rfl (by omega) rfl ?_
            rw [Nat.zero_add]
            exact WL.nil ⟨rfl, rfl, rfl⟩
          refine WA.take (i := 16) (m' := 131071) (v := I64 ((num (i)))) rfl rfl rfl rfl (by kernel_rfl) rfl (fun _ _ _ h => h) (fun wx hS => ?_) (R15) ?_
          · have E23 : Ext w wx := Mod.trans (hE3) (hS)
            refine WL.guardT (rfl) ?_
            refine WL.load1 rfl ag2 (num_cell hC3 hS (i) (by omega)) rfl ?_
            exact WL.nil ⟨rfl, rfl, rfl⟩
          refine WA.take (i := 17) (m' := 262143) (v := .slice (some ⟨b5, 0, none⟩) 19 19) rfl rfl rfl rfl (by kernel_rfl) rfl (fun _ _ _ h => h) (fun wx hS => ?_) (R15) ?_
          · have E24 : Ext w wx := Mod.trans (hE3) (hS)
            refine WL.guardT (rfl) ?_
            refine WL.move (v := .slice (some ⟨b5, 0, none⟩) 19 19) h1_3 rfl ?_
            exact WL.nil ⟨rfl, rfl, rfl⟩
          refine WA.take (i := 18) (m' := 524287) (v := IN (j)) rfl rfl rfl rfl (by kernel_rfl) rfl (fun _ _ _ h => h) (fun wx hS => ?_) (R15) ?_
          · have E25 : Ext w wx := Mod.trans (hE3) (hS)
            refine WL.guardT (rfl) ?_
            refine WL.move (v := IN (j)) h4_3 rfl ?_
            exact WL.nil ⟨rfl, rfl, rfl⟩
          refine WA.take (i := 19) (m' := 1048575) (v := ptr b5 j) rfl rfl rfl rfl (by kernel_rfl) rfl (fun _ _ _ h => h) (fun wx hS => ?_) (R15) ?_
          · have E26 : Ext w wx := Mod.trans (hE3) (hS)
            refine WL.guardT (rfl) ?_
            refine WL.indexAddr1 (i := j) (b := b5) (o := 0) el35 sz2 rfl rfl (by omega) rfl ?_
            rw [Nat.zero_add]
            exact WL.nil ⟨rfl, rfl, rfl⟩
          refine WA.take (i := 20) (m' := 2097151) (v := I64 ((num (j)))) rfl rfl rfl rfl (by kernel_rfl) rfl (fun _ _ _ h => h) (fun wx hS => ?_) (R15) ?_
          · have E27 : Ext w wx := Mod.trans (hE3) (hS)
            refine WL.guardT (rfl) ?_
            refine WL.load1 rfl ag2 (num_cell hC3 hS (j) (by omega)) rfl ?_
            exact WL.nil ⟨rfl, rfl, rfl⟩
          refine WA.take (i := 21) (m' := 4194303) (v := .slice (some ⟨b5, 0, none⟩) 19 19) rfl rfl rfl rfl (by kernel_rfl) rfl (fun _ _ _ h => h) (fun wx hS => ?_) (R15) ?_
          · have E28 : Ext w wx := Mod.trans (hE3) (hS)
            refine WL.guardT (rfl) ?_
            refine WL.move (v := .slice (some ⟨b5, 0, none⟩) 19 19) h1_3 rfl ?_
            exact WL.nil ⟨rfl, rfl, rfl⟩
          refine WA.take (i := 22) (m' := 8388607) (v := IN (i)) rfl rfl rfl rfl (by kernel_rfl) rfl (fun _ _ _ h => h) (fun wx hS => ?_) (R15) ?_
          · have E29 : Ext w wx := Mod.trans (hE3) (hS)
            refine WL.guardT (rfl) ?_
            refine WL.move (v := IN (i)) h3_3 rfl ?_
            exact WL.nil ⟨rfl, rfl, rfl⟩
          refine WA.take (i := 23) (m' := 16777215) (v := IN ((i * 5))) rfl rfl rfl rfl (by kernel_rfl) rfl (fun _ _ _ h => h) (fun wx hS => ?_) (R15) ?_
          · have E30 : Ext w wx := Mod.trans (hE3) (hS)
            refine WL.guardT (rfl) ?_
            refine WL.bin rfl rfl rfl (BinR.mulN (a := i) (b := 5) (by omega)) ?_
            exact WL.nil ⟨rfl, rfl, rfl⟩
          refine WA.take (i := 24) (m' := 33554431) (v := IN (j)) rfl rfl rfl rfl (by kernel_rfl) rfl (fun _ _ _ h => h) (fun wx hS => ?_) (R15) ?_
          · have E31 : Ext w wx := Mod.trans (hE3) (hS)
            refine WL.guardT (rfl) ?_
            refine WL.move (v := IN (j)) h4_3 rfl ?_
            exact WL.nil ⟨rfl, rfl, rfl⟩
          refine WA.take (i := 25) (m' := 67108863) (v := IN ((i * 5 + j))) rfl rfl rfl rfl (by kernel_rfl) rfl (fun _ _ _ h => h) (fun wx hS => ?_) (R15) ?_
          · have E32 : Ext w wx := Mod.trans (hE3) (hS)
            refine WL.guardT (rfl) ?_
            refine WL.bin rfl rfl rfl (BinR.addN (a := i * 5) (b := j) (by omega)) ?_
            exact WL.nil ⟨rfl, rfl, rfl⟩
          refine WA.take (i := 26) (m' := 134217727) (v := .slice (some ⟨b5, 0, none⟩) 19 19) rfl rfl rfl rfl (by kernel_rfl) rfl (fun _ _ _ h => h) (fun wx hS => ?_) (R15) ?_
          · have E33 : Ext w wx := Mod.trans (hE3) (hS)
            refine WL.guardT (rfl) ?_
            refine WL.move (v := .slice (some ⟨b5, 0, none⟩) 19 19) h1_3 rfl ?_
            exact WL.nil ⟨rfl, rfl, rfl⟩
          refine WA.take (i := 27) (m' := 268435455) (v := IN (19)) rfl rfl rfl rfl (by kernel_rfl) rfl (fun _ _ _ h => h) (fun wx hS => ?_) (R15) ?_
          · have E34 : Ext w wx := Mod.trans (hE3) (hS)
            refine WL.guardT (rfl) ?_
            refine WL.lenS el35 rfl rfl ?_
            exact WL.nil ⟨rfl, rfl, rfl⟩
          refine WA.take (i := 28) (m' := 536870911) (v := IN (((i * 5 + j) % 19))) rfl rfl rfl rfl (by kernel_rfl) rfl (fun _ _ _ h => h) (fun wx hS => ?_) (R15) ?_
          · have E35 : Ext w wx := Mod.trans (hE3) (hS)
            refine WL.guardT (rfl) ?_
            refine WL.bin rfl rfl rfl (BinR.remN (a := i * 5 + j) (b := 19) (by decide)) ?_
            exact WL.nil ⟨rfl, rfl, rfl⟩
          refine WA.take (i := 29) (m' := 1073741823) (v := ptr b5 (((i * 5 + j) % 19))) rfl rfl rfl rfl (by kernel_rfl) rfl (fun _ _ _ h => h) (fun wx hS => ?_) (R15) ?_
          · have E36 : Ext w wx := Mod.trans (hE3) (hS)
            refine WL.guardT (rfl) ?_
            refine WL.indexAddr1 (i := ((i * 5 + j) % 19)) (b := b5) (o := 0) el35 sz2 rfl rfl (Nat.mod_lt _ (by decide)) rfl ?_
            rw [Nat.zero_add]
            exact WL.nil ⟨rfl, rfl, rfl⟩
          refine WA.take (i := 30) (m' := 2147483647) (v := I64 ((num (((i * 5 + j) % 19))))) rfl rfl rfl rfl (by kernel_rfl) rfl (fun _ _ _ h => h) (fun wx hS => ?_) (R15) ?_
          · have E37 : Ext w wx := Mod.trans (hE3) (hS)
            refine WL.guardT (rfl) ?_
            refine WL.load1 rfl ag2 (num_cell hC3 hS (((i * 5 + j) % 19)) (Nat.mod_lt _ (by decide))) rfl ?_
            exact WL.nil ⟨rfl, rfl, rfl⟩
          refine WA.one (i := 31) (m' := 4294967295) (by kernel_rfl) rfl rfl ?_
          refine WL.guardT (rfl) ?_
          refine WL.call ca7 (rfl) rfl (wordLaws_spec n ((num (i))) ((num (j))) ((num (((i * 5 + j) % 19)))) _ (by omega) (ht.ext (E16))) ?_
          rintro _ wd53 ⟨rfl, ed53⟩
          have R38 : Ext wr3 wd53 := Mod.trans (R14) (ed53)
          have R39 : Ext wr3 wd53 := Mod.trans (R15) (ed53)
          have E40 : Ext w wd53 := Mod.trans (E16) (ed53)
          refine WL.behind (R39) ?_
          refine WA.take (i := 32) (m' := 8589934591) (v := .bool (false)) rfl rfl rfl rfl (by kernel_rfl) rfl (fun _ _ _ h => h) (fun wx hS => ?_) (R39) ?_
          · have E41 : Ext w wx := Mod.trans (hE3) (hS)
            refine WL.guardT (rfl) ?_
            refine WL.un rfl rfl UnR.not ?_
            exact WL.nil ⟨rfl, rfl, rfl⟩
          refine WA.take (i := 33) (m' := 17179869183) (v := .bool (false)) rfl rfl rfl rfl (by kernel_rfl) rfl (fun _ _ _ h => h) (fun wx hS => ?_) (R39) ?_
          · have E42 : Ext w wx := Mod.trans (hE3) (hS)
            refine WL.pick (b := false) rfl rfl rfl ?_
            exact WL.nil ⟨rfl, rfl, rfl⟩
          refine WA.take (i := 34) (m' := 34359738367) (v := .bool (false)) rfl rfl rfl rfl (by kernel_rfl) rfl (fun _ _ _ h => h) (fun wx hS => ?_) (R39) ?_
          · have E43 : Ext w wx := Mod.trans (hE3) (hS)
            refine WL.move (v := .bool (false)) rfl rfl ?_
            exact WL.nil ⟨rfl, rfl, rfl⟩
          refine WA.take (i := 35) (m' := 68719476735) (v := .int .u8 (((n : Nat) : Int))) rfl rfl rfl rfl (by kernel_rfl) rfl (fun _ _ _ h => h) (fun wx hS => ?_) (R39) ?_
          · have E44 : Ext w wx := Mod.trans (hE3) (hS)
            refine WL.guardT (rfl) ?_
            refine WL.move (v := .int .u8 (((n : Nat) : Int))) h2_3 rfl ?_
            exact WL.nil ⟨rfl, rfl, rfl⟩
          refine WA.take (i := 36) (m' := 137438953471) (v := .bool (decide ((((n : Nat) : Int) : Int) < (4 : Int)))) rfl rfl rfl rfl (by kernel_rfl) rfl (fun _ _ _ h => h) (fun wx hS => ?_) (R39) ?_
          · have E45 : Ext w wx := Mod.trans (hE3) (hS)
            refine WL.guardT (rfl) ?_
            refine WL.bin rfl rfl rfl (BinR.lss) ?_
            exact WL.nil ⟨rfl, rfl, rfl⟩
          refine WA.take (i := 37) (m' := 274877906943) (v := .bool (decide ((((n : Nat) : Int) : Int) < (4 : Int)))) rfl rfl rfl rfl (by kernel_rfl) rfl (fun _ _ _ h => h) (fun wx hS => ?_) (R39) ?_
          · have E46 : Ext w wx := Mod.trans (hE3) (hS)
            refine WL.guardT (rfl) ?_
            refine WL.move (v := .bool (decide ((((n : Nat) : Int) : Int) < (4 : Int)))) rfl rfl ?_
            exact WL.nil ⟨rfl, rfl, rfl⟩
          refine WA.take (i := 38) (m' := 549755813887) (v := .int .u8 (((n : Nat) : Int))) rfl rfl rfl rfl (by kernel_rfl) rfl (fun _ _ _ h => h) (fun wx hS => ?_) (R39) ?_
          · have E47 : Ext w wx := Mod.trans (hE3) (hS)
            refine WL.guardT (yf_bool rfl rfl hd11_59) ?_
            refine WL.move (v := .int .u8 (((n : Nat) : Int))) h2_3 rfl ?_
            exact WL.nil ⟨rfl, rfl, rfl⟩
          refine WA.take (i := 39) (m' := 1099511627775) (v := .slice (some ⟨b5, 0, none⟩) 19 19) rfl rfl rfl rfl (by kernel_rfl) rfl (fun _ _ _ h => h) (fun wx hS => ?_) (R39) ?_
          · have E48 : Ext w wx := Mod.trans (hE3) (hS)
            refine WL.guardT (yf_bool rfl rfl hd11_59) ?_
            refine WL.move (v := .slice (some ⟨b5, 0, none⟩) 19 19) h1_3 rfl ?_
            exact WL.nil ⟨rfl, rfl, rfl⟩
          refine WA.take (i := 40) (m' := 2199023255551) (v := IN (i)) rfl rfl rfl rfl (by kernel_rfl) rfl (fun _ _ _ h => h) (fun wx hS => ?_) (R39) ?_
          · have E49 : Ext w wx := Mod.trans (hE3) (hS)
            refine WL.guardT (yf_bool rfl rfl hd11_59) ?_
            refine WL.move (v := IN (i)) h3_3 rfl ?_
            exact WL.nil ⟨rfl, rfl, rfl⟩
          refine WA.take (i := 41) (m' := 4398046511103) (v := ptr b5 i) rfl rfl rfl rfl (by kernel_rfl) rfl (fun _ _ _ h => h) (fun wx hS => ?_) (R39) ?_
          · have E50 : Ext w wx := Mod.trans (hE3) (hS)
            refine WL.guardT (yf_bool rfl rfl hd11_59) ?_
            refine WL.indexAddr1 (i := i) (b := b5) (o := 0) el35 sz2 rfl rfl (by omega) rfl ?_
            rw [Nat.zero_add]
            exact WL.nil ⟨rfl, rfl, rfl⟩
          refine WA.take (i := 42) (m' := 8796093022207) (v := I64 ((num (i)))) rfl rfl rfl rfl (by kernel_rfl) rfl (fun _ _ _ h => h) (fun wx hS => ?_) (R39) ?_
          · have E51 : Ext w wx := Mod.trans (hE3) (hS)
            refine WL.guardT (yf_bool rfl rfl hd11_59) ?_
            refine WL.load1 rfl ag2 (num_cell hC3 hS (i) (by omega)) rfl ?_
            exact WL.nil ⟨rfl, rfl, rfl⟩
          refine WA.take (i := 43) (m' := 17592186044415) (v := .slice (some ⟨b5, 0, none⟩) 19 19) rfl rfl rfl rfl (by kernel_rfl) rfl (fun _ _ _ h => h) (fun wx hS => ?_) (R39) ?_
          · have E52 : Ext w wx := Mod.trans (hE3) (hS)
            refine WL.guardT (yf_bool rfl rfl hd11_59) ?_
            refine WL.move (v := .slice (some ⟨b5, 0, none⟩) 19 19) h1_3 rfl ?_
            exact WL.nil ⟨rfl, rfl, rfl⟩
          refine WA.take (i := 44) (m' := 35184372088831) (v := IN (j)) rfl rfl rfl rfl (by kernel_rfl) rfl (fun _ _ _ h => h) (fun wx hS => ?_) (R39) ?_
          · have E53 : Ext w wx := Mod.trans (hE3) (hS)
            refine WL.guardT (yf_bool rfl rfl hd11_59) ?_
            refine WL.move (v := IN (j)) h4_3 rfl ?_
            exact WL.nil ⟨rfl, rfl, rfl⟩
          refine WA.take (i := 45) (m' := 70368744177663) (v := ptr b5 j) rfl rfl rfl rfl (by kernel_rfl) rfl (fun _ _ _ h => h) (fun wx hS => ?_) (R39) ?_
          · have E54 : Ext w wx := Mod.trans (hE3) (hS)
            refine WL.guardT (yf_bool rfl rfl hd11_59) ?_
            refine WL.indexAddr1 (i := j) (b := b5) (o := 0) el35 sz2 rfl rfl (by omega) rfl ?_
            rw [Nat.zero_add]
            exact WL.nil ⟨rfl, rfl, rfl⟩
          refine WA.take (i := 46) (m' := 140737488355327) (v := I64 ((num (j)))) rfl rfl rfl rfl (by kernel_rfl) rfl (fun _ _ _ h => h) (fun wx hS => ?_) (R39) ?_
          · have E55 : Ext w wx := Mod.trans (hE3) (hS)
            refine WL.guardT (yf_bool rfl rfl hd11_59) ?_
            refine WL.load1 rfl ag2 (num_cell hC3 hS (j) (by omega)) rfl ?_
            exact WL.nil ⟨rfl, rfl, rfl⟩
          refine WA.take (i := 47) (m' := 281474976710655) (v := .int .u8 (((n : Nat) : Int))) rfl rfl rfl rfl (by kernel_rfl) rfl (fun _ _ _ h => h) (fun wx hS => ?_) (R39) ?_
          · have E56 : Ext w wx := Mod.trans (hE3) (hS)
            refine WL.guardT (yf_bool rfl rfl hd11_59) ?_
            refine WL.move (v := .int .u8 (((n : Nat) : Int))) h2_3 rfl ?_
            exact WL.nil ⟨rfl, rfl, rfl⟩
          refine WA.take (i := 48) (m' := 562949953421311) (v := .int .u8 (((n : Nat) : Int) % 2)) rfl rfl rfl rfl (by kernel_rfl) rfl (fun _ _ _ h => h) (fun wx hS => ?_) (R39) ?_
          · have E57 : Ext w wx := Mod.trans (hE3) (hS)
            refine WL.guardT (yf_bool rfl rfl hd11_59) ?_
            refine WL.bin rfl rfl rfl (BinR.remK (by omega) (by decide)) ?_
            exact WL.nil ⟨rfl, rfl, rfl⟩
          refine WA.take (i := 49) (m' := 1125899906842623) (v := .bool (((((n : Nat) : Int) % 2 : Int) == (0 : Int)))) rfl rfl rfl rfl (by kernel_rfl) rfl (fun _ _ _ h => h) (fun wx hS => ?_) (R39) ?_
          · have E58 : Ext w wx := Mod.trans (hE3) (hS)
            refine WL.guardT (yf_bool rfl rfl hd11_59) ?_
            refine WL.bin rfl rfl rfl (BinR.eql) ?_
            exact WL.nil ⟨rfl, rfl, rfl⟩
          refine WA.take (i := 50) (m' := 2251799813685247) (v := .int .u8 (((n : Nat) : Int))) rfl rfl rfl rfl (by kernel_rfl) rfl (fun _ _ _ h => h) (fun wx hS => ?_) (R39) ?_
          · have E59 : Ext w wx := Mod.trans (hE3) (hS)
            refine WL.guardT (yf_bool rfl rfl hd11_59) ?_
            refine WL.move (v := .int .u8 (((n : Nat) : Int))) h2_3 rfl ?_
            exact WL.nil ⟨rfl, rfl, rfl⟩
          refine WA.take (i := 51) (m' := 4503599627370495) (v := .bool (decide ((1 : Int) < (((n : Nat) : Int) : Int)))) rfl rfl rfl rfl (by kernel_rfl) rfl (fun _ _ _ h => h) (fun wx hS => ?_) (R39) ?_
          · have E60 : Ext w wx := Mod.trans (hE3) (hS)
            refine WL.guardT (yf_bool rfl rfl hd11_59) ?_
            refine WL.bin rfl rfl rfl (BinR.gtr) ?_
            exact WL.nil ⟨rfl, rfl, rfl⟩
          refine WA.one (i := 52) (m' := 9007199254740991) (by kernel_rfl) rfl rfl ?_
          refine WL.guardT (yf_bool rfl rfl hd11_59) ?_
          refine WL.call ca6 (rfl) rfl (wordFacts_spec n ((num (i))) ((num (j))) (((((n : Nat) : Int) % 2 : Int) == (0 : Int))) (decide ((1 : Int) < (((n : Nat) : Int) : Int))) _ (by omega) (ht.ext (E40))) ?_
          rintro _ wd74 ⟨rfl, ed74⟩
          have R61 : Ext wr3 wd74 := Mod.trans (R38) (ed74)
          have R62 : Ext wr3 wd74 := Mod.trans (R39) (ed74)
          have E63 : Ext w wd74 := Mod.trans (E40) (ed74)
          refine WL.behind (R62) ?_
          refine WA.take (i := 53) (m' := 18014398509481983) (v := .bool (false)) rfl rfl rfl rfl (by kernel_rfl) rfl (fun _ _ _ h => h) (fun wx hS => ?_) (R62) ?_
          · have E64 : Ext w wx := Mod.trans (hE3) (hS)
            refine WL.guardT (yf_bool rfl rfl hd11_59) ?_
            refine WL.un rfl rfl UnR.not ?_
            exact WL.nil ⟨rfl, rfl, rfl⟩
          refine WA.take (i := 54) (m' := 36028797018963967) (v := .bool (false)) rfl rfl rfl rfl (by kernel_rfl) rfl (fun _ _ _ h => h) (fun wx hS => ?_) (R62) ?_
          · have E65 : Ext w wx := Mod.trans (hE3) (hS)
            refine WL.guardT (rfl) ?_
            refine WL.pick (b := true) (congrArg Value.bool hd11_59) rfl rfl ?_
            exact WL.nil ⟨rfl, rfl, rfl⟩
          refine WA.take (i := 55) (m' := 72057594037927935) (v := .bool (false)) rfl rfl rfl rfl (by kernel_rfl) rfl (fun _ _ _ h => h) (fun wx hS => ?_) (R62) ?_
          · have E66 : Ext w wx := Mod.trans (hE3) (hS)
            refine WL.pick (b := false) rfl rfl rfl ?_
            exact WL.nil ⟨rfl, rfl, rfl⟩
          refine WA.done (by kernel_rfl) ?_
          refine WC.condF rfl ?_
          refine WC.skip ?_
          refine WC.region ?_
          refine WL.move (v := IN (j)) h4_3 rfl ?_
          refine WL.bin rfl rfl rfl (BinR.succN (by omega)) ?_
          refine WL.assign (v := IN (j + 1)) rfl rfl ?_
          refine WL.nil ?_
          exact ⟨k3 - 1, by omega, (j + 1), by omega, h1_3, h2_3, h3_3, rfl, h5_3, h6_3, h7_3, h10_3, h11_3, h12_3, h13_3, E63, hC3.ext (R61)⟩
        · refine WC.draw (fun w_ => Ext wr3 w_) 56 rfl mixed ?_
          intro wd_11 ed_11
          have R67 : Ext wr3 wd_11 := Mod.trans (Mod.refl _ _) (ed_11)
          have R68 : Ext wr3 wd_11 := Mod.trans (Mod.refl _ _) (ed_11)
          have E69 : Ext w wd_11 := Mod.trans (hE3) (ed_11)
          refine WA.take (i := 0) (m' := 1) (v := .int .u8 (((n : Nat) : Int))) rfl rfl rfl rfl (by kernel_rfl) rfl (fun _ _ _ h => h) (fun wx hS => ?_) (R68) ?_
          · have E70 : Ext w wx := Mod.trans (hE3) (hS)
            refine WL.move (v := .int .u8 (((n : Nat) : Int))) h2_3 rfl ?_
            exact WL.nil ⟨rfl, rfl, rfl⟩
          refine WA.take (i := 1) (m' := 3) (v := .slice (some ⟨b5, 0, none⟩) 19 19) rfl rfl rfl rfl (by kernel_rfl) rfl (fun _ _ _ h => h) (fun wx hS => ?_) (R68) ?_
          · have E71 : Ext w wx := Mod.trans (hE3) (hS)
            refine WL.move (v := .slice (some ⟨b5, 0, none⟩) 19 19) h1_3 rfl ?_
            exact WL.nil ⟨rfl, rfl, rfl⟩
          refine WA.take (i := 2) (m' := 7) (v := IN (i)) rfl rfl rfl rfl (by kernel_rfl) rfl (fun _ _ _ h => h) (fun wx hS => ?_) (R68) ?_
          · have E72 : Ext w wx := Mod.trans (hE3) (hS)
            refine WL.move (v := IN (i)) h3_3 rfl ?_
            exact WL.nil ⟨rfl, rfl, rfl⟩
          refine WA.take (i := 3) (m' := 15) (v := ptr b5 i) rfl rfl rfl rfl (by kernel_rfl) rfl (fun _ _ _ h => h) (fun wx hS => ?_) (R68) ?_
          · have E73 : Ext w wx := Mod.trans (hE3) (hS)
            refine WL.indexAddr1 (i := i) (b := b5) (o := 0) el35 sz2 rfl rfl (by omega) rfl ?_
            rw [Nat.zero_add]
            exact WL.nil ⟨rfl, rfl, rfl⟩
          refine WA.take (i := 4) (m' := 31) (v := I64 ((num (i)))) rfl rfl rfl rfl (by kernel_rfl) rfl (fun _ _ _ h => h) (fun wx hS => ?_) (R68) ?_
          · have E74 : Ext w wx := Mod.trans (hE3) (hS)
            refine WL.load1 rfl ag2 (num_cell hC3 hS (i) (by omega)) rfl ?_
            exact WL.nil ⟨rfl, rfl, rfl⟩
          refine WA.take (i := 5) (m' := 63) (v := .slice (some ⟨b5, 0, none⟩) 19 19) rfl rfl rfl rfl (by kernel_rfl) rfl (fun _ _ _ h => h) (fun wx hS => ?_) (R68) ?_
          · have E75 : Ext w wx := Mod.trans (hE3) (hS)
            refine WL.move (v := .slice (some ⟨b5, 0, none⟩) 19 19) h1_3 rfl ?_
            exact WL.nil ⟨rfl, rfl, rfl⟩
          refine WA.take (i := 6) (m' := 127) (v := IN (j)) rfl rfl rfl rfl (by kernel_rfl) rfl (fun _ _ _ h => h) (fun wx hS => ?_) (R68) ?_
          · have E76 : Ext w wx := Mod.trans (hE3) (hS)
            refine WL.move (v := IN (j)) h4_3 rfl ?_
            exact WL.nil ⟨rfl, rfl, rfl⟩
          refine WA.take (i := 7) (m' := 255) (v := ptr b5 j) rfl rfl rfl rfl (by kernel_rfl) rfl (fun _ _ _ h => h) (fun wx hS => ?_) (R68) ?_
          · have E77 : Ext w wx := Mod.trans (hE3) (hS)
            refine WL.indexAddr1 (i := j) (b := b5) (o := 0) el35 sz2 rfl rfl (by omega) rfl ?_
            rw [Nat.zero_add]
            exact WL.nil ⟨rfl, rfl, rfl⟩
          refine WA.take (i := 8) (m' := 511) (v := I64 ((num (j)))) rfl rfl rfl rfl (by kernel_rfl) rfl (fun _ _ _ h => h) (fun wx hS => ?_) (R68) ?_
          · have E78 : Ext w wx := Mod.trans (hE3) (hS)
            refine WL.load1 rfl ag2 (num_cell hC3 hS (j) (by omega)) rfl ?_
            exact WL.nil ⟨rfl, rfl, rfl⟩
          refine WA.one (i := 9) (m' := 1023) (by kernel_rfl) rfl rfl ?_
          refine WL.call ca5 (rfl) rfl (wordDo_spec n ((num (i))) ((num (j))) _ (by omega) (ht.ext (E69))) ?_
          rintro _ wd31 ⟨rfl, ed31⟩
          have R79 : Ext wr3 wd31 := Mod.trans (R67) (ed31)
          have R80 : Ext wr3 wd31 := Mod.trans (R68) (ed31)
          have E81 : Ext w wd31 := Mod.trans (E69) (ed31)
          refine WL.behind (R80) ?_
          refine WA.take (i := 10) (m' := 2047) (v := .bool (false)) rfl rfl rfl rfl (by kernel_rfl) rfl (fun _ _ _ h => h) (fun wx hS => ?_) (R80) ?_
          · have E82 : Ext w wx := Mod.trans (hE3) (hS)
            refine WL.un rfl rfl UnR.not ?_
            exact WL.nil ⟨rfl, rfl, rfl⟩
          refine WA.take (i := 11) (m' := 4095) (v := .bool (false)) rfl rfl rfl rfl (by kernel_rfl) rfl (fun _ _ _ h => h) (fun wx hS => ?_) (R80) ?_
          · have E83 : Ext w wx := Mod.trans (hE3) (hS)
            refine WL.move (v := .bool (false)) rfl rfl ?_
            exact WL.nil ⟨rfl, rfl, rfl⟩
          refine WA.take (i := 12) (m' := 8191) (v := .int .u8 (((n : Nat) : Int))) rfl rfl rfl rfl (by kernel_rfl) rfl (fun _ _ _ h => h) (fun wx hS => ?_) (R80) ?_
          · have E84 : Ext w wx := Mod.trans (hE3) (hS)
            refine WL.guardT (rfl) ?_
            refine WL.move (v := .int .u8 (((n : Nat) : Int))) h2_3 rfl ?_
            exact WL.nil ⟨rfl, rfl, rfl⟩
          refine WA.take (i := 13) (m' := 16383) (v := .slice (some ⟨b5, 0, none⟩) 19 19) rfl rfl rfl rfl (by kernel_rfl) rfl (fun _ _ _ h => h) (fun wx hS => ?_) (R80) ?_
          · have E85 : Ext w wx := Mod.trans (hE3) (hS)
            refine WL.guardT (rfl) ?_
            refine WL.move (v := .slice (some ⟨b5, 0, none⟩) 19 19) h1_3 rfl ?_
            exact WL.nil ⟨rfl, rfl, rfl⟩
          refine WA.take (i := 14) (m' := 32767) (v := IN (i)) rfl rfl rfl rfl (by kernel_rfl) rfl (fun _ _ _ h => h) (fun wx hS => ?_) (R80) ?_
          · have E86 : Ext w wx := Mod.trans (hE3) (hS)
            refine WL.guardT (rfl) ?_
            refine WL.move (v := IN (i)) h3_3 rfl ?_
            exact WL.nil ⟨rfl, rfl, rfl⟩
          refine WA.take (i := 15) (m' := 65535) (v := ptr b5 i) rfl rfl rfl rfl (by kernel_rfl) rfl (fun _ _ _ h => h) (fun wx hS => ?_) (R80) ?_
          · have E87 : Ext w wx := Mod.trans (hE3) (hS)
            refine WL.guardT (rfl) ?_
            refine WL.indexAddr1 (i := i) (b := b5) (o := 0) el35 sz2 rfl rfl (by omega) rfl ?_
            rw [Nat.zero_add]
            exact WL.nil ⟨rfl, rfl, rfl⟩
          refine WA.take (i := 16) (m' := 131071) (v := I64 ((num (i)))) rfl rfl rfl rfl (by kernel_rfl) rfl (fun _ _ _ h => h) (fun wx hS => ?_) (R80) ?_
          · have E88 : Ext w wx := Mod.trans (hE3) (hS)
            refine WL.guardT (rfl) ?_
            refine WL.load1 rfl ag2 (num_cell hC3 hS (i) (by omega)) rfl ?_
            exact WL.nil ⟨rfl, rfl, rfl⟩
          refine WA.take (i := 17) (m' := 262143) (v := .slice (some ⟨b5, 0, none⟩) 19 19) rfl rfl rfl rfl (by kernel_rfl) rfl (fun _ _ _ h => h) (fun wx hS => ?_) (R80) ?_
          · have E89 : Ext w wx := Mod.trans (hE3) (hS)
            refine WL.guardT (rfl) ?_
            refine WL.move (v := .slice (some ⟨b5, 0, none⟩) 19 19) h1_3 rfl ?_
            exact WL.nil ⟨rfl, rfl, rfl⟩
          refine WA.take (i := 18) (m' := 524287) (v := IN (j)) rfl rfl rfl rfl (by kernel_rfl) rfl (fun _ _ _ h => h) (fun wx hS => ?_) (R80) ?_
          · have E90 : Ext w wx := Mod.trans (hE3) (hS)
            refine WL.guardT (rfl) ?_
            refine WL.move (v := IN (j)) h4_3 rfl ?_
            exact WL.nil ⟨rfl, rfl, rfl⟩
          refine WA.take (i := 19) (m' := 1048575) (v := ptr b5 j) rfl rfl rfl rfl (by kernel_rfl) rfl (fun _ _ _ h => h) (fun wx hS => ?_) (R80) ?_
          · have E91 : Ext w wx := Mod.trans (hE3) (hS)
            refine WL.guardT (rfl) ?_
            refine WL.indexAddr1 (i := j) (b := b5) (o := 0) el35 sz2 rfl rfl (by omega) rfl ?_
            rw [Nat.zero_add]
            exact WL.nil ⟨rfl, rfl, rfl⟩
          refine WA.take (i := 20) (m' := 2097151) (v := I64 ((num (j)))) rfl rfl rfl rfl (by kernel_rfl) rfl (fun _ _ _ h => h) (fun wx hS => ?_) (R80) ?_
          · have E92 : Ext w wx := Mod.trans (hE3) (hS)
            refine WL.guardT (rfl) ?_
            refine WL.load1 rfl ag2 (num_cell hC3 hS (j) (by omega)) rfl ?_
            exact WL.nil ⟨rfl, rfl, rfl⟩
          refine WA.take (i := 21) (m' := 4194303) (v := .slice (some ⟨b5, 0, none⟩) 19 19) rfl rfl rfl rfl (by kernel_rfl) rfl (fun _ _ _ h => h) (fun wx hS => ?_) (R80) ?_
          · have E93 : Ext w wx := Mod.trans (hE3) (hS)
            refine WL.guardT (rfl) ?_
            refine WL.move (v := .slice (some ⟨b5, 0, none⟩) 19 19) h1_3 rfl ?_
            exact WL.nil ⟨rfl, rfl, rfl⟩
          refine WA.take (i := 22) (m' := 8388607) (v := IN (i)) rfl rfl rfl rfl (by kernel_rfl) rfl (fun _ _ _ h => h) (fun wx hS => ?_) (R80) ?_
          · have E94 : Ext w wx := Mod.trans (hE3) (hS)
            refine WL.guardT (rfl) ?_
            refine WL.move (v := IN (i)) h3_3 rfl ?_
            exact WL.nil ⟨rfl, rfl, rfl⟩
          refine WA.take (i := 23) (m' := 16777215) (v := IN ((i * 5))) rfl rfl rfl rfl (by kernel_rfl) rfl (fun _ _ _ h => h) (fun wx hS => ?_) (R80) ?_
          · have E95 : Ext w wx := Mod.trans (hE3) (hS)
            refine WL.guardT (rfl) ?_
            refine WL.bin rfl rfl rfl (BinR.mulN (a := i) (b := 5) (by omega)) ?_
            exact WL.nil ⟨rfl, rfl, rfl⟩
          refine WA.take (i := 24) (m' := 33554431) (v := IN (j)) rfl rfl rfl rfl (by kernel_rfl) rfl (fun _ _ _ h => h) (fun wx hS => ?_) (R80) ?_
          · have E96 : Ext w wx := Mod.trans (hE3) (hS)
            refine WL.guardT (rfl) ?_
            refine WL.move (v := IN (j)) h4_3 rfl ?_
            exact WL.nil ⟨rfl, rfl, rfl⟩
          refine WA.take (i := 25) (m' := 67108863) (v := IN ((i * 5 + j))) rfl rfl rfl rfl (by kernel_rfl) rfl (fun _ _ _ h => h) (fun wx hS => ?_) (R80) ?_
          · have E97 : Ext w wx := Mod.trans (hE3) (hS)
            refine WL.guardT (rfl) ?_
            refine WL.bin rfl rfl rfl (BinR.addN (a := i * 5) (b := j) (by omega)) ?_
            exact WL.nil ⟨rfl, rfl, rfl⟩
          refine WA.take (i := 26) (m' := 134217727) (v := .slice (some ⟨b5, 0, none⟩) 19 19) rfl rfl rfl rfl (by kernel_rfl) rfl (fun _ _ _ h => h) (fun wx hS => ?_) (R80) ?_
          · have E98 : Ext w wx := Mod.trans (hE3) (hS)
            refine WL.guardT (rfl) ?_
            refine WL.move (v := .slice (some ⟨b5, 0, none⟩) 19 19) h1_3 rfl ?_
            exact WL.nil ⟨rfl, rfl, rfl⟩
          refine WA.take (i := 27) (m' := 268435455) (v := IN (19)) rfl rfl rfl rfl (by kernel_rfl) rfl (fun _ _ _ h => h) (fun wx hS => ?_) (R80) ?_
          · have E99 : Ext w wx := Mod.trans (hE3) (hS)
            refine WL.guardT (rfl) ?_
            refine WL.lenS el35 rfl rfl ?_
            exact WL.nil ⟨rfl, rfl, rfl⟩
          refine WA.take (i := 28) (m' := 536870911) (v := IN (((i * 5 + j) % 19))) rfl rfl rfl rfl (by kernel_rfl) rfl (fun _ _ _ h => h) (fun wx hS => ?_) (R80) ?_
          · have E100 : Ext w wx := Mod.trans (hE3) (hS)
            refine WL.guardT (rfl) ?_
            refine WL.bin rfl rfl rfl (BinR.remN (a := i * 5 + j) (b := 19) (by decide)) ?_
            exact WL.nil ⟨rfl, rfl, rfl⟩
          refine WA.take (i := 29) (m' := 1073741823) (v := ptr b5 (((i * 5 + j) % 19))) rfl rfl rfl rfl (by kernel_rfl) rfl (fun _ _ _ h => h) (fun wx hS => ?_) (R80) ?_
          · have E101 : Ext w wx := Mod.trans (hE3) (hS)
            refine WL.guardT (rfl) ?_
            refine WL.indexAddr1 (i := ((i * 5 + j) % 19)) (b := b5) (o := 0) el35 sz2 rfl rfl (Nat.mod_lt _ (by decide)) rfl ?_
            rw [Nat.zero_add]
            exact WL.nil ⟨rfl, rfl, rfl⟩
          refine WA.take (i := 30) (m' := 2147483647) (v := I64 ((num (((i * 5 + j) % 19))))) rfl rfl rfl rfl (by kernel_rfl) rfl (fun _ _ _ h => h) (fun wx hS => ?_) (R80) ?_
          · have E102 : Ext w wx := Mod.trans (hE3) (hS)
            refine WL.guardT (rfl) ?_
            refine WL.load1 rfl ag2 (num_cell hC3 hS (((i * 5 + j) % 19)) (Nat.mod_lt _ (by decide))) rfl ?_
            exact WL.nil ⟨rfl, rfl, rfl⟩
          refine WA.one (i := 31) (m' := 4294967295) (by kernel_rfl) rfl rfl ?_
          refine WL.guardT (rfl) ?_
          refine WL.call ca7 (rfl) rfl (wordLaws_spec n ((num (i))) ((num (j))) ((num (((i * 5 + j) % 19)))) _ (by omega) (ht.ext (E81))) ?_
          rintro _ wd53 ⟨rfl, ed53⟩
          have R103 : Ext wr3 wd53 := Mod.trans (R79) (ed53)
          have R104 : Ext wr3 wd53 := Mod.trans (R80) (ed53)
          have E105 : Ext w wd53 := Mod.trans (E81) (ed53)
          refine WL.behind (R104) ?_
          refine WA.take (i := 32) (m' := 8589934591) (v := .bool (false)) rfl rfl rfl rfl (by kernel_rfl) rfl (fun _ _ _ h => h) (fun wx hS => ?_) (R104) ?_
          · have E106 : Ext w wx := Mod.trans (hE3) (hS)
            refine WL.guardT (rfl) ?_
            refine WL.un rfl rfl UnR.not ?_
            exact WL.nil ⟨rfl, rfl, rfl⟩
          refine WA.take (i := 33) (m' := 17179869183) (v := .bool (false)) rfl rfl rfl rfl (by kernel_rfl) rfl (fun _ _ _ h => h) (fun wx hS => ?_) (R104) ?_
          · have E107 : Ext w wx := Mod.trans (hE3) (hS)
            refine WL.pick (b := false) rfl rfl rfl ?_
            exact WL.nil ⟨rfl, rfl, rfl⟩
          refine WA.take (i := 34) (m' := 34359738367) (v := .bool (false)) rfl rfl rfl rfl (by kernel_rfl) rfl (fun _ _ _ h => h) (fun wx hS => ?_) (R104) ?_
          · have E108 : Ext w wx := Mod.trans (hE3) (hS)
            refine WL.move (v := .bool (false)) rfl rfl ?_
            exact WL.nil ⟨rfl, rfl, rfl⟩
          refine WA.take (i := 35) (m' := 68719476735) (v := .int .u8 (((n : Nat) : Int))) rfl rfl rfl rfl (by kernel_rfl) rfl (fun _ _ _ h => h) (fun wx hS => ?_) (R104) ?_
          · have E109 : Ext w wx := Mod.trans (hE3) (hS)
            refine WL.guardT (rfl) ?_
            refine WL.move (v := .int .u8 (((n : Nat) : Int))) h2_3 rfl ?_
            exact WL.nil ⟨rfl, rfl, rfl⟩
          refine WA.take (i := 36) (m' := 137438953471) (v := .bool (decide ((((n : Nat) : Int) : Int) < (4 : Int)))) rfl rfl rfl rfl (by kernel_rfl) rfl (fun _ _ _ h => h) (fun wx hS => ?_) (R104) ?_
          · have E110 : Ext w wx := Mod.trans (hE3) (hS)
            refine WL.guardT (rfl) ?_
            refine WL.bin rfl rfl rfl (BinR.lss) ?_
            exact WL.nil ⟨rfl, rfl, rfl⟩
          refine WA.take (i := 37) (m' := 274877906943) (v := .bool (decide ((((n : Nat) : Int) : Int) < (4 : Int)))) rfl rfl rfl rfl (by kernel_rfl) rfl (fun _ _ _ h => h) (fun wx hS => ?_) (R104) ?_
          · have E111 : Ext w wx := Mod.trans (hE3) (hS)
            refine WL.guardT (rfl) ?_
            refine WL.move (v := .bool (decide ((((n : Nat) : Int) : Int) < (4 : Int)))) rfl rfl ?_
            exact WL.nil ⟨rfl, rfl, rfl⟩
          refine WA.off (i := 38) (m' := 549755813887) (y := some false) rfl rfl rfl rfl (by kernel_rfl) rfl (fun _ _ _ h => h) (yf_bool rfl rfl hd11_59) rfl (R104) ?_
          refine WA.off (i := 39) (m' := 1099511627775) (y := some false) rfl rfl rfl rfl (by kernel_rfl) rfl (fun _ _ _ h => h) (yf_bool rfl rfl hd11_59) rfl (R104) ?_
          refine WA.off (i := 40) (m' := 2199023255551) (y := some false) rfl rfl rfl rfl (by kernel_rfl) rfl (fun _ _ _ h => h) (yf_bool rfl rfl hd11_59) rfl (R104) ?_
          refine WA.off (i := 41) (m' := 4398046511103) (y := some false) rfl rfl rfl rfl (by kernel_rfl) rfl (fun _ _ _ h => h) (yf_bool rfl rfl hd11_59) rfl (R104) ?_
          refine WA.off (i := 42) (m' := 8796093022207) (y := some false) rfl rfl rfl rfl (by kernel_rfl) rfl (fun _ _ _ h => h) (yf_bool rfl rfl hd11_59) rfl (R104) ?_
          refine WA.off (i := 43) (m' := 17592186044415) (y := some false) rfl rfl rfl rfl (by kernel_rfl) rfl (fun _ _ _ h => h) (yf_bool rfl rfl hd11_59) rfl (R104) ?_
          refine WA.off (i := 44) (m' := 35184372088831) (y := some false) rfl rfl rfl rfl (by kernel_rfl) rfl (fun _ _ _ h => h) (yf_bool rfl rfl hd11_59) rfl (R104) ?_
          refine WA.off (i := 45) (m' := 70368744177663) (y := some false) rfl rfl rfl rfl (by kernel_rfl) rfl (fun _ _ _ h => h) (yf_bool rfl rfl hd11_59) rfl (R104) ?_
          refine WA.off (i := 46) (m' := 140737488355327) (y := some false) rfl rfl rfl rfl (by kernel_rfl) rfl (fun _ _ _ h => h) (yf_bool rfl rfl hd11_59) rfl (R104) ?_
          refine WA.off (i := 47) (m' := 281474976710655) (y := some false) rfl rfl rfl rfl (by kernel_rfl) rfl (fun _ _ _ h => h) (yf_bool rfl rfl hd11_59) rfl (R104) ?_
          refine WA.off (i := 48) (m' := 562949953421311) (y := some false) rfl rfl rfl rfl (by kernel_rfl) rfl (fun _ _ _ h => h) (yf_bool rfl rfl hd11_59) rfl (R104) ?_
          refine WA.off (i := 49) (m' := 1125899906842623) (y := some false) rfl rfl rfl rfl (by kernel_rfl) rfl (fun _ _ _ h => h) (yf_bool rfl rfl hd11_59) rfl (R104) ?_
          refine WA.off (i := 50) (m' := 2251799813685247) (y := some false) rfl rfl rfl rfl (by kernel_rfl) rfl (fun _ _ _ h => h) (yf_bool rfl rfl hd11_59) rfl (R104) ?_
          refine WA.off (i := 51) (m' := 4503599627370495) (y := some false) rfl rfl rfl rfl (by kernel_rfl) rfl (fun _ _ _ h => h) (yf_bool rfl rfl hd11_59) rfl (R104) ?_
          refine WA.off (i := 52) (m' := 9007199254740991) (y := some false) rfl rfl rfl rfl (by kernel_rfl) rfl (fun _ _ _ h => h) (yf_bool rfl rfl hd11_59) rfl (R104) ?_
          refine WA.off (i := 53) (m' := 18014398509481983) (y := some false) rfl rfl rfl rfl (by kernel_rfl) rfl (fun _ _ _ h => h) (yf_bool rfl rfl hd11_59) rfl (R104) ?_
          refine WA.take (i := 54) (m' := 36028797018963967) (v := .bool (false)) rfl rfl rfl rfl (by kernel_rfl) rfl (fun _ _ _ h => h) (fun wx hS => ?_) (R104) ?_
          · have E112 : Ext w wx := Mod.trans (hE3) (hS)
            refine WL.guardT (rfl) ?_
            refine WL.pick (b := false) (congrArg Value.bool hd11_59) rfl rfl ?_
            exact WL.nil ⟨rfl, rfl, rfl⟩
          refine WA.take (i := 55) (m' := 72057594037927935) (v := .bool (false)) rfl rfl rfl rfl (by kernel_rfl) rfl (fun _ _ _ h => h) (fun wx hS => ?_) (R104) ?_
          · have E113 : Ext w wx := Mod.trans (hE3) (hS)
            refine WL.pick (b := false) rfl rfl rfl ?_
            exact WL.nil ⟨rfl, rfl, rfl⟩
          refine WA.done (by kernel_rfl) ?_
          refine WC.condF rfl ?_
          refine WC.skip ?_
          refine WC.region ?_
          refine WL.move (v := IN (j)) h4_3 rfl ?_
          refine WL.bin rfl rfl rfl (BinR.succN (by omega)) ?_
          refine WL.assign (v := IN (j + 1)) rfl rfl ?_
          refine WL.nil ?_
          exact ⟨k3 - 1, by omega, (j + 1), by omega, h1_3, h2_3, h3_3, rfl, h5_3, h6_3, h7_3, h10_3, h11_3, h12_3, h13_3, E105, hC3.ext (R103)⟩
      · refine WC.exit ?_
        refine WC.region ?_
        refine WL.move (v := IN (i)) h3_3 rfl ?_
        refine WL.bin rfl rfl rfl (BinR.succN (by omega)) ?_
        refine WL.assign (v := IN (i + 1)) rfl rfl ?_
        refine WL.nil ?_
        exact ⟨k2 - 1, by omega, (i + 1), by omega, h1_3, h2_3, rfl, h5_3, h6_3, h7_3, hE3, hC3.ext (Mod.refl _ _)⟩
    · refine WC.exit ?_
      refine WC.seq ?_
      refine WC.region ?_
      refine WL.move (v := .int .u8 (((n : Nat) : Int))) h2_2 rfl ?_
      refine WL.move (v := .slice (some ⟨b5, 0, none⟩) 19 19) h1_2 rfl ?_
      refine WL.call ca8 (rfl) rfl (wordAll_cons n (num 0) numR b5 0 19 _ (by omega) (by decide) (by decide) (hC2.ext (Mod.refl _ _)) (ht.ext (hE2)) (by decide)) ?_
      rintro _ wd80 ⟨rfl, ed80⟩
      have R114 : Ext wr2 wd80 := Mod.trans (Mod.refl _ _) (ed80)
      have E115 : Ext w wd80 := Mod.trans (hE2) (ed80)
      refine WL.un rfl rfl UnR.not ?_
      refine WL.move (v := .bool (false)) rfl rfl ?_
      refine WL.guardT (rfl) ?_
      refine WL.move (v := .int .u8 (((n : Nat) : Int))) h2_2 rfl ?_
      refine WL.guardT (rfl) ?_
      refine WL.move (v := .slice (some ⟨b5, 0, none⟩) 19 19) h1_2 rfl ?_
      refine WL.guardT (rfl) ?_
      refine WL.sliceTo (j := 1) el35 sz2 rfl rfl (by decide) rfl ?_
      refine WL.guardT (rfl) ?_
      refine WL.call ca8 (rfl) rfl (wordAll_cons n (num 0) [] b5 0 19 _ (by omega) (by decide) (by decide) (num_one (hC2.ext (R114))) (ht.ext (E115)) (by decide)) ?_
      rintro _ wd86 ⟨rfl, ed86⟩
      have R116 : Ext wr2 wd86 := Mod.trans (R114) (ed86)
      have E117 : Ext w wd86 := Mod.trans (E115) (ed86)
      refine WL.guardT (rfl) ?_
      refine WL.un rfl rfl UnR.not ?_
      refine WL.pick (b := false) rfl rfl rfl ?_
      refine WL.move (v := .bool (false)) rfl rfl ?_
      refine WL.guardT (rfl) ?_
      refine WL.move (v := .int .u8 (((n : Nat) : Int))) h2_2 rfl ?_
      refine WL.guardT (rfl) ?_
      refine WL.call ca8 (rfl) rfl (wordAll_nil n none 0 _ (ht.ext (E117))) ?_
      rintro _ wd91 ⟨rfl, ed91⟩
      have R118 : Ext wr2 wd91 := Mod.trans (R116) (ed91)
      have E119 : Ext w wd91 := Mod.trans (E117) (ed91)
      refine WL.guardT (rfl) ?_
      refine WL.un rfl rfl UnR.not ?_
      refine WL.pick (b := false) rfl rfl rfl ?_
      refine WL.move (v := .bool (false)) rfl rfl ?_
      refine WL.guardT (rfl) ?_
      refine WL.move (v := .int .u8 (((n : Nat) : Int))) h2_2 rfl ?_
      refine WL.guardT (rfl) ?_
      refine WL.call ca6 (rfl) rfl (wordFacts_spec n (0#64) (0#64) (true) (true) _ (by omega) (ht.ext (E119))) ?_
      rintro _ wd96 ⟨rfl, ed96⟩
      have R120 : Ext wr2 wd96 := Mod.trans (R118) (ed96)
      have E121 : Ext w wd96 := Mod.trans (E119) (ed96)
      refine WL.guardT (rfl) ?_
      refine WL.un rfl rfl UnR.not ?_
      refine WL.pick (b := false) rfl rfl rfl ?_
      refine WL.nil ?_
      refine WC.condF rfl ?_
      refine WC.skip ?_
      refine WC.region ?_
      refine WL.move (v := .int .u8 (((n : Nat) : Int))) h2_2 rfl ?_
      refine WL.bin rfl rfl rfl (BinR.addK8 (a := n) (b := 1) (by omega)) ?_
      refine WL.assign (v := .int .u8 (((n + 1 : Nat) : Int))) rfl rfl ?_
      refine WL.nil ?_
      exact ⟨k1 - 1, by omega, (n + 1), by omega, h1_2, rfl, h5_2, E121, hC2.ext (R120)⟩
  · refine WC.exit ?_
    refine WC.seq ?_
    refine WC.region ?_
    refine WL.call ca5 (rfl) rfl (wordDo_spec 255 (1#64) (2#64) _ (by decide) (ht.ext (hE1))) ?_
    rintro _ wd99 ⟨rfl, ed99⟩
    have R122 : Ext wr1 wd99 := Mod.trans (Mod.refl _ _) (ed99)
    have E123 : Ext w wd99 := Mod.trans (hE1) (ed99)
    refine WL.move (v := .bool (true)) rfl rfl ?_
    refine WL.guardT (rfl) ?_
    refine WL.call ca11 (rfl) rfl (works_spec _ (ht.ext (E123))) ?_
    rintro _ wd101 ⟨rfl, ed101⟩
    have R124 : Ext wr1 wd101 := Mod.trans (R122) (ed101)
    have E125 : Ext w wd101 := Mod.trans (E123) (ed101)
    refine WL.pick (b := true) rfl rfl rfl ?_
    refine WL.assign (v := .bool (true)) rfl rfl ?_
    refine WL.nil ?_
    refine WC.ret ?_
    exact ⟨_, Res.one (v := .bool (true)) rfl rfl, rfl, E125⟩
end Go.Proofs.W
