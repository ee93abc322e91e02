import Derived.Test.YtljcijdkoncodaaImgBig
import Derived.Test.YtljcijdkoncodaaRows
import Derived.Test.YtljcijdkoncodaaImZ2
import Derived.Test.YtljcijdkoncodaaImgInj
set_option linter.unusedSimpArgs false
set_option linter.unusedVariables false
namespace Go.Proofs.I
open Go Go.Ux Go.Ux.Image Go.Proofs
theorem bld8_8  : ∀ w : World, (Instr.build 49 #[(0, St [97])]).run Try.prog w = .ok (.agg #[St [97], IN (0)]) w := fun _ => by kernel_rfl
theorem bls8_9  : ∀ w : World, (Instr.buildSlice 22 1 #[(0, .agg #[St [97], IN (0)])]).run Try.prog w = .ok (.slice (some ⟨w.heap.size, 0, none⟩) 1 1) (w.alloc (.cells #[St [97], IN (0)] 49)) := fun _ => by kernel_rfl
theorem bls8_10  : ∀ w : World, (Instr.buildSlice 23 1 #[(0, .int .u32 (115))]).run Try.prog w = .ok (.slice (some ⟨w.heap.size, 0, none⟩) 1 1) (w.alloc (.cells #[.int .u32 (115)] 42)) := fun _ => by kernel_rfl
theorem bld8_11 (a c : Nat) : ∀ w : World, (Instr.build 25 #[(0, IN (8)), (1, .slice (some ⟨a, 0, none⟩) 1 1), (2, .slice (some ⟨c, 0, none⟩) 1 1)]).run Try.prog w = .ok (.agg #[IN (8), .slice (some ⟨a, 0, none⟩) 1 1, .slice (some ⟨c, 0, none⟩) 1 1]) w := fun _ => by kernel_rfl
theorem ca13 : callable Try.prog 13 = true := by kernel_rfl
theorem ca17 : callable Try.prog 17 = true := by kernel_rfl
theorem ca14 : callable Try.prog 14 = true := by kernel_rfl

def IW : Img := ⟨8, [([97], 0)], [115#32]⟩
theorem hrW : rightB IW = true := by decide
theorem hbW : (bytesOf IW == [80, 77, 73, 49, 0, 0, 0, 8, 0, 1, 1, 97, 0, 0, 0, 0, 0, 0, 0, 1, 0, 0, 0, 115]) = true := by decide +kernel
theorem hlW : 14 ≤ (bytesOf IW).length ∧ (bytesOf IW).length ≤ 87 := bytesOf_le hrW
theorem hNW : ∀ s ∈ IW.syms, s.1.length ≤ 1000000000 ∧ s.2 ≤ 9223372036854775807 := by decide
theorem Sl.ofCells {w : World} {b n size : Nat} {xs : List Value} (h : Cells w b 0 xs) (hl : xs.length = n * size) : Sl w (.slice (some ⟨b, 0, none⟩) n n) size n xs := ⟨_, n, rfl, Nat.le_refl _, hl, .inr ⟨b, 0, rfl, h⟩⟩

theorem works_spec (w : World) : CallsR Try.prog 8 #[] w (fun v w' => v = .bool true ∧ Ext w w') := by
  refine callsR_of Try.func8 rfl rfl rfl ?_
  refine WC.seq ?_
  refine WC.region ?_
  refine WL.assign (v := .bool (false)) rfl rfl ?_
  refine WL.nil ?_
  refine WC.seq ?_
  refine WC.region ?_
  refine WL.build (v := .agg #[St [97], IN (0)]) (vs := [(0, St [97])]) rfl (bld8_8) rfl ?_
  refine WL.buildSlice (vs := [(0, .agg #[St [97], IN (0)])]) rfl (bls8_9) rfl ?_
  intro b9 w9 n9
  have E1 : Ext w w9 := Mod.trans (Mod.refl _ _) (n9.ext)
  refine WL.buildSlice (vs := [(0, .int .u32 (115))]) rfl (bls8_10) rfl ?_
  intro b10 w10 n10
  have E2 : Ext w w10 := Mod.trans (E1) (n10.ext)
  refine WL.build (v := .agg #[IN (8), .slice (some ⟨b9, 0, none⟩) 1 1, .slice (some ⟨b10, 0, none⟩) 1 1]) (vs := [(0, IN (8)), (1, .slice (some ⟨b9, 0, none⟩) 1 1), (2, .slice (some ⟨b10, 0, none⟩) 1 1)]) rfl (bld8_11 b9 b10) rfl ?_
  refine WL.allocStore (v := .agg #[IN (8), .slice (some ⟨b9, 0, none⟩) 1 1, .slice (some ⟨b10, 0, none⟩) 1 1]) zt25 rfl sz25 rfl rfl rfl rfl ?_
  intro b1 w1 n1
  have E3 : Ext w w1 := Mod.trans (E2) (n1.ext)
  refine WL.nil ?_
  refine WC.seq ?_
  refine WC.region ?_
  refine WL.loadS [IN (8), .slice (some ⟨b9, 0, none⟩) 1 1, .slice (some ⟨b10, 0, none⟩) 1 1] rfl ag25 sz25 rfl (n1.blk.sub (o := 0) (vs := [IN (8), .slice (some ⟨b9, 0, none⟩) 1 1, .slice (some ⟨b10, 0, none⟩) 1 1]) rfl) rfl ?_
  have B4 := ((n9.blk).ext (n10.ext)).ext (n1.ext)
  have B5 := (n10.blk).ext (n1.ext)
  have hR14 : Rep w1 (.slice (some ⟨b9, 0, none⟩) 1 1) (.slice (some ⟨b10, 0, none⟩) 1 1) IW := ⟨Sl.ofCells (B4).cells rfl, Sl.ofCells (B5).cells rfl, by decide, by decide⟩
  refine WL.call ca11 (rfl) rfl (put_ok (.slice (some ⟨b9, 0, none⟩) 1 1) (.slice (some ⟨b10, 0, none⟩) 1 1) IW _ hR14 hNW hrW) ?_
  rintro _ wd14 ⟨u14, rfl, o14, f14, e14⟩
  have E6 : Ext w wd14 := Mod.trans (E3) (e14)
  refine WL.move (v := .tuple #[u14, .int .i64 0]) rfl rfl ?_
  refine WL.extract rfl rfl rfl ?_
  refine WL.extract rfl rfl rfl ?_
  refine WL.assign (v := u14) rfl rfl ?_
  refine WL.assign (v := .int .i64 (0)) rfl rfl ?_
  refine WL.nil ?_
  refine WC.seq ?_
  refine WC.region ?_
  refine WL.move (v := u14) rfl rfl ?_
  refine WL.call ca13 (rfl) rfl (iget_ok u14 (bytesOf IW) _ (o14).sl (fun g hg => (o14).lt (by have := hlW; omega) (by decide) hg) (by have := hlW; omega) IW hrW rfl) ?_
  rintro _ wd19 ⟨u19, x19, rfl, su19, ox19, fu19, fx19, hne19, e19⟩
  have E7 : Ext w wd19 := Mod.trans (E6) (e19)
  refine WL.move (v := .tuple #[.agg #[.int .i64 IW.entry, u19, x19], .int .i64 0]) rfl rfl ?_
  refine WL.extract rfl rfl rfl ?_
  refine WL.extract rfl rfl rfl ?_
  refine WL.allocStore (v := .agg #[.int .i64 (IW.entry), u19, x19]) zt25 rfl sz25 rfl rfl (ones3 rfl (su19).one (ox19.sl).one) rfl ?_
  intro b4 w4 n4
  have E8 : Ext w w4 := Mod.trans (E7) (n4.ext)
  refine WL.assign (v := .int .i64 (0)) rfl rfl ?_
  refine WL.nil ?_
  refine WC.seq ?_
  refine WC.region ?_
  have B9 := (((n1.blk).ext (e14)).ext (e19)).ext (n4.ext)
  refine WL.loadS [IN (8), .slice (some ⟨b9, 0, none⟩) 1 1, .slice (some ⟨b10, 0, none⟩) 1 1] rfl ag25 sz25 rfl (B9.sub (o := 0) (vs := [IN (8), .slice (some ⟨b9, 0, none⟩) 1 1, .slice (some ⟨b10, 0, none⟩) 1 1]) rfl) rfl ?_
  have B10 := (((B4).ext (e14)).ext (e19)).ext (n4.ext)
  have B11 := (((B5).ext (e14)).ext (e19)).ext (n4.ext)
  have hR24 : Rep w4 (.slice (some ⟨b9, 0, none⟩) 1 1) (.slice (some ⟨b10, 0, none⟩) 1 1) IW := ⟨Sl.ofCells (B10).cells rfl, Sl.ofCells (B11).cells rfl, by decide, by decide⟩
  refine WL.call ca17 (rfl) rfl (find_first [97] (.slice (some ⟨b9, 0, none⟩) 1 1) (.slice (some ⟨b10, 0, none⟩) 1 1) IW _ hR24 (by decide) rfl) ?_
  rintro _ wd24 ⟨rfl, e24⟩
  have E12 : Ext w wd24 := Mod.trans (E8) (e24)
  refine WL.move (v := .tuple #[IN 0, .bool true]) rfl rfl ?_
  refine WL.extract rfl rfl rfl ?_
  refine WL.extract rfl rfl rfl ?_
  refine WL.assign (v := IN (0)) rfl rfl ?_
  refine WL.assign (v := .bool (true)) rfl rfl ?_
  refine WL.nil ?_
  refine WC.seq ?_
  refine WC.region ?_
  refine WL.move (v := .int .i64 (0)) rfl rfl ?_
  refine WL.bin (v := .bool (true)) rfl rfl rfl (BinR.toB (BinR.eql) (rfl)) ?_
  refine WL.move (v := .bool (true)) rfl rfl ?_
  refine WL.guardT (rfl) ?_
  refine WL.move (v := u14) rfl rfl ?_
  refine WL.guardT (rfl) ?_
  have O13 := (((o14).ext (e19)).ext (n4.ext)).ext (e24)
  refine WL.toString (m := (bytesOf IW).length) (bl := (bytesOf IW)) Try.underlying28 Try.underlying5 Try.underlying9 rfl ((O13).sl) rfl ?_
  refine WL.guardT (rfl) ?_
  refine WL.bin (v := .bool (true)) rfl (vy := St [80, 77, 73, 49, 0, 0, 0, 8, 0, 1, 1, 97, 0, 0, 0, 0, 0, 0, 0, 1, 0, 0, 0, 115]) rfl rfl (BinR.toB (BinR.eqlS) (hbW)) ?_
  refine WL.pick (b := true) rfl rfl rfl ?_
  refine WL.move (v := .bool (true)) rfl rfl ?_
  refine WL.guardT (rfl) ?_
  refine WL.move (v := .int .i64 (0)) rfl rfl ?_
  refine WL.guardT (rfl) ?_
  refine WL.bin (v := .bool (true)) rfl rfl rfl (BinR.toB (BinR.eql) (rfl)) ?_
  refine WL.pick (b := true) rfl rfl rfl ?_
  refine WL.move (v := .bool (true)) rfl rfl ?_
  refine WL.guardT (rfl) ?_
  have B14 := (n4.blk).ext (e24)
  refine WL.loadS [.int .i64 (IW.entry), u19, x19] rfl ag25 sz25 rfl (B14.sub (o := 0) (vs := [.int .i64 (IW.entry), u19, x19]) rfl) rfl ?_
  refine WL.guardT (rfl) ?_
  have B15 := (B9).ext (e24)
  refine WL.loadS [IN (8), .slice (some ⟨b9, 0, none⟩) 1 1, .slice (some ⟨b10, 0, none⟩) 1 1] rfl ag25 sz25 rfl (B15.sub (o := 0) (vs := [IN (8), .slice (some ⟨b9, 0, none⟩) 1 1, .slice (some ⟨b10, 0, none⟩) 1 1]) rfl) rfl ?_
  refine WL.guardT (rfl) ?_
  have S16 := ((su19).ext' (n4.ext)).ext' (e24)
  have S17 := ((ox19.sl).ext' (n4.ext)).ext' (e24)
  have B18 := (B10).ext (e24)
  have B19 := (B11).ext (e24)
  have hR41 : Rep wd24 (.slice (some ⟨b9, 0, none⟩) 1 1) (.slice (some ⟨b10, 0, none⟩) 1 1) IW := ⟨Sl.ofCells (B18).cells rfl, Sl.ofCells (B19).cells rfl, by decide, by decide⟩
  refine WL.call ca14 (rfl) rfl (same_spec u19 x19 (.slice (some ⟨b9, 0, none⟩) 1 1) (.slice (some ⟨b10, 0, none⟩) 1 1) IW IW _ ⟨S16, S17, by decide, by decide⟩ hR41) ?_
  rintro _ wd41 ⟨rfl, e41⟩
  rw [beq_self_eq_true]
  have E20 : Ext w wd41 := Mod.trans (E12) (e41)
  refine WL.pick (b := true) rfl rfl rfl ?_
  refine WL.move (v := .bool (true)) rfl rfl ?_
  refine WL.guardT (rfl) ?_
  refine WL.move (v := .bool (true)) rfl rfl ?_
  refine WL.pick (b := true) rfl rfl rfl ?_
  refine WL.move (v := .bool (true)) rfl rfl ?_
  refine WL.guardT (rfl) ?_
  refine WL.move (v := IN (0)) rfl rfl ?_
  refine WL.guardT (rfl) ?_
  refine WL.bin (v := .bool (true)) rfl rfl rfl (BinR.toB (BinR.eql) (rfl)) ?_
  refine WL.pick (b := true) rfl rfl rfl ?_
  refine WL.move (v := .bool (true)) rfl rfl ?_
  refine WL.guardT (rfl) ?_
  have B21 := (B15).ext (e41)
  refine WL.loadS [IN (8), .slice (some ⟨b9, 0, none⟩) 1 1, .slice (some ⟨b10, 0, none⟩) 1 1] rfl ag25 sz25 rfl (B21.sub (o := 0) (vs := [IN (8), .slice (some ⟨b9, 0, none⟩) 1 1, .slice (some ⟨b10, 0, none⟩) 1 1]) rfl) rfl ?_
  refine WL.guardT (rfl) ?_
  have B22 := (B18).ext (e41)
  have B23 := (B19).ext (e41)
  have hR52 : Rep wd41 (.slice (some ⟨b9, 0, none⟩) 1 1) (.slice (some ⟨b10, 0, none⟩) 1 1) IW := ⟨Sl.ofCells (B22).cells rfl, Sl.ofCells (B23).cells rfl, by decide, by decide⟩
  refine WL.call ca12 (rfl) rfl (right_spec (.slice (some ⟨b9, 0, none⟩) 1 1) (.slice (some ⟨b10, 0, none⟩) 1 1) IW _ hR52 hNW) ?_
  rintro _ wd52 ⟨rfl, e52⟩
  rw [hrW]
  have E24 : Ext w wd52 := Mod.trans (E20) (e52)
  refine WL.pick (b := true) rfl rfl rfl ?_
  refine WL.assign (v := .bool (true)) rfl rfl ?_
  refine WL.nil ?_
  refine WC.ret ?_
  exact ⟨_, Res.one (v := .bool (true)) rfl rfl, rfl, E24⟩
end Go.Proofs.I
