/- Steps of the proof, packed by program: McN2 McN3 McN4 MiY1 MiY4 McTq. -/
import Derived.Test.YtlabgjcjccdjfaaGreatDoorRows
import Derived.Test.YtlabgjcjccdjfaaGreatDoorMpackQ01
import Derived.Test.YtlabgjcjccdjfaaGreatDoorMpackQ02
import Derived.Test.YtlabgjcjccdjfaaGreatDoorMpackQ11
import Derived.Test.YtlabgjcjccdjfaaGreatDoorMpackQ12
set_option linter.unusedVariables false
set_option linter.unusedSimpArgs false
set_option linter.unnecessarySimpa false
section
set_option linter.unusedSimpArgs false
set_option linter.unusedVariables false
namespace Go.Proofs.S
open Go Go.Ux Go.Ux.Mach Go.Proofs
theorem ca38 : callable Tryz.prog 38 = true := by kernel_rfl
theorem fo70_2 : fieldOff Tryz.prog 70 2 = some 2 := by kernel_rfl
set_option maxRecDepth 100000 in
theorem load_r1 (addr : BitVec 64) (size o : Nat) (b : Nat) (cv dv sv iv : Value) (x : Nat → BitVec 64) (pc : BitVec 64) (ev : Value) (en tr : Bool) (st : Value) (n : Nat) (d t : Nat → BitVec 8) (w : World) (hB : Blk w b (refCells cv dv sv iv x pc ev en tr st) 70) (hD : Sl w dv 1 n (bsV d n)) (hn : n ≤ 524288) (hT : Sl w sv 1 65536 (bsV t 65536)) (hz : size = 1 ∨ size = 2 ∨ size = 4 ∨ size = 8) (hW : whereR n addr size = (1, o)) (ho : o + size ≤ n) : CallsR Tryz.prog 24 #[ptr b 0, U64 (addr), IN (size)] w (fun v w' => v = .tuple #[U64 (loadT d o size size), .bool true] ∧ Ext w w') := by
  refine callsR_of Tryz.func24 rfl rfl rfl ?_
  refine WC.seq (WC.region (WL.assign (v := U64 (0#64)) rfl rfl (WL.assign (v := .bool (false)) rfl rfl (WL.nil (WC.seq (WC.region (WL.move (v := ptr b 0) rfl rfl (WL.move (v := U64 (addr)) rfl rfl (WL.move (v := IN (size)) rfl rfl ?_)))))))))
  refine WL.call ca38 (rfl) rfl (where_r addr size b cv dv sv iv x pc ev en tr st n d t _ (hB) (hD.ext' (Mod.refl _ _)) hn hz) ?_
  rintro _ wc17 ⟨rfl, ec17⟩
  rw [hW]
  have E1 : Ext w wc17 := Mod.trans (Mod.refl _ _) (ec17)
  refine WL.move (v := .tuple #[IN 1, IN o]) rfl rfl (WL.extract rfl rfl rfl (WL.extract rfl rfl rfl (WL.assign (v := IN (1)) rfl rfl (WL.assign (v := IN (o)) rfl rfl (WL.nil (WC.seq (WC.region (WL.assign (v := U64 (0#64)) rfl rfl (WL.nil ?_)))))))))
  refine WC.seq (WC.seq (WC.region (WL.move (v := IN (size)) rfl rfl (WL.bin rfl rfl rfl (BinR.subI (by omega)) (WL.assign (v := .int .i64 (((size : Nat) : Int) - (1 : Int))) rfl rfl (WL.nil (WC.block ?_)))))))
  refine WC.loop (fun k f w_ => ∃ j, (k + j = size) ∧ f 0 = ptr b 0 ∧ f 2 = IN (size) ∧ f 8 = IN (1) ∧ f 9 = IN (o) ∧ f 10 = U64 ((loadT d o size j)) ∧ f 11 = .int .i64 ((((size : Nat) : Int) - 1 - ((j : Nat) : Int))) ∧ (Ext w w_)) (size) ?_ ?_
  · exact ⟨(0), by omega, rfl, rfl, rfl, rfl, rfl, (by rw [show (((size : Nat) : Int) - 1 - ((0 : Nat) : Int)) = ((size : Nat) : Int) - 1 by omega]; rfl), E1⟩
  rintro ka f1 wr ⟨j, hk, h0_1, h2_1, h8_1, h9_1, h10_1, h11_1, hE⟩
  refine WC.seq (WC.seq (WC.region (WL.move (v := .int .i64 ((((size : Nat) : Int) - 1 - ((j : Nat) : Int)))) h11_1 rfl (WL.bin rfl rfl rfl (BinR.geq) (WL.move (v := .bool (decide ((0 : Int) ≤ ((((size : Nat) : Int) - 1 - ((j : Nat) : Int)) : Int)))) rfl rfl ?_)))))
  rcases Bool.eq_false_or_eq_true (decide ((0 : Int) ≤ ((((size : Nat) : Int) - 1 - ((j : Nat) : Int)) : Int))) with hg24 | hg24
  · have hj : j < size := by have := of_decide_eq_true hg24; omega
    obtain ⟨bd, od, cd, ed, hcd⟩ := hD.at (by omega)
    refine WL.guardT (yf_bool rfl rfl hg24) (WL.move (v := IN (1)) h8_1 rfl (WL.guardT (yf_bool rfl rfl hg24) (WL.bin (v := .bool (true)) rfl rfl rfl (BinR.toB (BinR.gtr) (by decide)) (WL.pick (b := true) (congrArg Value.bool hg24) rfl rfl (WL.nil (WC.condT rfl (WC.skip (WC.seq (WC.block ?_)))))))))
    refine WC.seq (WC.region (WL.assign (v := U8 (0#8)) rfl rfl (WL.nil (WC.seq (WC.seq (WC.region (WL.move (v := IN (1)) h8_1 rfl (WL.bin (v := .bool (true)) rfl rfl rfl (BinR.toB (BinR.eql) (by decide)) (WL.nil ?_)))))))))
    refine WC.condT rfl (WC.region (WL.move (v := ptr b 0) h0_1 rfl (WL.nilCheck rfl rfl (WL.fieldAddr rfl fo70_1 rfl (WL.load1 rfl ag45 ((hB.ext hE).cell (j := 1) rfl) rfl (WL.move (v := IN (o)) h9_1 rfl (WL.move (v := .int .i64 ((((size : Nat) : Int) - 1 - ((j : Nat) : Int)))) h11_1 rfl (WL.bin rfl rfl rfl ((show ((o : Nat) : Int) + (((size : Nat) : Int) - 1 - ((j : Nat) : Int)) = ((o + (size - 1 - j) : Nat) : Int) by omega) ▸ BinR.addI (by omega)) (WL.indexAddr (i := (o + (size - 1 - j))) (b := bd) (o := od) el45 sz5 (Eq.trans (rfl) ed) rfl (by omega) rfl ?_)))))))))
    refine WL.load1 rfl ag5 ((hcd.ext (hE)) ((o + (size - 1 - j)) * 1) _ (by rw [Nat.mul_one]; exact bsV_get d (by omega))) rfl (WL.assign (v := U8 ((d (o + (size - 1 - j))))) rfl rfl (WL.nil (WC.region (WL.move (v := U64 ((loadT d o size j))) h10_1 rfl (WL.bin (vy := .int .u64 ((8 : Nat) : Int)) rfl rfl rfl (BinR.shlU64 (s := 8)) (WL.move (v := U8 ((d (o + (size - 1 - j))))) rfl rfl (WL.conv rfl rfl (ConvR.u8u64 Tryz.underlying5 Tryz.underlying39) (WL.bin rfl rfl rfl (BinR.addU64) (WL.assign (v := U64 (((loadT d o size j <<< 8) + ((d (o + (size - 1 - j)))).setWidth 64))) rfl rfl ?_)))))))))
    refine WL.nil (WC.region (WL.move (v := .int .i64 ((((size : Nat) : Int) - 1 - ((j : Nat) : Int)))) h11_1 rfl (WL.bin rfl rfl rfl (BinR.subI (by omega)) (WL.assign (v := .int .i64 (((((size : Nat) : Int) - 1 - ((j : Nat) : Int)) : Int) - (1 : Int))) rfl rfl (WL.nil ?_)))))
    have h11 : (((size : Nat) : Int) - 1 - (((j + 1 : Nat)) : Int)) = ((((size : Nat) : Int) - 1 - ((j : Nat) : Int)) : Int) - (1 : Int) := by omega
    exact ⟨ka - 1, by omega, (j + 1), by omega, h0_1, h2_1, h8_1, h9_1, rfl, (by rw [h11]; exact rfl), hE⟩
  · have hj : size ≤ j := by have := of_decide_eq_false hg24; omega
    refine WL.guardF (b' := false) (yf_bool rfl rfl hg24) rfl rfl (WL.guardF (b' := false) (yf_bool rfl rfl hg24) rfl rfl (WL.pick (b := false) (congrArg Value.bool hg24) rfl rfl (WL.nil (WC.condF rfl (WC.exit (WC.seq (WC.region (WL.move (v := U64 ((loadT d o size j))) h10_1 rfl (WL.move (v := IN (1)) h8_1 rfl ?_)))))))))
    refine WL.bin (v := .bool (true)) rfl rfl rfl (BinR.toB (BinR.gtr) (by decide)) (WL.assign (v := U64 ((loadT d o size j))) rfl rfl (WL.assign (v := .bool (true)) rfl rfl (WL.nil (WC.ret ?_))))
    exact ⟨_, Res.two (v := U64 ((loadT d o size j))) (v' := .bool (true)) rfl rfl rfl, (by have e : j = size := (by omega); subst e; rfl), hE⟩
set_option maxRecDepth 100000 in
theorem load_r2 (addr : BitVec 64) (size o : Nat) (b : Nat) (cv dv sv iv : Value) (x : Nat → BitVec 64) (pc : BitVec 64) (ev : Value) (en tr : Bool) (st : Value) (n : Nat) (d t : Nat → BitVec 8) (w : World) (hB : Blk w b (refCells cv dv sv iv x pc ev en tr st) 70) (hD : Sl w dv 1 n (bsV d n)) (hn : n ≤ 524288) (hT : Sl w sv 1 65536 (bsV t 65536)) (hz : size = 1 ∨ size = 2 ∨ size = 4 ∨ size = 8) (hW : whereR n addr size = (2, o)) (ho : o + size ≤ 65536) : CallsR Tryz.prog 24 #[ptr b 0, U64 (addr), IN (size)] w (fun v w' => v = .tuple #[U64 (loadT t o size size), .bool true] ∧ Ext w w') := by
  refine callsR_of Tryz.func24 rfl rfl rfl ?_
  refine WC.seq (WC.region (WL.assign (v := U64 (0#64)) rfl rfl (WL.assign (v := .bool (false)) rfl rfl (WL.nil (WC.seq (WC.region (WL.move (v := ptr b 0) rfl rfl (WL.move (v := U64 (addr)) rfl rfl (WL.move (v := IN (size)) rfl rfl ?_)))))))))
  refine WL.call ca38 (rfl) rfl (where_r addr size b cv dv sv iv x pc ev en tr st n d t _ (hB) (hD.ext' (Mod.refl _ _)) hn hz) ?_
  rintro _ wc17 ⟨rfl, ec17⟩
  rw [hW]
  have E1 : Ext w wc17 := Mod.trans (Mod.refl _ _) (ec17)
  refine WL.move (v := .tuple #[IN 2, IN o]) rfl rfl (WL.extract rfl rfl rfl (WL.extract rfl rfl rfl (WL.assign (v := IN (2)) rfl rfl (WL.assign (v := IN (o)) rfl rfl (WL.nil (WC.seq (WC.region (WL.assign (v := U64 (0#64)) rfl rfl (WL.nil ?_)))))))))
  refine WC.seq (WC.seq (WC.region (WL.move (v := IN (size)) rfl rfl (WL.bin rfl rfl rfl (BinR.subI (by omega)) (WL.assign (v := .int .i64 (((size : Nat) : Int) - (1 : Int))) rfl rfl (WL.nil (WC.block ?_)))))))
  refine WC.loop (fun k f w_ => ∃ j, (k + j = size) ∧ f 0 = ptr b 0 ∧ f 2 = IN (size) ∧ f 8 = IN (2) ∧ f 9 = IN (o) ∧ f 10 = U64 ((loadT t o size j)) ∧ f 11 = .int .i64 ((((size : Nat) : Int) - 1 - ((j : Nat) : Int))) ∧ (Ext w w_)) (size) ?_ ?_
  · exact ⟨(0), by omega, rfl, rfl, rfl, rfl, rfl, (by rw [show (((size : Nat) : Int) - 1 - ((0 : Nat) : Int)) = ((size : Nat) : Int) - 1 by omega]; rfl), E1⟩
  rintro ka f1 wr ⟨j, hk, h0_1, h2_1, h8_1, h9_1, h10_1, h11_1, hE⟩
  refine WC.seq (WC.seq (WC.region (WL.move (v := .int .i64 ((((size : Nat) : Int) - 1 - ((j : Nat) : Int)))) h11_1 rfl (WL.bin rfl rfl rfl (BinR.geq) (WL.move (v := .bool (decide ((0 : Int) ≤ ((((size : Nat) : Int) - 1 - ((j : Nat) : Int)) : Int)))) rfl rfl ?_)))))
  rcases Bool.eq_false_or_eq_true (decide ((0 : Int) ≤ ((((size : Nat) : Int) - 1 - ((j : Nat) : Int)) : Int))) with hg24 | hg24
  · have hj : j < size := by have := of_decide_eq_true hg24; omega
    obtain ⟨bd, od, cd, ed, hcd⟩ := hT.at (by omega)
    refine WL.guardT (yf_bool rfl rfl hg24) (WL.move (v := IN (2)) h8_1 rfl (WL.guardT (yf_bool rfl rfl hg24) (WL.bin (v := .bool (true)) rfl rfl rfl (BinR.toB (BinR.gtr) (by decide)) (WL.pick (b := true) (congrArg Value.bool hg24) rfl rfl (WL.nil (WC.condT rfl (WC.skip (WC.seq (WC.block ?_)))))))))
    refine WC.seq (WC.region (WL.assign (v := U8 (0#8)) rfl rfl (WL.nil (WC.seq (WC.seq (WC.region (WL.move (v := IN (2)) h8_1 rfl (WL.bin (v := .bool (false)) rfl rfl rfl (BinR.toB (BinR.eql) (by decide)) (WL.nil ?_)))))))))
    refine WC.condF rfl (WC.region (WL.move (v := ptr b 0) h0_1 rfl (WL.nilCheck rfl rfl (WL.fieldAddr rfl fo70_2 rfl (WL.load1 rfl ag45 ((hB.ext hE).cell (j := 2) rfl) rfl (WL.move (v := IN (o)) h9_1 rfl (WL.move (v := .int .i64 ((((size : Nat) : Int) - 1 - ((j : Nat) : Int)))) h11_1 rfl (WL.bin rfl rfl rfl ((show ((o : Nat) : Int) + (((size : Nat) : Int) - 1 - ((j : Nat) : Int)) = ((o + (size - 1 - j) : Nat) : Int) by omega) ▸ BinR.addI (by omega)) (WL.indexAddr (i := (o + (size - 1 - j))) (b := bd) (o := od) el45 sz5 (Eq.trans (rfl) ed) rfl (by omega) rfl ?_)))))))))
    refine WL.load1 rfl ag5 ((hcd.ext (hE)) ((o + (size - 1 - j)) * 1) _ (by rw [Nat.mul_one]; exact bsV_get t (by omega))) rfl (WL.assign (v := U8 ((t (o + (size - 1 - j))))) rfl rfl (WL.nil (WC.region (WL.move (v := U64 ((loadT t o size j))) h10_1 rfl (WL.bin (vy := .int .u64 ((8 : Nat) : Int)) rfl rfl rfl (BinR.shlU64 (s := 8)) (WL.move (v := U8 ((t (o + (size - 1 - j))))) rfl rfl (WL.conv rfl rfl (ConvR.u8u64 Tryz.underlying5 Tryz.underlying39) (WL.bin rfl rfl rfl (BinR.addU64) (WL.assign (v := U64 (((loadT t o size j <<< 8) + ((t (o + (size - 1 - j)))).setWidth 64))) rfl rfl ?_)))))))))
    refine WL.nil (WC.region (WL.move (v := .int .i64 ((((size : Nat) : Int) - 1 - ((j : Nat) : Int)))) h11_1 rfl (WL.bin rfl rfl rfl (BinR.subI (by omega)) (WL.assign (v := .int .i64 (((((size : Nat) : Int) - 1 - ((j : Nat) : Int)) : Int) - (1 : Int))) rfl rfl (WL.nil ?_)))))
    have h11 : (((size : Nat) : Int) - 1 - (((j + 1 : Nat)) : Int)) = ((((size : Nat) : Int) - 1 - ((j : Nat) : Int)) : Int) - (1 : Int) := by omega
    exact ⟨ka - 1, by omega, (j + 1), by omega, h0_1, h2_1, h8_1, h9_1, rfl, (by rw [h11]; exact rfl), hE⟩
  · have hj : size ≤ j := by have := of_decide_eq_false hg24; omega
    refine WL.guardF (b' := false) (yf_bool rfl rfl hg24) rfl rfl (WL.guardF (b' := false) (yf_bool rfl rfl hg24) rfl rfl (WL.pick (b := false) (congrArg Value.bool hg24) rfl rfl (WL.nil (WC.condF rfl (WC.exit (WC.seq (WC.region (WL.move (v := U64 ((loadT t o size j))) h10_1 rfl (WL.move (v := IN (2)) h8_1 rfl ?_)))))))))
    refine WL.bin (v := .bool (true)) rfl rfl rfl (BinR.toB (BinR.gtr) (by decide)) (WL.assign (v := U64 ((loadT t o size j))) rfl rfl (WL.assign (v := .bool (true)) rfl rfl (WL.nil (WC.ret ?_))))
    exact ⟨_, Res.two (v := U64 ((loadT t o size j))) (v' := .bool (true)) rfl rfl rfl, (by have e : j = size := (by omega); subst e; rfl), hE⟩
set_option maxRecDepth 100000 in
theorem load_r0 (addr : BitVec 64) (size : Nat) (b : Nat) (cv dv sv iv : Value) (x : Nat → BitVec 64) (pc : BitVec 64) (ev : Value) (en tr : Bool) (st : Value) (n : Nat) (d t : Nat → BitVec 8) (w : World) (hB : Blk w b (refCells cv dv sv iv x pc ev en tr st) 70) (hD : Sl w dv 1 n (bsV d n)) (hn : n ≤ 524288) (hz : size = 1 ∨ size = 2 ∨ size = 4 ∨ size = 8) (hW : whereR n addr size = (0, 0)) : CallsR Tryz.prog 24 #[ptr b 0, U64 (addr), IN (size)] w (fun v w' => v = .tuple #[U64 (0#64), .bool false] ∧ Ext w w') := by
  refine callsR_of Tryz.func24 rfl rfl rfl ?_
  refine WC.seq (WC.region (WL.assign (v := U64 (0#64)) rfl rfl (WL.assign (v := .bool (false)) rfl rfl (WL.nil (WC.seq (WC.region (WL.move (v := ptr b 0) rfl rfl (WL.move (v := U64 (addr)) rfl rfl (WL.move (v := IN (size)) rfl rfl ?_)))))))))
  refine WL.call ca38 (rfl) rfl (where_r addr size b cv dv sv iv x pc ev en tr st n d t _ (hB) (hD.ext' (Mod.refl _ _)) hn hz) ?_
  rintro _ wc17 ⟨rfl, ec17⟩
  rw [hW]
  have E1 : Ext w wc17 := Mod.trans (Mod.refl _ _) (ec17)
  refine WL.move (v := .tuple #[IN 0, IN 0]) rfl rfl (WL.extract rfl rfl rfl (WL.extract rfl rfl rfl (WL.assign (v := IN (0)) rfl rfl (WL.assign (v := IN (0)) rfl rfl (WL.nil (WC.seq (WC.region (WL.assign (v := U64 (0#64)) rfl rfl (WL.nil ?_)))))))))
  refine WC.seq (WC.seq (WC.region (WL.move (v := IN (size)) rfl rfl (WL.bin rfl rfl rfl (BinR.subI (by omega)) (WL.assign (v := .int .i64 (((size : Nat) : Int) - (1 : Int))) rfl rfl (WL.nil (WC.block ?_)))))))
  refine WC.loop (fun k f w_ => f 8 = IN (0) ∧ f 10 = U64 (0#64) ∧ f 11 = .int .i64 ((((size : Nat) : Int) - 1)) ∧ (Ext w w_)) (0) ?_ ?_
  · exact ⟨rfl, rfl, rfl, E1⟩
  rintro k f1 wr ⟨h8_1, h10_1, h11_1, hE⟩
  refine WC.seq (WC.seq (WC.region (WL.move (v := .int .i64 ((((size : Nat) : Int) - 1))) h11_1 rfl (WL.bin (v := .bool (true)) rfl rfl rfl (BinR.toB (BinR.geq) (decide_eq_true (by omega))) (WL.move (v := .bool (true)) rfl rfl (WL.guardT (rfl) (WL.move (v := IN (0)) h8_1 rfl (WL.guardT (rfl) (WL.bin (v := .bool (false)) rfl rfl rfl (BinR.toB (BinR.gtr) (by decide)) ?_)))))))))
  refine WL.pick (b := true) rfl rfl rfl (WL.nil (WC.condF rfl (WC.exit (WC.seq (WC.region (WL.move (v := U64 (0#64)) h10_1 rfl (WL.move (v := IN (0)) h8_1 rfl (WL.bin (v := .bool (false)) rfl rfl rfl (BinR.toB (BinR.gtr) (by decide)) (WL.assign (v := U64 (0#64)) rfl rfl ?_)))))))))
  refine WL.assign (v := .bool (false)) rfl rfl (WL.nil (WC.ret ?_))
  exact ⟨_, Res.two (v := U64 (0#64)) (v' := .bool (false)) rfl rfl rfl, rfl, hE⟩
end Go.Proofs.S
end
section
set_option linter.unusedSimpArgs false
set_option linter.unusedVariables false
namespace Go.Proofs.S
open Go Go.Ux Go.Ux.Mach Go.Proofs
end Go.Proofs.S
end
section
set_option linter.unusedSimpArgs false
set_option linter.unusedVariables false
namespace Go.Proofs.S
open Go Go.Ux Go.Ux.Mach Go.Proofs
theorem fo61_0 : fieldOff Tryz.prog 61 0 = some 0 := by kernel_rfl
theorem bld22_10 (a b n m : Nat) : ∀ w : World, (Instr.build 70 #[(1, .slice (some ⟨a, 0, none⟩) n n), (2, .slice (some ⟨b, 0, none⟩) m m), (5, U64 (65536#64))]).run Tryz.prog w = .ok (.agg #[.slice none 0 0, .slice (some ⟨a, 0, none⟩) n n, .slice (some ⟨b, 0, none⟩) m m, .slice none 0 0, .int .u64 (0), .int .u64 (0), .int .u64 (0), .int .u64 (0), .int .u64 (0), .int .u64 (0), .int .u64 (0), .int .u64 (0), .int .u64 (0), .int .u64 (0), .int .u64 (0), .int .u64 (0), .int .u64 (0), .int .u64 (0), .int .u64 (0), .int .u64 (0), .int .u64 (0), .int .u64 (0), .int .u64 (0), .int .u64 (0), .int .u64 (0), .int .u64 (0), .int .u64 (0), .int .u64 (0), .int .u64 (0), .int .u64 (0), .int .u64 (0), .int .u64 (0), .int .u64 (0), .int .u64 (0), .int .u64 (0), .int .u64 (0), U64 (65536#64), .slice none 0 0, .bool (false), .bool (false), IN (0)]) w := fun _ => by kernel_rfl
theorem fo70_0 : fieldOff Tryz.prog 70 0 = some 0 := by kernel_rfl
theorem fo61_2 : fieldOff Tryz.prog 61 2 = some 2 := by kernel_rfl
theorem sz23 : sizeT Tryz.prog 23 = some 1 := by kernel_rfl
theorem fo70_3 : fieldOff Tryz.prog 70 3 = some 3 := by kernel_rfl
theorem fo70_4 : fieldOff Tryz.prog 70 4 = some 4 := by kernel_rfl
open Go.Proofs.M (instV Glob)
open Go.Ux.Image
theorem ones_U32 (l : List (BitVec 32)) : ∀ u ∈ wordCells l, u.oneCell' = true := by
  intro u hu; unfold wordCells at hu; obtain ⟨x, _, rfl⟩ := List.mem_map.1 hu; rfl
set_option maxRecDepth 100000 in
theorem rnew (u wv iv0 : Value) (I : Img) (inp : List (BitVec 64)) (w : World) (hw : Sl w wv 1 I.words.length (wordCells I.words)) (hwl : I.words.length ≤ 1000000) (hI : Sl w iv0 1 inp.length (inp.map I64)) (hil : inp.length ≤ 1000000) (h0 : 0 ≤ I.entry) (hE : I.entry ≤ 524288) (hu : u.oneCell' = true) : CallsR Tryz.prog 22 #[.agg #[.int .i64 (I.entry), u, wv], iv0] w (fun v w' => ∃ b cv dv sv iv, v = ptr b 0 ∧ Blk w' b (refCells cv dv sv iv (newM I inp).x 65536#64 (.slice none 0 0) false false (IN 0)) 70 ∧ Ux.Own w' 1 cv I.words.length (wordCells I.words) ∧ Ux.Own w' 1 dv I.entry.toNat (bsV (fun _ => 0#8) I.entry.toNat) ∧ Ux.Own w' 1 sv 65536 (bsV (fun _ => 0#8) 65536) ∧ Ux.Own w' 1 iv inp.length (inp.map I64) ∧ Ext w w') := by
  have hent : Value.int .i64 I.entry = IN I.entry.toNat := by show Value.int .i64 I.entry = Value.int .i64 ((I.entry.toNat : Nat) : Int); congr 1; omega
  refine callsR_of Tryz.func22 rfl rfl rfl ?_
  refine WC.seq (WC.region (WL.box (v := .agg #[.int .i64 (I.entry), u, wv]) rfl rfl ?_))
  intro b2 w2 n2
  have E1 : Ext w w2 := Mod.trans (Mod.refl _ _) (n2.ext)
  refine WL.assign (v := .pointer none) rfl rfl (WL.nil (WC.seq (WC.draw (fun w_ => Ext w2 w_) 7 rfl mixed ?_)))
  intro wd_1 ed_1
  have R2 : Ext w2 wd_1 := Mod.trans (Mod.refl _ _) (ed_1)
  have E3 : Ext w wd_1 := Mod.trans (E1) (ed_1)
  refine WA.take (i := 0) (m' := 1) (v := ptr b2 0) rfl rfl rfl rfl (by kernel_rfl) rfl (fun _ _ _ h => h) (fun wx hS => ?_) (R2) ?_
  · exact WL.fieldAddr rfl fo61_0 rfl (WL.nil ⟨rfl, rfl, rfl⟩)
  refine WA.take (i := 1) (m' := 3) (v := .int .i64 (I.entry)) rfl rfl rfl rfl (by kernel_rfl) rfl (fun _ _ _ h => h) (fun wx hS => ?_) (R2) ?_
  · have B6 := (n2.blk).ext (hS)
    exact WL.load1 rfl ag3 (B6.cell (j := 0) rfl) rfl (WL.nil ⟨rfl, rfl, rfl⟩)
  refine WA.two (i := 2) (j := 3) (mi := 7) (mj := 11) (by kernel_rfl) rfl rfl rfl rfl ?_ ?_
  · refine WL.makeSliceB (m := I.entry.toNat) ap45 (Eq.trans (rfl) hent) (Eq.trans (rfl) hent) (by omega) (by omega) rfl ?_
    intro b8 w8 n8
    have R7 : Ext w2 w8 := Mod.trans (R2) (n8.ext)
    have E8 : Ext w w8 := Mod.trans (E3) (n8.ext)
    refine WL.behind (R7) ?_
    refine WA.one (i := 3) (m' := 15) (by kernel_rfl) rfl rfl ?_
    refine WL.makeSliceB (m := 65536) ap45 rfl rfl (by omega) (by omega) rfl ?_
    intro b9 w9 n9
    have R9 : Ext w2 w9 := Mod.trans (R7) (n9.ext)
    have E10 : Ext w w9 := Mod.trans (E8) (n9.ext)
    refine WL.behind (R9) ?_
    refine WA.take (i := 4) (m' := 31) (v := .agg #[.slice none 0 0, .slice (some ⟨b8, 0, none⟩) (I.entry.toNat) (I.entry.toNat), .slice (some ⟨b9, 0, none⟩) (65536) (65536), .slice none 0 0, .int .u64 (0), .int .u64 (0), .int .u64 (0), .int .u64 (0), .int .u64 (0), .int .u64 (0), .int .u64 (0), .int .u64 (0), .int .u64 (0), .int .u64 (0), .int .u64 (0), .int .u64 (0), .int .u64 (0), .int .u64 (0), .int .u64 (0), .int .u64 (0), .int .u64 (0), .int .u64 (0), .int .u64 (0), .int .u64 (0), .int .u64 (0), .int .u64 (0), .int .u64 (0), .int .u64 (0), .int .u64 (0), .int .u64 (0), .int .u64 (0), .int .u64 (0), .int .u64 (0), .int .u64 (0), .int .u64 (0), .int .u64 (0), U64 (65536#64), .slice none 0 0, .bool (false), .bool (false), IN (0)]) rfl rfl rfl rfl (by kernel_rfl) rfl (fun _ _ _ h => h) (fun wx hS => ?_) (R9) ?_
    · exact WL.build (v := .agg #[.slice none 0 0, .slice (some ⟨b8, 0, none⟩) (I.entry.toNat) (I.entry.toNat), .slice (some ⟨b9, 0, none⟩) (65536) (65536), .slice none 0 0, .int .u64 (0), .int .u64 (0), .int .u64 (0), .int .u64 (0), .int .u64 (0), .int .u64 (0), .int .u64 (0), .int .u64 (0), .int .u64 (0), .int .u64 (0), .int .u64 (0), .int .u64 (0), .int .u64 (0), .int .u64 (0), .int .u64 (0), .int .u64 (0), .int .u64 (0), .int .u64 (0), .int .u64 (0), .int .u64 (0), .int .u64 (0), .int .u64 (0), .int .u64 (0), .int .u64 (0), .int .u64 (0), .int .u64 (0), .int .u64 (0), .int .u64 (0), .int .u64 (0), .int .u64 (0), .int .u64 (0), .int .u64 (0), U64 (65536#64), .slice none 0 0, .bool (false), .bool (false), IN (0)]) (vs := [(1, .slice (some ⟨b8, 0, none⟩) (I.entry.toNat) (I.entry.toNat)), (2, .slice (some ⟨b9, 0, none⟩) (65536) (65536)), (5, U64 (65536#64))]) rfl (bld22_10 b8 b9 I.entry.toNat 65536) rfl (WL.nil ⟨rfl, rfl, rfl⟩)
    refine WA.one (i := 5) (m' := 63) (by kernel_rfl) rfl rfl ?_
    have B12 := (n8.blk).ext (n9.ext)
    refine WL.box (v := .agg #[.slice none 0 0, .slice (some ⟨b8, 0, none⟩) (I.entry.toNat) (I.entry.toNat), .slice (some ⟨b9, 0, none⟩) (65536) (65536), .slice none 0 0, .int .u64 (0), .int .u64 (0), .int .u64 (0), .int .u64 (0), .int .u64 (0), .int .u64 (0), .int .u64 (0), .int .u64 (0), .int .u64 (0), .int .u64 (0), .int .u64 (0), .int .u64 (0), .int .u64 (0), .int .u64 (0), .int .u64 (0), .int .u64 (0), .int .u64 (0), .int .u64 (0), .int .u64 (0), .int .u64 (0), .int .u64 (0), .int .u64 (0), .int .u64 (0), .int .u64 (0), .int .u64 (0), .int .u64 (0), .int .u64 (0), .int .u64 (0), .int .u64 (0), .int .u64 (0), .int .u64 (0), .int .u64 (0), U64 (65536#64), .slice none 0 0, .bool (false), .bool (false), IN (0)]) rfl rfl ?_
    intro b11 w11 n11
    have R13 : Ext w2 w11 := Mod.trans (R9) (n11.ext)
    have E14 : Ext w w11 := Mod.trans (E10) (n11.ext)
    have hx8 : b8 ≠ b11 := by have h1 := (B12).lt; have := n11.num; omega
    have hx9 : b9 ≠ b11 := by have h1 := (n9.blk).lt; have := n11.num; omega
    refine WL.behind (R13) ?_
    refine WA.take (i := 6) (m' := 127) (v := ptr b11 0) rfl rfl rfl rfl (by kernel_rfl) rfl (fun _ _ _ h => h) (fun wx hS => ?_) (R13) ?_
    · exact WL.assign (v := ptr b11 0) rfl rfl (WL.nil ⟨rfl, rfl, rfl⟩)
    refine WA.done (by kernel_rfl) ?_
    refine WC.seq (WC.drawL (fun w_ => Ext w11 w_) 10 11 rfl mixed ?_)
    intro wd_2 ed_2
    have R16 : Ext w11 wd_2 := Mod.trans (Mod.refl _ _) (ed_2)
    have E17 : Ext w wd_2 := Mod.trans (E14) (ed_2)
    refine WAL.take (i := 0) (m' := 1) (v := ptr b11 0) rfl rfl rfl rfl (by kernel_rfl) rfl (fun _ _ _ h => h) (fun wx hS => ?_) (R16) ?_
    · exact WL.move (v := ptr b11 0) rfl rfl (WL.nil ⟨rfl, rfl, rfl⟩)
    refine WAL.take (i := 1) (m' := 3) (v := ptr b11 0) rfl rfl rfl rfl (by kernel_rfl) rfl (fun _ _ _ h => h) (fun wx hS => ?_) (R16) ?_
    · exact WL.move (v := ptr b11 0) rfl rfl (WL.nil ⟨rfl, rfl, rfl⟩)
    refine WAL.take (i := 2) (m' := 7) (v := ptr b11 0) rfl rfl rfl rfl (by kernel_rfl) rfl (fun _ _ _ h => h) (fun wx hS => ?_) (R16) ?_
    · exact WL.nilCheck rfl rfl (WL.nil ⟨rfl, rfl, rfl⟩)
    refine WAL.take (i := 3) (m' := 15) (v := ptr b11 0) rfl rfl rfl rfl (by kernel_rfl) rfl (fun _ _ _ h => h) (fun wx hS => ?_) (R16) ?_
    · exact WL.fieldAddr rfl fo70_0 rfl (WL.nil ⟨rfl, rfl, rfl⟩)
    refine WAL.take (i := 4) (m' := 31) (v := .slice none 0 0) rfl rfl rfl rfl (by kernel_rfl) rfl (fun _ _ _ h => h) (fun wx hS => ?_) (R16) ?_
    · have B23 := (n11.blk).ext (hS)
      exact WL.load1 rfl ag23 (B23.cell (j := 0) rfl) rfl (WL.nil ⟨rfl, rfl, rfl⟩)
    refine WAL.take (i := 5) (m' := 63) (v := ptr b2 2) rfl rfl rfl rfl (by kernel_rfl) rfl (fun _ _ _ h => h) (fun wx hS => ?_) (R16) ?_
    · exact WL.fieldAddr rfl fo61_2 rfl (WL.nil ⟨rfl, rfl, rfl⟩)
    refine WAL.take (i := 6) (m' := 127) (v := wv) rfl rfl rfl rfl (by kernel_rfl) rfl (fun _ _ _ h => h) (fun wx hS => ?_) (R16) ?_
    · have B26 := (((((n2.blk).ext (ed_1)).ext (n8.ext)).ext (n9.ext)).ext (n11.ext)).ext (hS)
      exact WL.load1 rfl ag23 (B26.cell (j := 2) rfl) rfl (WL.nil ⟨rfl, rfl, rfl⟩)
    refine WAL.one (i := 7) (m' := 255) (by kernel_rfl) rfl rfl ?_
    refine WL.append (k := 0) (m := I.words.length) (xs := []) (news := wordCells I.words) ap23 rfl rfl rfl (Ux.Own.nil _ 1) (((hw).ext' (E17)).src Tryz.underlying23 (ones_U32 _)) (by omega) (by omega) rfl ?_
    intro v19 w19 o19 m19 l19
    have e19 : Ext wd_2 w19 := Mod.then (Mod.refl _ _) m19 (fun i hi e => by cases e)
    have o19b : Ux.Own w19 1 v19 I.words.length (wordCells I.words) := by simpa using o19
    have B27 := (n11.blk).ext (ed_2)
    have x19 : v19.ownBlock ≠ some b11 := fun e => by rcases l19 with h | ⟨g, h, h2⟩; (rw [h] at e; cases e); (rw [h] at e; cases e; have := (B27).lt; omega)
    have R28 : Ext w11 w19 := Mod.trans (R16) (e19)
    have E29 : Ext w w19 := Mod.trans (E17) (e19)
    refine WL.behindS (R28) ?_
    refine WAL.one (i := 8) (m' := 511) (by kernel_rfl) rfl rfl ?_
    refine WL.nilCheck rfl rfl (WL.behindS (R28) ?_)
    refine WAL.take (i := 9) (m' := 1023) (v := ptr b11 0) rfl rfl rfl rfl (by kernel_rfl) rfl (fun _ _ _ h => h) (fun wx hS => ?_) (R28) ?_
    · exact WL.fieldAddr rfl fo70_0 rfl (WL.nil ⟨rfl, rfl, rfl⟩)
    refine WAL.one (i := 10) (m' := 2047) (by kernel_rfl) rfl rfl ?_
    have B31 := (B27).ext (e19)
    refine WL.storeB (v := v19) rfl rfl ((o19b).sl).one sz23 B31 (Nat.le_of_ble_eq_true rfl) ?_
    intro ws32 ms32 bs32 zs32
    have E32 : Ext w ws32 := Mod.own (E10) n11 (E29) (ms32)
    refine WL.behindL (by kernel_rfl) ?_
    refine WAL.done (by kernel_rfl) ?_
    refine WC.seq (WC.region (WL.move (v := ptr b11 0) rfl rfl (WL.move (v := ptr b11 0) rfl rfl (WL.nilCheck rfl rfl (WL.fieldAddr rfl fo70_3 rfl (WL.load1 rfl ag26 (bs32.cell (j := 3) rfl) rfl (WL.move (v := iv0) rfl rfl (WL.append (k := 0) (m := inp.length) (xs := []) (news := inp.map I64) ap26 rfl rfl rfl (Ux.Own.nil _ 1) (((hI).ext' (E32)).src Tryz.underlying26 (ones_I64 _)) (by omega) (by omega) rfl ?_))))))))
    intro v28 w28 o28 m28 l28
    have e28 : Ext ws32 w28 := Mod.then (Mod.refl _ _) m28 (fun i hi e => by cases e)
    have o28b : Ux.Own w28 1 v28 inp.length (inp.map I64) := by simpa using o28
    have x28 : v28.ownBlock ≠ some b11 := fun e => by rcases l28 with h | ⟨g, h, h2⟩; (rw [h] at e; cases e); (rw [h] at e; cases e; have := (bs32).lt; omega)
    have E33 : Ext w w28 := Mod.trans (E32) (e28)
    refine WL.nilCheck rfl rfl (WL.fieldAddr rfl fo70_3 rfl ?_)
    have B34 := (bs32).ext (e28)
    refine WL.storeB (v := v28) rfl rfl ((o28b).sl).one sz26 B34 (Nat.le_of_ble_eq_true rfl) ?_
    intro ws35 ms35 bs35 zs35
    have E35 : Ext w ws35 := Mod.own (E10) n11 (E33) (ms35)
    refine WL.nil (WC.seq (WC.region (WL.move (v := ptr b11 0) rfl rfl (WL.nilCheck rfl rfl (WL.fieldAddr rfl fo70_4 rfl (WL.indexArr (i := 2) ar68 sz39 rfl rfl (by omega) rfl (WL.storeB (v := U64 (8388608#64)) rfl rfl rfl sz39 bs35 (Nat.le_of_ble_eq_true rfl) ?_)))))))
    intro ws36 ms36 bs36 zs36
    have E36 : Ext w ws36 := Mod.own (E10) n11 (E35) (ms36)
    refine WL.nil (WC.seq (WC.region (WL.move (v := ptr b11 0) rfl rfl (WL.assign (v := ptr b11 0) rfl rfl (WL.nil (WC.ret ?_))))))
    have O37 := ((((o19b).mod (ms32) (fun g hg e => x19 (hg.trans (congrArg some e)))).ext (e28)).mod (ms35) (fun g hg e => x19 (hg.trans (congrArg some e)))).mod (ms36) (fun g hg e => x19 (hg.trans (congrArg some e)))
    have O38 := ((((((((n8.blk.own).ext (n9.ext)).ext (n11.ext)).ext (ed_2)).ext (e19)).mod (ms32) (fun g hg e => (fun e => hx8 (Option.some.inj e)) (hg.trans (congrArg some e)))).ext (e28)).mod (ms35) (fun g hg e => (fun e => hx8 (Option.some.inj e)) (hg.trans (congrArg some e)))).mod (ms36) (fun g hg e => (fun e => hx8 (Option.some.inj e)) (hg.trans (congrArg some e)))
    have O39 := (((((((n9.blk.own).ext (n11.ext)).ext (ed_2)).ext (e19)).mod (ms32) (fun g hg e => (fun e => hx9 (Option.some.inj e)) (hg.trans (congrArg some e)))).ext (e28)).mod (ms35) (fun g hg e => (fun e => hx9 (Option.some.inj e)) (hg.trans (congrArg some e)))).mod (ms36) (fun g hg e => (fun e => hx9 (Option.some.inj e)) (hg.trans (congrArg some e)))
    have O40 := ((o28b).mod (ms35) (fun g hg e => x28 (hg.trans (congrArg some e)))).mod (ms36) (fun g hg e => x28 (hg.trans (congrArg some e)))
    exact ⟨_, Res.one (v := ptr b11 0) rfl rfl, b11, _, _, _, _, rfl, bs36, O37, by rw [← bsV_zero]; exact O38, by rw [← bsV_zero]; exact O39, O40, E36⟩
  · refine WL.makeSliceB (m := 65536) ap45 rfl rfl (by omega) (by omega) rfl ?_
    intro b9 w9 n9
    have R41 : Ext w2 w9 := Mod.trans (R2) (n9.ext)
    have E42 : Ext w w9 := Mod.trans (E3) (n9.ext)
    refine WL.behind (R41) ?_
    refine WA.one (i := 2) (m' := 15) (by kernel_rfl) rfl rfl ?_
    refine WL.makeSliceB (m := I.entry.toNat) ap45 (Eq.trans (rfl) hent) (Eq.trans (rfl) hent) (by omega) (by omega) rfl ?_
    intro b8 w8 n8
    have R43 : Ext w2 w8 := Mod.trans (R41) (n8.ext)
    have E44 : Ext w w8 := Mod.trans (E42) (n8.ext)
    refine WL.behind (R43) ?_
    refine WA.take (i := 4) (m' := 31) (v := .agg #[.slice none 0 0, .slice (some ⟨b8, 0, none⟩) (I.entry.toNat) (I.entry.toNat), .slice (some ⟨b9, 0, none⟩) (65536) (65536), .slice none 0 0, .int .u64 (0), .int .u64 (0), .int .u64 (0), .int .u64 (0), .int .u64 (0), .int .u64 (0), .int .u64 (0), .int .u64 (0), .int .u64 (0), .int .u64 (0), .int .u64 (0), .int .u64 (0), .int .u64 (0), .int .u64 (0), .int .u64 (0), .int .u64 (0), .int .u64 (0), .int .u64 (0), .int .u64 (0), .int .u64 (0), .int .u64 (0), .int .u64 (0), .int .u64 (0), .int .u64 (0), .int .u64 (0), .int .u64 (0), .int .u64 (0), .int .u64 (0), .int .u64 (0), .int .u64 (0), .int .u64 (0), .int .u64 (0), U64 (65536#64), .slice none 0 0, .bool (false), .bool (false), IN (0)]) rfl rfl rfl rfl (by kernel_rfl) rfl (fun _ _ _ h => h) (fun wx hS => ?_) (R43) ?_
    · exact WL.build (v := .agg #[.slice none 0 0, .slice (some ⟨b8, 0, none⟩) (I.entry.toNat) (I.entry.toNat), .slice (some ⟨b9, 0, none⟩) (65536) (65536), .slice none 0 0, .int .u64 (0), .int .u64 (0), .int .u64 (0), .int .u64 (0), .int .u64 (0), .int .u64 (0), .int .u64 (0), .int .u64 (0), .int .u64 (0), .int .u64 (0), .int .u64 (0), .int .u64 (0), .int .u64 (0), .int .u64 (0), .int .u64 (0), .int .u64 (0), .int .u64 (0), .int .u64 (0), .int .u64 (0), .int .u64 (0), .int .u64 (0), .int .u64 (0), .int .u64 (0), .int .u64 (0), .int .u64 (0), .int .u64 (0), .int .u64 (0), .int .u64 (0), .int .u64 (0), .int .u64 (0), .int .u64 (0), .int .u64 (0), U64 (65536#64), .slice none 0 0, .bool (false), .bool (false), IN (0)]) (vs := [(1, .slice (some ⟨b8, 0, none⟩) (I.entry.toNat) (I.entry.toNat)), (2, .slice (some ⟨b9, 0, none⟩) (65536) (65536)), (5, U64 (65536#64))]) rfl (bld22_10 b8 b9 I.entry.toNat 65536) rfl (WL.nil ⟨rfl, rfl, rfl⟩)
    refine WA.one (i := 5) (m' := 63) (by kernel_rfl) rfl rfl ?_
    have B46 := (n9.blk).ext (n8.ext)
    refine WL.box (v := .agg #[.slice none 0 0, .slice (some ⟨b8, 0, none⟩) (I.entry.toNat) (I.entry.toNat), .slice (some ⟨b9, 0, none⟩) (65536) (65536), .slice none 0 0, .int .u64 (0), .int .u64 (0), .int .u64 (0), .int .u64 (0), .int .u64 (0), .int .u64 (0), .int .u64 (0), .int .u64 (0), .int .u64 (0), .int .u64 (0), .int .u64 (0), .int .u64 (0), .int .u64 (0), .int .u64 (0), .int .u64 (0), .int .u64 (0), .int .u64 (0), .int .u64 (0), .int .u64 (0), .int .u64 (0), .int .u64 (0), .int .u64 (0), .int .u64 (0), .int .u64 (0), .int .u64 (0), .int .u64 (0), .int .u64 (0), .int .u64 (0), .int .u64 (0), .int .u64 (0), .int .u64 (0), .int .u64 (0), U64 (65536#64), .slice none 0 0, .bool (false), .bool (false), IN (0)]) rfl rfl ?_
    intro b11 w11 n11
    have R47 : Ext w2 w11 := Mod.trans (R43) (n11.ext)
    have E48 : Ext w w11 := Mod.trans (E44) (n11.ext)
    have hx8 : b8 ≠ b11 := by have h1 := (n8.blk).lt; have := n11.num; omega
    have hx9 : b9 ≠ b11 := by have h1 := (B46).lt; have := n11.num; omega
    refine WL.behind (R47) ?_
    refine WA.take (i := 6) (m' := 127) (v := ptr b11 0) rfl rfl rfl rfl (by kernel_rfl) rfl (fun _ _ _ h => h) (fun wx hS => ?_) (R47) ?_
    · exact WL.assign (v := ptr b11 0) rfl rfl (WL.nil ⟨rfl, rfl, rfl⟩)
    refine WA.done (by kernel_rfl) ?_
    refine WC.seq (WC.drawL (fun w_ => Ext w11 w_) 10 11 rfl mixed ?_)
    intro wd_2 ed_2
    have R50 : Ext w11 wd_2 := Mod.trans (Mod.refl _ _) (ed_2)
    have E51 : Ext w wd_2 := Mod.trans (E48) (ed_2)
    refine WAL.take (i := 0) (m' := 1) (v := ptr b11 0) rfl rfl rfl rfl (by kernel_rfl) rfl (fun _ _ _ h => h) (fun wx hS => ?_) (R50) ?_
    · exact WL.move (v := ptr b11 0) rfl rfl (WL.nil ⟨rfl, rfl, rfl⟩)
    refine WAL.take (i := 1) (m' := 3) (v := ptr b11 0) rfl rfl rfl rfl (by kernel_rfl) rfl (fun _ _ _ h => h) (fun wx hS => ?_) (R50) ?_
    · exact WL.move (v := ptr b11 0) rfl rfl (WL.nil ⟨rfl, rfl, rfl⟩)
    refine WAL.take (i := 2) (m' := 7) (v := ptr b11 0) rfl rfl rfl rfl (by kernel_rfl) rfl (fun _ _ _ h => h) (fun wx hS => ?_) (R50) ?_
    · exact WL.nilCheck rfl rfl (WL.nil ⟨rfl, rfl, rfl⟩)
    refine WAL.take (i := 3) (m' := 15) (v := ptr b11 0) rfl rfl rfl rfl (by kernel_rfl) rfl (fun _ _ _ h => h) (fun wx hS => ?_) (R50) ?_
    · exact WL.fieldAddr rfl fo70_0 rfl (WL.nil ⟨rfl, rfl, rfl⟩)
    refine WAL.take (i := 4) (m' := 31) (v := .slice none 0 0) rfl rfl rfl rfl (by kernel_rfl) rfl (fun _ _ _ h => h) (fun wx hS => ?_) (R50) ?_
    · have B57 := (n11.blk).ext (hS)
      exact WL.load1 rfl ag23 (B57.cell (j := 0) rfl) rfl (WL.nil ⟨rfl, rfl, rfl⟩)
    refine WAL.take (i := 5) (m' := 63) (v := ptr b2 2) rfl rfl rfl rfl (by kernel_rfl) rfl (fun _ _ _ h => h) (fun wx hS => ?_) (R50) ?_
    · exact WL.fieldAddr rfl fo61_2 rfl (WL.nil ⟨rfl, rfl, rfl⟩)
    refine WAL.take (i := 6) (m' := 127) (v := wv) rfl rfl rfl rfl (by kernel_rfl) rfl (fun _ _ _ h => h) (fun wx hS => ?_) (R50) ?_
    · have B60 := (((((n2.blk).ext (ed_1)).ext (n9.ext)).ext (n8.ext)).ext (n11.ext)).ext (hS)
      exact WL.load1 rfl ag23 (B60.cell (j := 2) rfl) rfl (WL.nil ⟨rfl, rfl, rfl⟩)
    refine WAL.one (i := 7) (m' := 255) (by kernel_rfl) rfl rfl ?_
    refine WL.append (k := 0) (m := I.words.length) (xs := []) (news := wordCells I.words) ap23 rfl rfl rfl (Ux.Own.nil _ 1) (((hw).ext' (E51)).src Tryz.underlying23 (ones_U32 _)) (by omega) (by omega) rfl ?_
    intro v19 w19 o19 m19 l19
    have e19 : Ext wd_2 w19 := Mod.then (Mod.refl _ _) m19 (fun i hi e => by cases e)
    have o19b : Ux.Own w19 1 v19 I.words.length (wordCells I.words) := by simpa using o19
    have B61 := (n11.blk).ext (ed_2)
    have x19 : v19.ownBlock ≠ some b11 := fun e => by rcases l19 with h | ⟨g, h, h2⟩; (rw [h] at e; cases e); (rw [h] at e; cases e; have := (B61).lt; omega)
    have R62 : Ext w11 w19 := Mod.trans (R50) (e19)
    have E63 : Ext w w19 := Mod.trans (E51) (e19)
    refine WL.behindS (R62) ?_
    refine WAL.one (i := 8) (m' := 511) (by kernel_rfl) rfl rfl ?_
    refine WL.nilCheck rfl rfl (WL.behindS (R62) ?_)
    refine WAL.take (i := 9) (m' := 1023) (v := ptr b11 0) rfl rfl rfl rfl (by kernel_rfl) rfl (fun _ _ _ h => h) (fun wx hS => ?_) (R62) ?_
    · exact WL.fieldAddr rfl fo70_0 rfl (WL.nil ⟨rfl, rfl, rfl⟩)
    refine WAL.one (i := 10) (m' := 2047) (by kernel_rfl) rfl rfl ?_
    have B65 := (B61).ext (e19)
    refine WL.storeB (v := v19) rfl rfl ((o19b).sl).one sz23 B65 (Nat.le_of_ble_eq_true rfl) ?_
    intro ws66 ms66 bs66 zs66
    have E66 : Ext w ws66 := Mod.own (E44) n11 (E63) (ms66)
    refine WL.behindL (by kernel_rfl) ?_
    refine WAL.done (by kernel_rfl) ?_
    refine WC.seq (WC.region (WL.move (v := ptr b11 0) rfl rfl (WL.move (v := ptr b11 0) rfl rfl (WL.nilCheck rfl rfl (WL.fieldAddr rfl fo70_3 rfl (WL.load1 rfl ag26 (bs66.cell (j := 3) rfl) rfl (WL.move (v := iv0) rfl rfl (WL.append (k := 0) (m := inp.length) (xs := []) (news := inp.map I64) ap26 rfl rfl rfl (Ux.Own.nil _ 1) (((hI).ext' (E66)).src Tryz.underlying26 (ones_I64 _)) (by omega) (by omega) rfl ?_))))))))
    intro v28 w28 o28 m28 l28
    have e28 : Ext ws66 w28 := Mod.then (Mod.refl _ _) m28 (fun i hi e => by cases e)
    have o28b : Ux.Own w28 1 v28 inp.length (inp.map I64) := by simpa using o28
    have x28 : v28.ownBlock ≠ some b11 := fun e => by rcases l28 with h | ⟨g, h, h2⟩; (rw [h] at e; cases e); (rw [h] at e; cases e; have := (bs66).lt; omega)
    have E67 : Ext w w28 := Mod.trans (E66) (e28)
    refine WL.nilCheck rfl rfl (WL.fieldAddr rfl fo70_3 rfl ?_)
    have B68 := (bs66).ext (e28)
    refine WL.storeB (v := v28) rfl rfl ((o28b).sl).one sz26 B68 (Nat.le_of_ble_eq_true rfl) ?_
    intro ws69 ms69 bs69 zs69
    have E69 : Ext w ws69 := Mod.own (E44) n11 (E67) (ms69)
    refine WL.nil (WC.seq (WC.region (WL.move (v := ptr b11 0) rfl rfl (WL.nilCheck rfl rfl (WL.fieldAddr rfl fo70_4 rfl (WL.indexArr (i := 2) ar68 sz39 rfl rfl (by omega) rfl (WL.storeB (v := U64 (8388608#64)) rfl rfl rfl sz39 bs69 (Nat.le_of_ble_eq_true rfl) ?_)))))))
    intro ws70 ms70 bs70 zs70
    have E70 : Ext w ws70 := Mod.own (E44) n11 (E69) (ms70)
    refine WL.nil (WC.seq (WC.region (WL.move (v := ptr b11 0) rfl rfl (WL.assign (v := ptr b11 0) rfl rfl (WL.nil (WC.ret ?_))))))
    have O71 := ((((o19b).mod (ms66) (fun g hg e => x19 (hg.trans (congrArg some e)))).ext (e28)).mod (ms69) (fun g hg e => x19 (hg.trans (congrArg some e)))).mod (ms70) (fun g hg e => x19 (hg.trans (congrArg some e)))
    have O72 := (((((((n8.blk.own).ext (n11.ext)).ext (ed_2)).ext (e19)).mod (ms66) (fun g hg e => (fun e => hx8 (Option.some.inj e)) (hg.trans (congrArg some e)))).ext (e28)).mod (ms69) (fun g hg e => (fun e => hx8 (Option.some.inj e)) (hg.trans (congrArg some e)))).mod (ms70) (fun g hg e => (fun e => hx8 (Option.some.inj e)) (hg.trans (congrArg some e)))
    have O73 := ((((((((n9.blk.own).ext (n8.ext)).ext (n11.ext)).ext (ed_2)).ext (e19)).mod (ms66) (fun g hg e => (fun e => hx9 (Option.some.inj e)) (hg.trans (congrArg some e)))).ext (e28)).mod (ms69) (fun g hg e => (fun e => hx9 (Option.some.inj e)) (hg.trans (congrArg some e)))).mod (ms70) (fun g hg e => (fun e => hx9 (Option.some.inj e)) (hg.trans (congrArg some e)))
    have O74 := ((o28b).mod (ms69) (fun g hg e => x28 (hg.trans (congrArg some e)))).mod (ms70) (fun g hg e => x28 (hg.trans (congrArg some e)))
    exact ⟨_, Res.one (v := ptr b11 0) rfl rfl, b11, _, _, _, _, rfl, bs70, O71, by rw [← bsV_zero]; exact O72, by rw [← bsV_zero]; exact O73, O74, E70⟩
end Go.Proofs.S
end
section
set_option linter.unusedSimpArgs false
set_option linter.unusedVariables false
namespace Go.Proofs.R
open Go Go.Ux Go.Ux.Image Go.Proofs
theorem fo61_0 : fieldOff Tryz.prog 61 0 = some 0 := by kernel_rfl
theorem fo61_1 : fieldOff Tryz.prog 61 1 = some 1 := by kernel_rfl
theorem ag59 : isAggT Tryz.prog 59 = some false := by kernel_rfl
theorem fo61_2 : fieldOff Tryz.prog 61 2 = some 2 := by kernel_rfl
end Go.Proofs.R
end
section
set_option linter.unusedSimpArgs false
set_option linter.unusedVariables false
namespace Go.Proofs.R
open Go Go.Ux Go.Ux.Image Go.Proofs
theorem zt61 : zeroT Tryz.prog 61 = some #[.int .i64 0, .slice none 0 0, .slice none 0 0] := by kernel_rfl
theorem bld23_9 (e : Int) (a : Option Addr) (l c : Nat) : ∀ w : World, (Instr.build 61 #[(0, .int .i64 (e)), (2, .slice a l c)]).run Tryz.prog w = .ok (.agg #[.int .i64 (e), .slice none 0 0, .slice a l c]) w := fun _ => by kernel_rfl
theorem sz61 : sizeT Tryz.prog 61 = some 3 := by kernel_rfl
theorem bld23_31 (a : List UInt8) (b : Int) : ∀ w : World, (Instr.build 101 #[(0, St a), (1, .int .i64 (b))]).run Tryz.prog w = .ok (.agg #[St a, .int .i64 (b)]) w := fun _ => by kernel_rfl
theorem bls23_32 (a : List UInt8) (b : Int) : ∀ w : World, (Instr.buildSlice 59 1 #[(0, .agg #[St a, .int .i64 (b)])]).run Tryz.prog w = .ok (.slice (some ⟨w.heap.size, 0, none⟩) 1 1) (w.alloc (.cells #[St a, .int .i64 (b)] 101)) := fun _ => by kernel_rfl
theorem ap59 : appT Tryz.prog 59 = some (101, 2, 24, #[.string ⟨#[]⟩, .int .i64 0]) := by kernel_rfl
theorem sz59 : sizeT Tryz.prog 59 = some 1 := by kernel_rfl
theorem ag61 : isAggT Tryz.prog 61 = some true := by kernel_rfl
theorem sym_one (a : List UInt8) (b : Int) : ∀ u ∈ [St a, Value.int .i64 b], u.oneCell' = true := by
  intro u hu; simp at hu; rcases hu with rfl | rfl <;> rfl
theorem symCells_take (l : List (List UInt8 × Int)) (i : Nat) (h : i < l.length) : symCells (l.take i) ++ [St (l[i]).1, .int .i64 (l[i]).2] = symCells (l.take (i + 1)) := by
  unfold symCells; rw [List.take_succ_eq_append_getElem h, List.flatMap_append]; rfl
theorem plain_spec (sv wv : Value) (I : Img) (w : World) (hR : Rep w sv wv I) : CallsR Tryz.prog 23 #[.agg #[.int .i64 (I.entry), sv, wv]] w (fun v w' => ∃ u, v = .agg #[.int .i64 I.entry, u, wv] ∧ Ux.Own w' 2 u I.syms.length (symCells I.syms) ∧ From w.heap.size u ∧ Ext w w') := by
  have hI1 := hR.ls
  have hI2 := hR.lw
  refine callsR_of Tryz.func23 rfl rfl rfl ?_
  refine WC.seq (WC.region (WL.box (v := .agg #[.int .i64 (I.entry), sv, wv]) rfl rfl ?_))
  intro b1 w1 n1
  have E1 : Ext w w1 := Mod.trans (Mod.refl _ _) (n1.ext)
  refine WL.alloc zt61 rfl ?_
  intro b2 w2 n2
  have E2 : Ext w w2 := Mod.trans (E1) (n2.ext)
  refine WL.nil (WC.seq (WC.region (WL.fieldAddr rfl fo25_0 rfl ?_)))
  have B3 := (n1.blk).ext (n2.ext)
  refine WL.load1 rfl ag3 (B3.cell (j := 0) rfl) rfl (WL.fieldAddr rfl fo25_2 rfl (WL.load1 rfl ag23 (B3.cell (j := 2) rfl) rfl (WL.build (v := .agg #[.int .i64 (I.entry), .slice none 0 0, wv]) (vs := [(0, .int .i64 (I.entry)), (2, wv)]) rfl (by obtain ⟨a, l, c, e⟩ := hR.w.slc; rw [e]; exact bld23_9 _ a l c) rfl (WL.allocStore (v := .agg #[.int .i64 (I.entry), .slice none 0 0, wv]) zt61 rfl sz61 rfl rfl (ones3 rfl rfl ((hR.w).ext' (E2)).one) rfl ?_))))
  intro b3 w3 n3
  have E4 : Ext w w3 := Mod.trans (E2) (n3.ext)
  refine WL.nil ?_
  have hb : w.heap.size ≤ b1 ∧ b1 < b2 ∧ b2 < b3 := by have := n1.num; have := n1.size; have := n2.num; have := n2.size; have := n3.num; omega
  refine WC.seq (WC.seq (WC.region (WL.assign (v := IN (0)) rfl rfl (WL.nil (WC.block ?_)))))
  refine WC.loop (fun k f w_ => ∃ i v, (k + i = I.syms.length) ∧ f 0 = .agg #[.int .i64 (I.entry), sv, wv] ∧ f 1 = ptr b1 0 ∧ f 2 = ptr b2 0 ∧ f 3 = ptr b3 0 ∧ f 4 = IN (i) ∧ f 5 = ptr b1 0 ∧ f 6 = .int .i64 (I.entry) ∧ f 7 = ptr b1 2 ∧ f 8 = wv ∧ f 9 = .agg #[.int .i64 (I.entry), .slice none 0 0, wv] ∧ (Ext w w_) ∧ (Blk w_ b1 #[.int .i64 I.entry, sv, wv] 25) ∧ (Blk w_ b2 #[.int .i64 0, .slice none 0 0, .slice none 0 0] 61) ∧ (Blk w_ b3 #[.int .i64 I.entry, v, wv] 61) ∧ (Ux.Own w_ 2 v i (symCells (I.syms.take i))) ∧ (From w.heap.size v) ∧ (v.ownBlock ≠ some b1) ∧ (v.ownBlock ≠ some b2) ∧ (v.ownBlock ≠ some b3)) (I.syms.length) ?_ ?_
  have B5 := (B3).ext (n3.ext)
  have B6 := (n2.blk).ext (n3.ext)
  · exact ⟨(0), (.slice none 0 0), by omega, rfl, rfl, rfl, rfl, rfl, rfl, rfl, rfl, rfl, rfl, E4, B5, B6, n3.blk, Ux.Own.nil _ _, (fun g hg => by cases hg), (fun h => by cases h), (fun h => by cases h), (fun h => by cases h)⟩
  rintro ka f1 wr ⟨i, v, hk1, h0_1, h1_1, h2_1, h3_1, h4_1, h5_1, h6_1, h7_1, h8_1, h9_1, hE, hB1, hB2, hB3, hO, hF, hn1, hn2, hn3⟩
  refine WC.seq (WC.seq (WC.region (WL.move (v := IN (i)) h4_1 rfl (WL.fieldAddr h1_1 fo25_1 rfl (WL.load1 rfl ag22 (hB1.cell (j := 1) rfl) rfl (WL.lenSl (sz := 2) (m := I.syms.length) (xs := symCells I.syms) el22 rfl ((hR.s).ext' (hE)) rfl (WL.bin rfl rfl rfl (BinR.lss) (WL.nil ?_))))))))
  refine WC.cond rfl (fun hc14 => ?_) (fun hc14 => ?_)
  · have hi : i < I.syms.length := by have := of_decide_eq_true hc14; omega
    obtain ⟨bs0, os0, cs0, es0, hcs0⟩ := hR.s.at (by omega)
    refine WC.skip (WC.seq (WC.block (WC.draw (fun w_ => Ext w w_ ∧ Blk w_ b1 #[.int .i64 I.entry, sv, wv] 25) 19 rfl mixed ?_)))
    intro wd_5 ed_5
    have E8 : Ext w wd_5 := Mod.trans (hE) (ed_5)
    have B9 := (hB1).ext (ed_5)
    refine WA.take (i := 0) (m' := 1) (v := ptr b3 1) rfl rfl rfl rfl (by kernel_rfl) rfl (fun _ _ _ h => h) (fun wx hS => ?_) (⟨E8, B9⟩) ?_
    · exact WL.fieldAddr h3_1 fo61_1 rfl (WL.nil ⟨rfl, rfl, rfl⟩)
    refine WA.take (i := 2) (m' := 5) (v := ptr b1 1) rfl rfl rfl rfl (by kernel_rfl) rfl (fun _ _ _ h => h) (fun wx hS => ?_) (⟨E8, B9⟩) ?_
    · exact WL.fieldAddr h1_1 fo25_1 rfl (WL.nil ⟨rfl, rfl, rfl⟩)
    refine WA.take (i := 3) (m' := 13) (v := sv) rfl rfl rfl rfl (by kernel_rfl) rfl (fun _ _ _ h => h) (fun wx hS => ?_) (⟨E8, B9⟩) ?_
    · exact WL.load1 rfl ag22 (hS.2.cell (j := 1) rfl) rfl (WL.nil ⟨rfl, rfl, rfl⟩)
    refine WA.take (i := 4) (m' := 29) (v := IN (i)) rfl rfl rfl rfl (by kernel_rfl) rfl (fun _ _ _ h => h) (fun wx hS => ?_) (⟨E8, B9⟩) ?_
    · exact WL.move (v := IN (i)) h4_1 rfl (WL.nil ⟨rfl, rfl, rfl⟩)
    refine WA.take (i := 5) (m' := 61) (v := ptr bs0 (os0 + (i) * 2)) rfl rfl rfl rfl (by kernel_rfl) rfl (fun _ _ _ h => h) (fun wx hS => ?_) (⟨E8, B9⟩) ?_
    · exact WL.indexAddr (i := i) (b := bs0) (o := os0) el22 sz98 (Eq.trans (rfl) es0) rfl (by omega) rfl (WL.nil ⟨rfl, rfl, rfl⟩)
    refine WA.take (i := 6) (m' := 125) (v := ptr bs0 (os0 + (i) * 2)) rfl rfl rfl rfl (by kernel_rfl) rfl (fun _ _ _ h => h) (fun wx hS => ?_) (⟨E8, B9⟩) ?_
    · exact WL.fieldAddr rfl fo98_0 rfl (WL.nil ⟨rfl, rfl, rfl⟩)
    refine WA.take (i := 7) (m' := 253) (v := St (I.syms[i]).1) rfl rfl rfl rfl (by kernel_rfl) rfl (fun _ _ _ h => h) (fun wx hS => ?_) (⟨E8, B9⟩) ?_
    · exact WL.load1 rfl ag9 ((hcs0.ext (hS.1)) (i * 2) _ (symCells_get I.syms i (by omega)).1) rfl (WL.nil ⟨rfl, rfl, rfl⟩)
    refine WA.take (i := 8) (m' := 509) (v := ptr b1 1) rfl rfl rfl rfl (by kernel_rfl) rfl (fun _ _ _ h => h) (fun wx hS => ?_) (⟨E8, B9⟩) ?_
    · exact WL.fieldAddr h1_1 fo25_1 rfl (WL.nil ⟨rfl, rfl, rfl⟩)
    refine WA.take (i := 9) (m' := 1021) (v := sv) rfl rfl rfl rfl (by kernel_rfl) rfl (fun _ _ _ h => h) (fun wx hS => ?_) (⟨E8, B9⟩) ?_
    · exact WL.load1 rfl ag22 (hS.2.cell (j := 1) rfl) rfl (WL.nil ⟨rfl, rfl, rfl⟩)
    refine WA.take (i := 10) (m' := 2045) (v := IN (i)) rfl rfl rfl rfl (by kernel_rfl) rfl (fun _ _ _ h => h) (fun wx hS => ?_) (⟨E8, B9⟩) ?_
    · exact WL.move (v := IN (i)) h4_1 rfl (WL.nil ⟨rfl, rfl, rfl⟩)
    refine WA.take (i := 11) (m' := 4093) (v := ptr bs0 (os0 + (i) * 2)) rfl rfl rfl rfl (by kernel_rfl) rfl (fun _ _ _ h => h) (fun wx hS => ?_) (⟨E8, B9⟩) ?_
    · exact WL.indexAddr (i := i) (b := bs0) (o := os0) el22 sz98 (Eq.trans (rfl) es0) rfl (by omega) rfl (WL.nil ⟨rfl, rfl, rfl⟩)
    refine WA.take (i := 12) (m' := 8189) (v := ptr bs0 ((os0 + (i) * 2) + 1)) rfl rfl rfl rfl (by kernel_rfl) rfl (fun _ _ _ h => h) (fun wx hS => ?_) (⟨E8, B9⟩) ?_
    · exact WL.fieldAddr rfl fo98_1 rfl (WL.nil ⟨rfl, rfl, rfl⟩)
    refine WA.take (i := 13) (m' := 16381) (v := .int .i64 ((I.syms[i]).2)) rfl rfl rfl rfl (by kernel_rfl) rfl (fun _ _ _ h => h) (fun wx hS => ?_) (⟨E8, B9⟩) ?_
    · exact WL.load1 rfl ag3 ((hcs0.ext (hS.1)) (i * 2 + 1) _ (symCells_get I.syms i (by omega)).2) rfl (WL.nil ⟨rfl, rfl, rfl⟩)
    refine WA.take (i := 14) (m' := 32765) (v := .agg #[St (I.syms[i]).1, .int .i64 ((I.syms[i]).2)]) rfl rfl rfl rfl (by kernel_rfl) rfl (fun _ _ _ h => h) (fun wx hS => ?_) (⟨E8, B9⟩) ?_
    · exact WL.build (v := .agg #[St (I.syms[i]).1, .int .i64 ((I.syms[i]).2)]) (vs := [(0, St (I.syms[i]).1), (1, .int .i64 ((I.syms[i]).2))]) rfl (bld23_31 (I.syms[i]).1 (I.syms[i]).2) rfl (WL.nil ⟨rfl, rfl, rfl⟩)
    refine WA.two (i := 1) (j := 15) (mi := 32767) (mj := 65533) (by kernel_rfl) rfl rfl rfl rfl ?_ ?_
    · have B10 := (hB3).ext (ed_5)
      refine WL.load1 rfl ag59 (B10.cell (j := 1) rfl) rfl (WL.behind (⟨E8, B9⟩) ?_)
      refine WA.one (i := 15) (m' := 65535) (by kernel_rfl) rfl rfl ?_
      refine WL.buildSlice (vs := [(0, .agg #[St (I.syms[i]).1, .int .i64 ((I.syms[i]).2)])]) rfl (bls23_32 (I.syms[i]).1 (I.syms[i]).2) rfl ?_
      intro b32 w32 n32
      have E12 : Ext w w32 := Mod.trans (E8) (n32.ext)
      have B13 := (B9).ext (n32.ext)
      refine WL.behind (⟨E12, B13⟩) ?_
      refine WA.one (i := 16) (m' := 131071) (by kernel_rfl) rfl rfl ?_
      have O14 := ((hO).ext (ed_5)).ext (n32.ext)
      refine WL.append (k := i) (m := 1) (xs := symCells (I.syms.take i)) (news := [St (I.syms[i]).1, .int .i64 (I.syms[i]).2]) ap59 rfl rfl rfl (O14) (Src.ofSlice _ Tryz.underlying59 ⟨b32, 0, none⟩ 1 1 _ rfl (fun j u hj => by rw [addr_add]; exact (n32.blk).cells j u hj) (sym_one _ _)) (by omega) (by omega) rfl ?_
      intro v33 w33 o33 m33 l33
      have o33b : Ux.Own w33 2 v33 (i + 1) (symCells (I.syms.take (i + 1))) := by rw [symCells_take _ _ hi] at o33; exact o33
      have F15 : From w.heap.size v33 := LocV.from l33 (Mod.size (E12)) (hF)
      have N16 : v33.ownBlock ≠ some b1 := LocV.ne l33 ((B13).lt) hn1
      have B18 := ((hB2).ext (ed_5)).ext (n32.ext)
      have N17 : v33.ownBlock ≠ some b2 := LocV.ne l33 ((B18).lt) hn2
      have B20 := (B10).ext (n32.ext)
      have N19 : v33.ownBlock ≠ some b3 := LocV.ne l33 ((B20).lt) hn3
      have E21 : Ext w w33 := Mod.from (E12) m33 (hF)
      have B22 := (B13).mod (m33) (hn1)
      refine WL.behind (⟨E21, B22⟩) ?_
      refine WA.take (i := 17) (m' := 262143) (v := ptr b3 1) rfl rfl rfl rfl (by kernel_rfl) rfl (fun _ _ _ h => h) (fun wx hS => ?_) (⟨E21, B22⟩) ?_
      · exact WL.fieldAddr h3_1 fo61_1 rfl (WL.nil ⟨rfl, rfl, rfl⟩)
      refine WA.one (i := 18) (m' := 524287) (by kernel_rfl) rfl rfl ?_
      have B23 := (B20).mod (m33) (hn3)
      refine WL.storeB (v := v33) rfl rfl ((o33b).sl).one sz59 B23 (Nat.le_of_ble_eq_true rfl) ?_
      intro ws24 ms24 bs24 zs24
      have E24 : Ext w ws24 := Mod.then (E21) (ms24) (fun i hi (e : i = b3) => absurd hi (by omega))
      have B25 := (B22).mod (ms24) ((by omega))
      refine WL.behind (⟨E24, B25⟩) ?_
      refine WA.done (by kernel_rfl) ?_
      refine WC.region (WL.move (v := IN (i)) h4_1 rfl (WL.bin rfl rfl rfl (BinR.succN (by omega)) (WL.assign (v := IN (i + 1)) rfl rfl (WL.nil ?_))))
      have B26 := ((B18).mod (m33) (hn2)).mod (ms24) ((by omega))
      have O27 := (o33b).mod (ms24) (fun g hg e => N19 (hg.trans (congrArg some e)))
      exact ⟨ka - 1, by omega, (i + 1), (v33), by omega, h0_1, h1_1, h2_1, h3_1, rfl, h5_1, h6_1, h7_1, h8_1, h9_1, E24, B25, B26, bs24, O27, F15, N16, N17, N19⟩
    · refine WL.buildSlice (vs := [(0, .agg #[St (I.syms[i]).1, .int .i64 ((I.syms[i]).2)])]) rfl (bls23_32 (I.syms[i]).1 (I.syms[i]).2) rfl ?_
      intro b32 w32 n32
      have E29 : Ext w w32 := Mod.trans (E8) (n32.ext)
      have B30 := (B9).ext (n32.ext)
      refine WL.behind (⟨E29, B30⟩) ?_
      refine WA.one (i := 1) (m' := 65535) (by kernel_rfl) rfl rfl ?_
      have B31 := ((hB3).ext (ed_5)).ext (n32.ext)
      refine WL.load1 rfl ag59 (B31.cell (j := 1) rfl) rfl (WL.behind (⟨E29, B30⟩) ?_)
      refine WA.one (i := 16) (m' := 131071) (by kernel_rfl) rfl rfl ?_
      have O32 := ((hO).ext (ed_5)).ext (n32.ext)
      refine WL.append (k := i) (m := 1) (xs := symCells (I.syms.take i)) (news := [St (I.syms[i]).1, .int .i64 (I.syms[i]).2]) ap59 rfl rfl rfl (O32) (Src.ofSlice _ Tryz.underlying59 ⟨b32, 0, none⟩ 1 1 _ rfl (fun j u hj => by rw [addr_add]; exact (n32.blk).cells j u hj) (sym_one _ _)) (by omega) (by omega) rfl ?_
      intro v33 w33 o33 m33 l33
      have o33b : Ux.Own w33 2 v33 (i + 1) (symCells (I.syms.take (i + 1))) := by rw [symCells_take _ _ hi] at o33; exact o33
      have F33 : From w.heap.size v33 := LocV.from l33 (Mod.size (E29)) (hF)
      have N34 : v33.ownBlock ≠ some b1 := LocV.ne l33 ((B30).lt) hn1
      have B36 := ((hB2).ext (ed_5)).ext (n32.ext)
      have N35 : v33.ownBlock ≠ some b2 := LocV.ne l33 ((B36).lt) hn2
      have N37 : v33.ownBlock ≠ some b3 := LocV.ne l33 ((B31).lt) hn3
      have E38 : Ext w w33 := Mod.from (E29) m33 (hF)
      have B39 := (B30).mod (m33) (hn1)
      refine WL.behind (⟨E38, B39⟩) ?_
      refine WA.take (i := 17) (m' := 262143) (v := ptr b3 1) rfl rfl rfl rfl (by kernel_rfl) rfl (fun _ _ _ h => h) (fun wx hS => ?_) (⟨E38, B39⟩) ?_
      · exact WL.fieldAddr h3_1 fo61_1 rfl (WL.nil ⟨rfl, rfl, rfl⟩)
      refine WA.one (i := 18) (m' := 524287) (by kernel_rfl) rfl rfl ?_
      have B40 := (B31).mod (m33) (hn3)
      refine WL.storeB (v := v33) rfl rfl ((o33b).sl).one sz59 B40 (Nat.le_of_ble_eq_true rfl) ?_
      intro ws41 ms41 bs41 zs41
      have E41 : Ext w ws41 := Mod.then (E38) (ms41) (fun i hi (e : i = b3) => absurd hi (by omega))
      have B42 := (B39).mod (ms41) ((by omega))
      refine WL.behind (⟨E41, B42⟩) ?_
      refine WA.done (by kernel_rfl) ?_
      refine WC.region (WL.move (v := IN (i)) h4_1 rfl (WL.bin rfl rfl rfl (BinR.succN (by omega)) (WL.assign (v := IN (i + 1)) rfl rfl (WL.nil ?_))))
      have B43 := ((B36).mod (m33) (hn2)).mod (ms41) ((by omega))
      have O44 := (o33b).mod (ms41) (fun g hg e => N37 (hg.trans (congrArg some e)))
      exact ⟨ka - 1, by omega, (i + 1), (v33), by omega, h0_1, h1_1, h2_1, h3_1, rfl, h5_1, h6_1, h7_1, h8_1, h9_1, E41, B42, B43, bs41, O44, F33, N34, N35, N37⟩
  · have hi : I.syms.length ≤ i := by have := of_decide_eq_false hc14; omega
    refine WC.exit (WC.seq (WC.region (WL.loadS [.int .i64 (I.entry), v, wv] h3_1 ag61 sz61 rfl (hB3.sub (o := 0) (vs := [.int .i64 (I.entry), v, wv]) rfl) rfl (WL.storeS (v := .agg #[.int .i64 (I.entry), v, wv]) h2_1 rfl hB2 rfl sz61 rfl (ones3 rfl ((hO).sl).one ((hR.w).ext' (hE)).one) ?_))))
    intro ws45 ms45 bs45 zs45
    have E45 : Ext w ws45 := Mod.then (hE) (ms45) (fun i hi (e : i = b2) => absurd hi (by omega))
    refine WL.nil (WC.ret ?_)
    have O46 := (hO).mod (ms45) (fun g hg e => hn2 (hg.trans (congrArg some e)))
    exact ⟨_, Res.cell rfl h2_1 (loadVar_agg [.int .i64 (I.entry), v, wv] ag61 sz61 rfl (bs45.sub (o := 0) rfl)), v, rfl, (by have h := O46; rw [show i = I.syms.length by omega, List.take_length] at h; exact h), hF, E45⟩
end Go.Proofs.R
end
section
namespace Go.Proofs.S
open Go Go.Ux Go.Ux.Mach Go.Proofs Go.Proofs.M Go.Ux.Image
theorem trap_cells (k : Nat) (a : RvInst) (h : trapI k = a) : instCells (trapL k) = [U8 22#8, U8 17#8, U8 0#8, U8 0#8, I64 1#64, U8 64#8, U8 0#8, U8 0#8, U8 0#8, I64 0#64, U8 22#8, U8 5#8, U8 10#8, U8 0#8, I64 0#64, U8 a.op, U8 a.rd, U8 a.rs1, U8 a.rs2, I64 a.imm, U8 22#8, U8 17#8, U8 0#8, U8 0#8, I64 3#64, U8 64#8, U8 0#8, U8 0#8, U8 0#8, I64 0#64] := by
  subst h; rfl
theorem trap_lo (k : Nat) (h : k < 7) : trapI k = ⟨(trapI k).op, 6#8, 5#8, 0#8, 0#64⟩ := by
  unfold trapI; rw [if_pos h]
theorem trap_hi (k : Nat) (h : ¬ k < 7) : trapI k = ⟨(trapI k).op, 0#8, 5#8, 2#8, 0#64⟩ := by
  unfold trapI; rw [if_neg h]
theorem trap_op (op : BitVec 8) : 11#8 + op % 11#8 = (trapI (op % 11#8).toNat).op := by
  have e : (trapI (op % 11#8).toNat).op = BitVec.ofNat 8 (11 + (op % 11#8).toNat) := by unfold trapI; split <;> rfl
  rw [e]
  apply BitVec.eq_of_toNat_eq
  rw [BitVec.toNat_add, BitVec.toNat_ofNat]; rfl
theorem trap_lt (op : BitVec 8) : (op % 11#8).toNat < 11 := by
  rw [BitVec.toNat_umod]; exact Nat.mod_lt _ (by decide)
theorem trap_ge (op : BitVec 8) : BitVec.ule 18#8 (trapI (op % 11#8).toNat).op = decide (7 ≤ (op % 11#8).toNat) := by
  have h := trap_lt op
  generalize (op % 11#8).toNat = k at h
  have e : (trapI k).op = BitVec.ofNat 8 (11 + k) := by unfold trapI; split <;> rfl
  rw [e]
  have e2 : (BitVec.ofNat 8 (11 + k)).toNat = 11 + k := by rw [BitVec.toNat_ofNat]; omega
  show decide (18 ≤ (BitVec.ofNat 8 (11 + k)).toNat) = _
  rw [e2]
  congr 1; apply propext; omega
theorem trapZ_cell (k : Nat) (h : k < 11) : (#[IN 1, IN 2, IN 4, IN 8, IN 1, IN 2, IN 4, IN 1, IN 2, IN 4, IN 8] : Array Value)[0 + k * 1]? = some (IN (trapZ k)) := by
  match k, h with
  | 0, _ => rfl
  | 1, _ => rfl
  | 2, _ => rfl
  | 3, _ => rfl
  | 4, _ => rfl
  | 5, _ => rfl
  | 6, _ => rfl
  | 7, _ => rfl
  | 8, _ => rfl
  | 9, _ => rfl
  | 10, _ => rfl
  | n + 11, h => omega
theorem trapZ_or (k : Nat) (h : k < 11) : trapZ k = 1 ∨ trapZ k = 2 ∨ trapZ k = 4 ∨ trapZ k = 8 := by
  match k, h with
  | 0, _ => decide
  | 1, _ => decide
  | 2, _ => decide
  | 3, _ => decide
  | 4, _ => decide
  | 5, _ => decide
  | 6, _ => decide
  | 7, _ => decide
  | 8, _ => decide
  | 9, _ => decide
  | 10, _ => decide
  | n + 11, h => omega
theorem trap_syms (k : Nat) : ∀ s ∈ (trapImg k).syms, True ∧ s.2 ≤ 9223372036854775807 := by
  intro s hs
  have : s = ([115, 116, 97, 114, 116], 0) := by simpa [trapImg] using hs
  subst this; exact ⟨trivial, by decide⟩
theorem whereR_none {n : Nat} {addr : BitVec 64} {size : Nat} (h : size = 1 ∨ size = 2 ∨ size = 4 ∨ size = 8) (hW : whereM n addr size = none) : whereR n addr size = (0, 0) := by rw [whereR_eq n addr size h, hW]
theorem whereR_some {n : Nat} {addr : BitVec 64} {size : Nat} {q : Bool} {o : Nat} (h : size = 1 ∨ size = 2 ∨ size = 4 ∨ size = 8) (hW : whereM n addr size = some (q, o)) : whereR n addr size = (bif q then 1 else 2, o) := by rw [whereR_eq n addr size h, hW]; cases q <;> rfl
theorem whereM_le {n : Nat} {addr : BitVec 64} {size : Nat} {q : Bool} {o : Nat} (hW : whereM n addr size = some (q, o)) : o + size ≤ bif q then n else 65536 := by
  unfold whereM at hW
  split at hW
  · cases hW
  split at hW
  · cases hW; show _ ≤ n; omega
  split at hW
  · cases hW; show _ ≤ 65536; omega
  · cases hW
theorem ult8 {j : Nat} (h : j ≤ 8) : BitVec.ult (BitVec.ofNat 64 (8 * j)) 64#64 = decide (j < 8) := by
  unfold BitVec.ult
  rw [BitVec.toNat_ofNat, Nat.mod_eq_of_lt (by omega)]
  show decide (8 * j < 64) = _
  congr 1; apply propext; omega
theorem where_peek {j : Nat} (h : j < 8) : whereM 64 (4194304#64 + BitVec.ofNat 64 (8 * j)) 8 = some (true, 8 * j) := by
  have e : (4194304#64 + BitVec.ofNat 64 (8 * j)).toNat = 4194304 + 8 * j := by
    rw [BitVec.toNat_add, BitVec.toNat_ofNat, BitVec.toNat_ofNat]; omega
  unfold whereM
  rw [e, if_neg (by omega), if_pos (by omega)]
  rw [show 4194304 + 8 * j - 4194304 = 8 * j by omega]
theorem loadR_zero (o size : Nat) : ∀ k, loadR (fun _ => 0#8) o size k = 0#64
  | 0 => rfl
  | k + 1 => by show (loadR (fun _ => 0#8) o size k <<< 8) ||| (0#8).setWidth 64 = _; rw [loadR_zero o size k]; rfl
theorem loadV_zero (s : Nat → BitVec 8) (o : Nat) : loadV (fun _ => 0#8) s true o 8 false = 0#64 := loadR_zero o 8 8
theorem ofNat_step (j : Nat) : BitVec.ofNat 64 (8 * j) + 8#64 = BitVec.ofNat 64 (8 * (j + 1)) := by
  apply BitVec.eq_of_toNat_eq
  simp only [BitVec.toNat_add, BitVec.toNat_ofNat]; omega
theorem BinR.remU8' {P : Program} {t : TypeId} {x : BitVec 8} : BinR P .rem t (U8 x) (U8 11#8) (U8 (x % 11#8)) := by
  have h := BinR.remK (P := P) (t := t) (k := .u8) (a := (x.toNat : Int)) (b := 11) (by omega) (by decide)
  have e : (U8 (x % 11#8) : Value) = .int .u8 ((x.toNat : Int) % 11) := by
    show Value.int .u8 (((x % 11#8).toNat : Nat) : Int) = _
    rw [BitVec.toNat_umod]; rfl
  rw [e]; exact h
theorem load_yes (addr : BitVec 64) (size : Nat) (q : Bool) (o : Nat) (b : Nat) (cv dv sv iv : Value) (x : Nat → BitVec 64) (pc : BitVec 64) (ev : Value) (en tr : Bool) (st : Value) (n : Nat) (d t : Nat → BitVec 8) (w : World) (hB : Blk w b (refCells cv dv sv iv x pc ev en tr st) 70) (hD : Sl w dv 1 n (bsV d n)) (hn : n ≤ 524288) (hT : Sl w sv 1 65536 (bsV t 65536)) (hz : size = 1 ∨ size = 2 ∨ size = 4 ∨ size = 8) (hW : whereM n addr size = some (q, o)) : CallsR Tryz.prog 24 #[ptr b 0, U64 (addr), IN (size)] w (fun v w' => ∃ y, v = .tuple #[U64 y, .bool true] ∧ Ext w w') := by
  have h1 := whereR_some hz hW
  have h2 := whereM_le hW
  cases q
  · exact (load_r2 addr size o b cv dv sv iv x pc ev en tr st n d t w hB hD hn hT hz h1 h2).mono fun v w' ⟨h, e⟩ => ⟨_, h, e⟩
  · exact (load_r1 addr size o b cv dv sv iv x pc ev en tr st n d t w hB hD hn hT hz h1 h2).mono fun v w' ⟨h, e⟩ => ⟨_, h, e⟩
end Go.Proofs.S
end
