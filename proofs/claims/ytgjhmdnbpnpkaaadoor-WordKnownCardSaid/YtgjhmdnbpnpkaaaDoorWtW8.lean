import Derived.Test.YtgjhmdnbpnpkaaaDoorUxMem
import Derived.Test.YtgjhmdnbpnpkaaaDoorWordPure2
import Derived.Test.YtgjhmdnbpnpkaaaDoorRows
import Derived.Test.YtgjhmdnbpnpkaaaDoorWtW7
set_option linter.unusedSimpArgs false
set_option linter.unusedVariables false
namespace Go.Proofs.W
open Go Go.Ux Go.Ux.Word Go.Proofs
theorem ca27 : callable Tryd.prog 27 = true := by kernel_rfl
theorem fo41_0 : fieldOff Tryd.prog 41 0 = some 0 := by kernel_rfl
theorem ag39 : isAggT Tryd.prog 39 = some false := by kernel_rfl
theorem ca39 : callable Tryd.prog 39 = true := by kernel_rfl
theorem ca40 : callable Tryd.prog 40 = true := by kernel_rfl
theorem ca41 : callable Tryd.prog 41 = true := by kernel_rfl
theorem ca42 : callable Tryd.prog 42 = true := by kernel_rfl
theorem ca43 : callable Tryd.prog 43 = true := by kernel_rfl
theorem ca44 : callable Tryd.prog 44 = true := by kernel_rfl
theorem ca45 : callable Tryd.prog 45 = true := by kernel_rfl
theorem ca46 : callable Tryd.prog 46 = true := by kernel_rfl
theorem ca47 : callable Tryd.prog 47 = true := by kernel_rfl
theorem ca48 : callable Tryd.prog 48 = true := by kernel_rfl
theorem ca49 : callable Tryd.prog 49 = true := by kernel_rfl
theorem ca50 : callable Tryd.prog 50 = true := by kernel_rfl
theorem ca51 : callable Tryd.prog 51 = true := by kernel_rfl
theorem ca52 : callable Tryd.prog 52 = true := by kernel_rfl
theorem ca54 : callable Tryd.prog 54 = true := by kernel_rfl
theorem ca55 : callable Tryd.prog 55 = true := by kernel_rfl

theorem do1 (x y : BitVec 64) (w : World) : CallsR Tryd.prog 10 #[.int .u8 (1), I64 (x), I64 (y)] w (fun v w' => v = I64 (opW 1 x y) ∧ Ext w w') := by
  refine callsR_of Tryd.func10 rfl rfl rfl ?_
  refine WC.seq ?_
  refine WC.region ?_
  refine WL.assign (v := I64 (0#64)) rfl rfl ?_
  refine WL.nil ?_
  refine WC.seq ?_
  refine WC.region ?_
  refine WL.move (v := .int .u8 (1)) rfl rfl ?_
  refine WL.call ca27 (rfl) rfl (of_row1 _) ?_
  rintro _ wo9 ⟨rfl, e9⟩
  have E1 : Ext w wo9 := Mod.trans (Mod.refl _ _) (e9)
  refine WL.allocStore (v := .agg #[.func (.func 39) #[] #[], .bool true, .bool true, .int .i64 0, .bool true]) zt41 rfl sz41 rfl rfl rfl rfl ?_
  intro b7 w7 n7
  have E2 : Ext w w7 := Mod.trans (E1) (n7.ext)
  refine WL.nil ?_
  refine WC.seq ?_
  refine WC.seq ?_
  refine WC.region ?_
  refine WL.fieldAddr rfl fo41_0 rfl ?_
  refine WL.load1 rfl ag39 (n7.blk.cell (j := 0) rfl) rfl ?_
  refine WL.bin rfl rfl rfl (BinR.eqlFnil Tryd.underlying39) ?_
  refine WL.nil ?_
  refine WC.condF rfl ?_
  refine WC.skip ?_
  refine WC.seq ?_
  refine WC.region ?_
  refine WL.fieldAddr rfl fo41_0 rfl ?_
  refine WL.load1 rfl ag39 (n7.blk.cell (j := 0) rfl) rfl ?_
  refine WL.move (v := I64 (x)) rfl rfl ?_
  refine WL.move (v := I64 (y)) rfl rfl ?_
  refine WL.callV rfl ca39 (rfl) rfl (clo1 (x) (y) _) ?_
  rintro _ _ ⟨rfl, rfl⟩
  refine WL.assign (v := I64 ((opW 1 (x) (y)))) rfl rfl ?_
  refine WL.nil ?_
  refine WC.ret ?_
  exact ⟨_, Res.one (v := I64 ((opW 1 (x) (y)))) rfl rfl, rfl, E2⟩

theorem do2 (x y : BitVec 64) (w : World) : CallsR Tryd.prog 10 #[.int .u8 (2), I64 (x), I64 (y)] w (fun v w' => v = I64 (opW 2 x y) ∧ Ext w w') := by
  refine callsR_of Tryd.func10 rfl rfl rfl ?_
  refine WC.seq ?_
  refine WC.region ?_
  refine WL.assign (v := I64 (0#64)) rfl rfl ?_
  refine WL.nil ?_
  refine WC.seq ?_
  refine WC.region ?_
  refine WL.move (v := .int .u8 (2)) rfl rfl ?_
  refine WL.call ca27 (rfl) rfl (of_row2 _) ?_
  rintro _ wo9 ⟨rfl, e9⟩
  have E1 : Ext w wo9 := Mod.trans (Mod.refl _ _) (e9)
  refine WL.allocStore (v := .agg #[.func (.func 40) #[] #[], .bool false, .bool false, .int .i64 0, .bool true]) zt41 rfl sz41 rfl rfl rfl rfl ?_
  intro b7 w7 n7
  have E2 : Ext w w7 := Mod.trans (E1) (n7.ext)
  refine WL.nil ?_
  refine WC.seq ?_
  refine WC.seq ?_
  refine WC.region ?_
  refine WL.fieldAddr rfl fo41_0 rfl ?_
  refine WL.load1 rfl ag39 (n7.blk.cell (j := 0) rfl) rfl ?_
  refine WL.bin rfl rfl rfl (BinR.eqlFnil Tryd.underlying39) ?_
  refine WL.nil ?_
  refine WC.condF rfl ?_
  refine WC.skip ?_
  refine WC.seq ?_
  refine WC.region ?_
  refine WL.fieldAddr rfl fo41_0 rfl ?_
  refine WL.load1 rfl ag39 (n7.blk.cell (j := 0) rfl) rfl ?_
  refine WL.move (v := I64 (x)) rfl rfl ?_
  refine WL.move (v := I64 (y)) rfl rfl ?_
  refine WL.callV rfl ca40 (rfl) rfl (clo2 (x) (y) _) ?_
  rintro _ _ ⟨rfl, rfl⟩
  refine WL.assign (v := I64 ((opW 2 (x) (y)))) rfl rfl ?_
  refine WL.nil ?_
  refine WC.ret ?_
  exact ⟨_, Res.one (v := I64 ((opW 2 (x) (y)))) rfl rfl, rfl, E2⟩

theorem do3 (x y : BitVec 64) (w : World) : CallsR Tryd.prog 10 #[.int .u8 (3), I64 (x), I64 (y)] w (fun v w' => v = I64 (opW 3 x y) ∧ Ext w w') := by
  refine callsR_of Tryd.func10 rfl rfl rfl ?_
  refine WC.seq ?_
  refine WC.region ?_
  refine WL.assign (v := I64 (0#64)) rfl rfl ?_
  refine WL.nil ?_
  refine WC.seq ?_
  refine WC.region ?_
  refine WL.move (v := .int .u8 (3)) rfl rfl ?_
  refine WL.call ca27 (rfl) rfl (of_row3 _) ?_
  rintro _ wo9 ⟨rfl, e9⟩
  have E1 : Ext w wo9 := Mod.trans (Mod.refl _ _) (e9)
  refine WL.allocStore (v := .agg #[.func (.func 41) #[] #[], .bool true, .bool true, .int .i64 1, .bool true]) zt41 rfl sz41 rfl rfl rfl rfl ?_
  intro b7 w7 n7
  have E2 : Ext w w7 := Mod.trans (E1) (n7.ext)
  refine WL.nil ?_
  refine WC.seq ?_
  refine WC.seq ?_
  refine WC.region ?_
  refine WL.fieldAddr rfl fo41_0 rfl ?_
  refine WL.load1 rfl ag39 (n7.blk.cell (j := 0) rfl) rfl ?_
  refine WL.bin rfl rfl rfl (BinR.eqlFnil Tryd.underlying39) ?_
  refine WL.nil ?_
  refine WC.condF rfl ?_
  refine WC.skip ?_
  refine WC.seq ?_
  refine WC.region ?_
  refine WL.fieldAddr rfl fo41_0 rfl ?_
  refine WL.load1 rfl ag39 (n7.blk.cell (j := 0) rfl) rfl ?_
  refine WL.move (v := I64 (x)) rfl rfl ?_
  refine WL.move (v := I64 (y)) rfl rfl ?_
  refine WL.callV rfl ca41 (rfl) rfl (clo3 (x) (y) _) ?_
  rintro _ _ ⟨rfl, rfl⟩
  refine WL.assign (v := I64 ((opW 3 (x) (y)))) rfl rfl ?_
  refine WL.nil ?_
  refine WC.ret ?_
  exact ⟨_, Res.one (v := I64 ((opW 3 (x) (y)))) rfl rfl, rfl, E2⟩

theorem do4 (x y : BitVec 64) (w : World) : CallsR Tryd.prog 10 #[.int .u8 (4), I64 (x), I64 (y)] w (fun v w' => v = I64 (opW 4 x y) ∧ Ext w w') := by
  refine callsR_of Tryd.func10 rfl rfl rfl ?_
  refine WC.seq ?_
  refine WC.region ?_
  refine WL.assign (v := I64 (0#64)) rfl rfl ?_
  refine WL.nil ?_
  refine WC.seq ?_
  refine WC.region ?_
  refine WL.move (v := .int .u8 (4)) rfl rfl ?_
  refine WL.call ca27 (rfl) rfl (of_row4 _) ?_
  rintro _ wo9 ⟨rfl, e9⟩
  have E1 : Ext w wo9 := Mod.trans (Mod.refl _ _) (e9)
  refine WL.allocStore (v := .agg #[.func (.func 42) #[] #[], .bool false, .bool false, .int .i64 1, .bool true]) zt41 rfl sz41 rfl rfl rfl rfl ?_
  intro b7 w7 n7
  have E2 : Ext w w7 := Mod.trans (E1) (n7.ext)
  refine WL.nil ?_
  refine WC.seq ?_
  refine WC.seq ?_
  refine WC.region ?_
  refine WL.fieldAddr rfl fo41_0 rfl ?_
  refine WL.load1 rfl ag39 (n7.blk.cell (j := 0) rfl) rfl ?_
  refine WL.bin rfl rfl rfl (BinR.eqlFnil Tryd.underlying39) ?_
  refine WL.nil ?_
  refine WC.condF rfl ?_
  refine WC.skip ?_
  refine WC.seq ?_
  refine WC.region ?_
  refine WL.fieldAddr rfl fo41_0 rfl ?_
  refine WL.load1 rfl ag39 (n7.blk.cell (j := 0) rfl) rfl ?_
  refine WL.move (v := I64 (x)) rfl rfl ?_
  refine WL.move (v := I64 (y)) rfl rfl ?_
  refine WL.callV rfl ca42 (rfl) rfl (clo4 (x) (y) _) ?_
  rintro _ _ ⟨rfl, rfl⟩
  refine WL.assign (v := I64 ((opW 4 (x) (y)))) rfl rfl ?_
  refine WL.nil ?_
  refine WC.ret ?_
  exact ⟨_, Res.one (v := I64 ((opW 4 (x) (y)))) rfl rfl, rfl, E2⟩

theorem do5 (x y : BitVec 64) (w : World) : CallsR Tryd.prog 10 #[.int .u8 (5), I64 (x), I64 (y)] w (fun v w' => v = I64 (opW 5 x y) ∧ Ext w w') := by
  refine callsR_of Tryd.func10 rfl rfl rfl ?_
  refine WC.seq ?_
  refine WC.region ?_
  refine WL.assign (v := I64 (0#64)) rfl rfl ?_
  refine WL.nil ?_
  refine WC.seq ?_
  refine WC.region ?_
  refine WL.move (v := .int .u8 (5)) rfl rfl ?_
  refine WL.call ca27 (rfl) rfl (of_row5 _) ?_
  rintro _ wo9 ⟨rfl, e9⟩
  have E1 : Ext w wo9 := Mod.trans (Mod.refl _ _) (e9)
  refine WL.allocStore (v := .agg #[.func (.func 43) #[] #[], .bool false, .bool false, .int .i64 0, .bool true]) zt41 rfl sz41 rfl rfl rfl rfl ?_
  intro b7 w7 n7
  have E2 : Ext w w7 := Mod.trans (E1) (n7.ext)
  refine WL.nil ?_
  refine WC.seq ?_
  refine WC.seq ?_
  refine WC.region ?_
  refine WL.fieldAddr rfl fo41_0 rfl ?_
  refine WL.load1 rfl ag39 (n7.blk.cell (j := 0) rfl) rfl ?_
  refine WL.bin rfl rfl rfl (BinR.eqlFnil Tryd.underlying39) ?_
  refine WL.nil ?_
  refine WC.condF rfl ?_
  refine WC.skip ?_
  refine WC.seq ?_
  refine WC.region ?_
  refine WL.fieldAddr rfl fo41_0 rfl ?_
  refine WL.load1 rfl ag39 (n7.blk.cell (j := 0) rfl) rfl ?_
  refine WL.move (v := I64 (x)) rfl rfl ?_
  refine WL.move (v := I64 (y)) rfl rfl ?_
  refine WL.callV rfl ca43 (rfl) rfl (clo5 (x) (y) _) ?_
  rintro _ _ ⟨rfl, rfl⟩
  refine WL.assign (v := I64 ((opW 5 (x) (y)))) rfl rfl ?_
  refine WL.nil ?_
  refine WC.ret ?_
  exact ⟨_, Res.one (v := I64 ((opW 5 (x) (y)))) rfl rfl, rfl, E2⟩

theorem do6 (x y : BitVec 64) (w : World) : CallsR Tryd.prog 10 #[.int .u8 (6), I64 (x), I64 (y)] w (fun v w' => v = I64 (opW 6 x y) ∧ Ext w w') := by
  refine callsR_of Tryd.func10 rfl rfl rfl ?_
  refine WC.seq ?_
  refine WC.region ?_
  refine WL.assign (v := I64 (0#64)) rfl rfl ?_
  refine WL.nil ?_
  refine WC.seq ?_
  refine WC.region ?_
  refine WL.move (v := .int .u8 (6)) rfl rfl ?_
  refine WL.call ca27 (rfl) rfl (of_row6 _) ?_
  rintro _ wo9 ⟨rfl, e9⟩
  have E1 : Ext w wo9 := Mod.trans (Mod.refl _ _) (e9)
  refine WL.allocStore (v := .agg #[.func (.func 44) #[] #[], .bool false, .bool false, .int .i64 1, .bool true]) zt41 rfl sz41 rfl rfl rfl rfl ?_
  intro b7 w7 n7
  have E2 : Ext w w7 := Mod.trans (E1) (n7.ext)
  refine WL.nil ?_
  refine WC.seq ?_
  refine WC.seq ?_
  refine WC.region ?_
  refine WL.fieldAddr rfl fo41_0 rfl ?_
  refine WL.load1 rfl ag39 (n7.blk.cell (j := 0) rfl) rfl ?_
  refine WL.bin rfl rfl rfl (BinR.eqlFnil Tryd.underlying39) ?_
  refine WL.nil ?_
  refine WC.condF rfl ?_
  refine WC.skip ?_
  refine WC.seq ?_
  refine WC.region ?_
  refine WL.fieldAddr rfl fo41_0 rfl ?_
  refine WL.load1 rfl ag39 (n7.blk.cell (j := 0) rfl) rfl ?_
  refine WL.move (v := I64 (x)) rfl rfl ?_
  refine WL.move (v := I64 (y)) rfl rfl ?_
  refine WL.callV rfl ca44 (rfl) rfl (clo6 (x) (y) _) ?_
  rintro _ _ ⟨rfl, rfl⟩
  refine WL.assign (v := I64 ((opW 6 (x) (y)))) rfl rfl ?_
  refine WL.nil ?_
  refine WC.ret ?_
  exact ⟨_, Res.one (v := I64 ((opW 6 (x) (y)))) rfl rfl, rfl, E2⟩

theorem do7 (x y : BitVec 64) (w : World) : CallsR Tryd.prog 10 #[.int .u8 (7), I64 (x), I64 (y)] w (fun v w' => v = I64 (opW 7 x y) ∧ Ext w w') := by
  refine callsR_of Tryd.func10 rfl rfl rfl ?_
  refine WC.seq ?_
  refine WC.region ?_
  refine WL.assign (v := I64 (0#64)) rfl rfl ?_
  refine WL.nil ?_
  refine WC.seq ?_
  refine WC.region ?_
  refine WL.move (v := .int .u8 (7)) rfl rfl ?_
  refine WL.call ca27 (rfl) rfl (of_row7 _) ?_
  rintro _ wo9 ⟨rfl, e9⟩
  have E1 : Ext w wo9 := Mod.trans (Mod.refl _ _) (e9)
  refine WL.allocStore (v := .agg #[.func (.func 45) #[] #[], .bool false, .bool false, .int .i64 0, .bool true]) zt41 rfl sz41 rfl rfl rfl rfl ?_
  intro b7 w7 n7
  have E2 : Ext w w7 := Mod.trans (E1) (n7.ext)
  refine WL.nil ?_
  refine WC.seq ?_
  refine WC.seq ?_
  refine WC.region ?_
  refine WL.fieldAddr rfl fo41_0 rfl ?_
  refine WL.load1 rfl ag39 (n7.blk.cell (j := 0) rfl) rfl ?_
  refine WL.bin rfl rfl rfl (BinR.eqlFnil Tryd.underlying39) ?_
  refine WL.nil ?_
  refine WC.condF rfl ?_
  refine WC.skip ?_
  refine WC.seq ?_
  refine WC.region ?_
  refine WL.fieldAddr rfl fo41_0 rfl ?_
  refine WL.load1 rfl ag39 (n7.blk.cell (j := 0) rfl) rfl ?_
  refine WL.move (v := I64 (x)) rfl rfl ?_
  refine WL.move (v := I64 (y)) rfl rfl ?_
  refine WL.callV rfl ca45 (rfl) rfl (clo7 (x) (y) _) ?_
  rintro _ _ ⟨rfl, rfl⟩
  refine WL.assign (v := I64 ((opW 7 (x) (y)))) rfl rfl ?_
  refine WL.nil ?_
  refine WC.ret ?_
  exact ⟨_, Res.one (v := I64 ((opW 7 (x) (y)))) rfl rfl, rfl, E2⟩

theorem do8 (x y : BitVec 64) (w : World) : CallsR Tryd.prog 10 #[.int .u8 (8), I64 (x), I64 (y)] w (fun v w' => v = I64 (opW 8 x y) ∧ Ext w w') := by
  refine callsR_of Tryd.func10 rfl rfl rfl ?_
  refine WC.seq ?_
  refine WC.region ?_
  refine WL.assign (v := I64 (0#64)) rfl rfl ?_
  refine WL.nil ?_
  refine WC.seq ?_
  refine WC.region ?_
  refine WL.move (v := .int .u8 (8)) rfl rfl ?_
  refine WL.call ca27 (rfl) rfl (of_row8 _) ?_
  rintro _ wo9 ⟨rfl, e9⟩
  have E1 : Ext w wo9 := Mod.trans (Mod.refl _ _) (e9)
  refine WL.allocStore (v := .agg #[.func (.func 46) #[] #[], .bool true, .bool true, .int .i64 (-1), .bool true]) zt41 rfl sz41 rfl rfl rfl rfl ?_
  intro b7 w7 n7
  have E2 : Ext w w7 := Mod.trans (E1) (n7.ext)
  refine WL.nil ?_
  refine WC.seq ?_
  refine WC.seq ?_
  refine WC.region ?_
  refine WL.fieldAddr rfl fo41_0 rfl ?_
  refine WL.load1 rfl ag39 (n7.blk.cell (j := 0) rfl) rfl ?_
  refine WL.bin rfl rfl rfl (BinR.eqlFnil Tryd.underlying39) ?_
  refine WL.nil ?_
  refine WC.condF rfl ?_
  refine WC.skip ?_
  refine WC.seq ?_
  refine WC.region ?_
  refine WL.fieldAddr rfl fo41_0 rfl ?_
  refine WL.load1 rfl ag39 (n7.blk.cell (j := 0) rfl) rfl ?_
  refine WL.move (v := I64 (x)) rfl rfl ?_
  refine WL.move (v := I64 (y)) rfl rfl ?_
  refine WL.callV rfl ca46 (rfl) rfl (clo8 (x) (y) _) ?_
  rintro _ _ ⟨rfl, rfl⟩
  refine WL.assign (v := I64 ((opW 8 (x) (y)))) rfl rfl ?_
  refine WL.nil ?_
  refine WC.ret ?_
  exact ⟨_, Res.one (v := I64 ((opW 8 (x) (y)))) rfl rfl, rfl, E2⟩

theorem do9 (x y : BitVec 64) (w : World) : CallsR Tryd.prog 10 #[.int .u8 (9), I64 (x), I64 (y)] w (fun v w' => v = I64 (opW 9 x y) ∧ Ext w w') := by
  refine callsR_of Tryd.func10 rfl rfl rfl ?_
  refine WC.seq ?_
  refine WC.region ?_
  refine WL.assign (v := I64 (0#64)) rfl rfl ?_
  refine WL.nil ?_
  refine WC.seq ?_
  refine WC.region ?_
  refine WL.move (v := .int .u8 (9)) rfl rfl ?_
  refine WL.call ca27 (rfl) rfl (of_row9 _) ?_
  rintro _ wo9 ⟨rfl, e9⟩
  have E1 : Ext w wo9 := Mod.trans (Mod.refl _ _) (e9)
  refine WL.allocStore (v := .agg #[.func (.func 47) #[] #[], .bool true, .bool true, .int .i64 0, .bool true]) zt41 rfl sz41 rfl rfl rfl rfl ?_
  intro b7 w7 n7
  have E2 : Ext w w7 := Mod.trans (E1) (n7.ext)
  refine WL.nil ?_
  refine WC.seq ?_
  refine WC.seq ?_
  refine WC.region ?_
  refine WL.fieldAddr rfl fo41_0 rfl ?_
  refine WL.load1 rfl ag39 (n7.blk.cell (j := 0) rfl) rfl ?_
  refine WL.bin rfl rfl rfl (BinR.eqlFnil Tryd.underlying39) ?_
  refine WL.nil ?_
  refine WC.condF rfl ?_
  refine WC.skip ?_
  refine WC.seq ?_
  refine WC.region ?_
  refine WL.fieldAddr rfl fo41_0 rfl ?_
  refine WL.load1 rfl ag39 (n7.blk.cell (j := 0) rfl) rfl ?_
  refine WL.move (v := I64 (x)) rfl rfl ?_
  refine WL.move (v := I64 (y)) rfl rfl ?_
  refine WL.callV rfl ca47 (rfl) rfl (clo9 (x) (y) _) ?_
  rintro _ _ ⟨rfl, rfl⟩
  refine WL.assign (v := I64 ((opW 9 (x) (y)))) rfl rfl ?_
  refine WL.nil ?_
  refine WC.ret ?_
  exact ⟨_, Res.one (v := I64 ((opW 9 (x) (y)))) rfl rfl, rfl, E2⟩

theorem do10 (x y : BitVec 64) (w : World) : CallsR Tryd.prog 10 #[.int .u8 (10), I64 (x), I64 (y)] w (fun v w' => v = I64 (opW 10 x y) ∧ Ext w w') := by
  refine callsR_of Tryd.func10 rfl rfl rfl ?_
  refine WC.seq ?_
  refine WC.region ?_
  refine WL.assign (v := I64 (0#64)) rfl rfl ?_
  refine WL.nil ?_
  refine WC.seq ?_
  refine WC.region ?_
  refine WL.move (v := .int .u8 (10)) rfl rfl ?_
  refine WL.call ca27 (rfl) rfl (of_row10 _) ?_
  rintro _ wo9 ⟨rfl, e9⟩
  have E1 : Ext w wo9 := Mod.trans (Mod.refl _ _) (e9)
  refine WL.allocStore (v := .agg #[.func (.func 48) #[] #[], .bool true, .bool true, .int .i64 0, .bool true]) zt41 rfl sz41 rfl rfl rfl rfl ?_
  intro b7 w7 n7
  have E2 : Ext w w7 := Mod.trans (E1) (n7.ext)
  refine WL.nil ?_
  refine WC.seq ?_
  refine WC.seq ?_
  refine WC.region ?_
  refine WL.fieldAddr rfl fo41_0 rfl ?_
  refine WL.load1 rfl ag39 (n7.blk.cell (j := 0) rfl) rfl ?_
  refine WL.bin rfl rfl rfl (BinR.eqlFnil Tryd.underlying39) ?_
  refine WL.nil ?_
  refine WC.condF rfl ?_
  refine WC.skip ?_
  refine WC.seq ?_
  refine WC.region ?_
  refine WL.fieldAddr rfl fo41_0 rfl ?_
  refine WL.load1 rfl ag39 (n7.blk.cell (j := 0) rfl) rfl ?_
  refine WL.move (v := I64 (x)) rfl rfl ?_
  refine WL.move (v := I64 (y)) rfl rfl ?_
  refine WL.callV rfl ca48 (rfl) rfl (clo10 (x) (y) _) ?_
  rintro _ _ ⟨rfl, rfl⟩
  refine WL.assign (v := I64 ((opW 10 (x) (y)))) rfl rfl ?_
  refine WL.nil ?_
  refine WC.ret ?_
  exact ⟨_, Res.one (v := I64 ((opW 10 (x) (y)))) rfl rfl, rfl, E2⟩

theorem do11 (x y : BitVec 64) (w : World) : CallsR Tryd.prog 10 #[.int .u8 (11), I64 (x), I64 (y)] w (fun v w' => v = I64 (opW 11 x y) ∧ Ext w w') := by
  refine callsR_of Tryd.func10 rfl rfl rfl ?_
  refine WC.seq ?_
  refine WC.region ?_
  refine WL.assign (v := I64 (0#64)) rfl rfl ?_
  refine WL.nil ?_
  refine WC.seq ?_
  refine WC.region ?_
  refine WL.move (v := .int .u8 (11)) rfl rfl ?_
  refine WL.call ca27 (rfl) rfl (of_row11 _) ?_
  rintro _ wo9 ⟨rfl, e9⟩
  have E1 : Ext w wo9 := Mod.trans (Mod.refl _ _) (e9)
  refine WL.allocStore (v := .agg #[.func (.func 49) #[] #[], .bool false, .bool false, .int .i64 0, .bool true]) zt41 rfl sz41 rfl rfl rfl rfl ?_
  intro b7 w7 n7
  have E2 : Ext w w7 := Mod.trans (E1) (n7.ext)
  refine WL.nil ?_
  refine WC.seq ?_
  refine WC.seq ?_
  refine WC.region ?_
  refine WL.fieldAddr rfl fo41_0 rfl ?_
  refine WL.load1 rfl ag39 (n7.blk.cell (j := 0) rfl) rfl ?_
  refine WL.bin rfl rfl rfl (BinR.eqlFnil Tryd.underlying39) ?_
  refine WL.nil ?_
  refine WC.condF rfl ?_
  refine WC.skip ?_
  refine WC.seq ?_
  refine WC.region ?_
  refine WL.fieldAddr rfl fo41_0 rfl ?_
  refine WL.load1 rfl ag39 (n7.blk.cell (j := 0) rfl) rfl ?_
  refine WL.move (v := I64 (x)) rfl rfl ?_
  refine WL.move (v := I64 (y)) rfl rfl ?_
  refine WL.callV rfl ca49 (rfl) rfl (clo11 (x) (y) _) ?_
  rintro _ _ ⟨rfl, rfl⟩
  refine WL.assign (v := I64 ((opW 11 (x) (y)))) rfl rfl ?_
  refine WL.nil ?_
  refine WC.ret ?_
  exact ⟨_, Res.one (v := I64 ((opW 11 (x) (y)))) rfl rfl, rfl, E2⟩

theorem do12 (x y : BitVec 64) (w : World) : CallsR Tryd.prog 10 #[.int .u8 (12), I64 (x), I64 (y)] w (fun v w' => v = I64 (opW 12 x y) ∧ Ext w w') := by
  refine callsR_of Tryd.func10 rfl rfl rfl ?_
  refine WC.seq ?_
  refine WC.region ?_
  refine WL.assign (v := I64 (0#64)) rfl rfl ?_
  refine WL.nil ?_
  refine WC.seq ?_
  refine WC.region ?_
  refine WL.move (v := .int .u8 (12)) rfl rfl ?_
  refine WL.call ca27 (rfl) rfl (of_row12 _) ?_
  rintro _ wo9 ⟨rfl, e9⟩
  have E1 : Ext w wo9 := Mod.trans (Mod.refl _ _) (e9)
  refine WL.allocStore (v := .agg #[.func (.func 50) #[] #[], .bool false, .bool false, .int .i64 0, .bool true]) zt41 rfl sz41 rfl rfl rfl rfl ?_
  intro b7 w7 n7
  have E2 : Ext w w7 := Mod.trans (E1) (n7.ext)
  refine WL.nil ?_
  refine WC.seq ?_
  refine WC.seq ?_
  refine WC.region ?_
  refine WL.fieldAddr rfl fo41_0 rfl ?_
  refine WL.load1 rfl ag39 (n7.blk.cell (j := 0) rfl) rfl ?_
  refine WL.bin rfl rfl rfl (BinR.eqlFnil Tryd.underlying39) ?_
  refine WL.nil ?_
  refine WC.condF rfl ?_
  refine WC.skip ?_
  refine WC.seq ?_
  refine WC.region ?_
  refine WL.fieldAddr rfl fo41_0 rfl ?_
  refine WL.load1 rfl ag39 (n7.blk.cell (j := 0) rfl) rfl ?_
  refine WL.move (v := I64 (x)) rfl rfl ?_
  refine WL.move (v := I64 (y)) rfl rfl ?_
  refine WL.callV rfl ca50 (rfl) rfl (clo12 (x) (y) _) ?_
  rintro _ _ ⟨rfl, rfl⟩
  refine WL.assign (v := I64 ((opW 12 (x) (y)))) rfl rfl ?_
  refine WL.nil ?_
  refine WC.ret ?_
  exact ⟨_, Res.one (v := I64 ((opW 12 (x) (y)))) rfl rfl, rfl, E2⟩

theorem do13 (x y : BitVec 64) (w : World) : CallsR Tryd.prog 10 #[.int .u8 (13), I64 (x), I64 (y)] w (fun v w' => v = I64 (opW 13 x y) ∧ Ext w w') := by
  refine callsR_of Tryd.func10 rfl rfl rfl ?_
  refine WC.seq ?_
  refine WC.region ?_
  refine WL.assign (v := I64 (0#64)) rfl rfl ?_
  refine WL.nil ?_
  refine WC.seq ?_
  refine WC.region ?_
  refine WL.move (v := .int .u8 (13)) rfl rfl ?_
  refine WL.call ca27 (rfl) rfl (of_row13 _) ?_
  rintro _ wo9 ⟨rfl, e9⟩
  have E1 : Ext w wo9 := Mod.trans (Mod.refl _ _) (e9)
  refine WL.allocStore (v := .agg #[.func (.func 51) #[] #[], .bool false, .bool false, .int .i64 0, .bool true]) zt41 rfl sz41 rfl rfl rfl rfl ?_
  intro b7 w7 n7
  have E2 : Ext w w7 := Mod.trans (E1) (n7.ext)
  refine WL.nil ?_
  refine WC.seq ?_
  refine WC.seq ?_
  refine WC.region ?_
  refine WL.fieldAddr rfl fo41_0 rfl ?_
  refine WL.load1 rfl ag39 (n7.blk.cell (j := 0) rfl) rfl ?_
  refine WL.bin rfl rfl rfl (BinR.eqlFnil Tryd.underlying39) ?_
  refine WL.nil ?_
  refine WC.condF rfl ?_
  refine WC.skip ?_
  refine WC.seq ?_
  refine WC.region ?_
  refine WL.fieldAddr rfl fo41_0 rfl ?_
  refine WL.load1 rfl ag39 (n7.blk.cell (j := 0) rfl) rfl ?_
  refine WL.move (v := I64 (x)) rfl rfl ?_
  refine WL.move (v := I64 (y)) rfl rfl ?_
  refine WL.callV rfl ca51 (rfl) rfl (clo13 (x) (y) _) ?_
  rintro _ _ ⟨rfl, rfl⟩
  refine WL.assign (v := I64 ((opW 13 (x) (y)))) rfl rfl ?_
  refine WL.nil ?_
  refine WC.ret ?_
  exact ⟨_, Res.one (v := I64 ((opW 13 (x) (y)))) rfl rfl, rfl, E2⟩

theorem do14 (x y : BitVec 64) (w : World) : CallsR Tryd.prog 10 #[.int .u8 (14), I64 (x), I64 (y)] w (fun v w' => v = I64 (opW 14 x y) ∧ Ext w w') := by
  refine callsR_of Tryd.func10 rfl rfl rfl ?_
  refine WC.seq ?_
  refine WC.region ?_
  refine WL.assign (v := I64 (0#64)) rfl rfl ?_
  refine WL.nil ?_
  refine WC.seq ?_
  refine WC.region ?_
  refine WL.move (v := .int .u8 (14)) rfl rfl ?_
  refine WL.call ca27 (rfl) rfl (of_row14 _) ?_
  rintro _ wo9 ⟨rfl, e9⟩
  have E1 : Ext w wo9 := Mod.trans (Mod.refl _ _) (e9)
  refine WL.allocStore (v := .agg #[.func (.func 52) #[] #[], .bool false, .bool false, .int .i64 0, .bool false]) zt41 rfl sz41 rfl rfl rfl rfl ?_
  intro b7 w7 n7
  have E2 : Ext w w7 := Mod.trans (E1) (n7.ext)
  refine WL.nil ?_
  refine WC.seq ?_
  refine WC.seq ?_
  refine WC.region ?_
  refine WL.fieldAddr rfl fo41_0 rfl ?_
  refine WL.load1 rfl ag39 (n7.blk.cell (j := 0) rfl) rfl ?_
  refine WL.bin rfl rfl rfl (BinR.eqlFnil Tryd.underlying39) ?_
  refine WL.nil ?_
  refine WC.condF rfl ?_
  refine WC.skip ?_
  refine WC.seq ?_
  refine WC.region ?_
  refine WL.fieldAddr rfl fo41_0 rfl ?_
  refine WL.load1 rfl ag39 (n7.blk.cell (j := 0) rfl) rfl ?_
  refine WL.move (v := I64 (x)) rfl rfl ?_
  refine WL.move (v := I64 (y)) rfl rfl ?_
  refine WL.callV rfl ca52 (rfl) rfl (clo14 (x) (y) _) ?_
  rintro _ _ ⟨rfl, rfl⟩
  refine WL.assign (v := I64 ((opW 14 (x) (y)))) rfl rfl ?_
  refine WL.nil ?_
  refine WC.ret ?_
  exact ⟨_, Res.one (v := I64 ((opW 14 (x) (y)))) rfl rfl, rfl, E2⟩

theorem do15 (x y : BitVec 64) (w : World) : CallsR Tryd.prog 10 #[.int .u8 (15), I64 (x), I64 (y)] w (fun v w' => v = I64 (opW 15 x y) ∧ Ext w w') := by
  refine callsR_of Tryd.func10 rfl rfl rfl ?_
  refine WC.seq ?_
  refine WC.region ?_
  refine WL.assign (v := I64 (0#64)) rfl rfl ?_
  refine WL.nil ?_
  refine WC.seq ?_
  refine WC.region ?_
  refine WL.move (v := .int .u8 (15)) rfl rfl ?_
  refine WL.call ca27 (rfl) rfl (of_row15 _) ?_
  rintro _ wo9 ⟨rfl, e9⟩
  have E1 : Ext w wo9 := Mod.trans (Mod.refl _ _) (e9)
  refine WL.allocStore (v := .agg #[.func (.func 54) #[] #[], .bool false, .bool false, .int .i64 0, .bool false]) zt41 rfl sz41 rfl rfl rfl rfl ?_
  intro b7 w7 n7
  have E2 : Ext w w7 := Mod.trans (E1) (n7.ext)
  refine WL.nil ?_
  refine WC.seq ?_
  refine WC.seq ?_
  refine WC.region ?_
  refine WL.fieldAddr rfl fo41_0 rfl ?_
  refine WL.load1 rfl ag39 (n7.blk.cell (j := 0) rfl) rfl ?_
  refine WL.bin rfl rfl rfl (BinR.eqlFnil Tryd.underlying39) ?_
  refine WL.nil ?_
  refine WC.condF rfl ?_
  refine WC.skip ?_
  refine WC.seq ?_
  refine WC.region ?_
  refine WL.fieldAddr rfl fo41_0 rfl ?_
  refine WL.load1 rfl ag39 (n7.blk.cell (j := 0) rfl) rfl ?_
  refine WL.move (v := I64 (x)) rfl rfl ?_
  refine WL.move (v := I64 (y)) rfl rfl ?_
  refine WL.callV rfl ca54 (rfl) rfl (clo15 (x) (y) _) ?_
  rintro _ _ ⟨rfl, rfl⟩
  refine WL.assign (v := I64 ((opW 15 (x) (y)))) rfl rfl ?_
  refine WL.nil ?_
  refine WC.ret ?_
  exact ⟨_, Res.one (v := I64 ((opW 15 (x) (y)))) rfl rfl, rfl, E2⟩

theorem do16 (x y : BitVec 64) (w : World) : CallsR Tryd.prog 10 #[.int .u8 (16), I64 (x), I64 (y)] w (fun v w' => v = I64 (opW 16 x y) ∧ Ext w w') := by
  refine callsR_of Tryd.func10 rfl rfl rfl ?_
  refine WC.seq ?_
  refine WC.region ?_
  refine WL.assign (v := I64 (0#64)) rfl rfl ?_
  refine WL.nil ?_
  refine WC.seq ?_
  refine WC.region ?_
  refine WL.move (v := .int .u8 (16)) rfl rfl ?_
  refine WL.call ca27 (rfl) rfl (of_row16 _) ?_
  rintro _ wo9 ⟨rfl, e9⟩
  have E1 : Ext w wo9 := Mod.trans (Mod.refl _ _) (e9)
  refine WL.allocStore (v := .agg #[.func (.func 55) #[] #[], .bool true, .bool false, .int .i64 0, .bool false]) zt41 rfl sz41 rfl rfl rfl rfl ?_
  intro b7 w7 n7
  have E2 : Ext w w7 := Mod.trans (E1) (n7.ext)
  refine WL.nil ?_
  refine WC.seq ?_
  refine WC.seq ?_
  refine WC.region ?_
  refine WL.fieldAddr rfl fo41_0 rfl ?_
  refine WL.load1 rfl ag39 (n7.blk.cell (j := 0) rfl) rfl ?_
  refine WL.bin rfl rfl rfl (BinR.eqlFnil Tryd.underlying39) ?_
  refine WL.nil ?_
  refine WC.condF rfl ?_
  refine WC.skip ?_
  refine WC.seq ?_
  refine WC.region ?_
  refine WL.fieldAddr rfl fo41_0 rfl ?_
  refine WL.load1 rfl ag39 (n7.blk.cell (j := 0) rfl) rfl ?_
  refine WL.move (v := I64 (x)) rfl rfl ?_
  refine WL.move (v := I64 (y)) rfl rfl ?_
  refine WL.callV rfl ca55 (rfl) rfl (clo16 (x) (y) _) ?_
  rintro _ _ ⟨rfl, rfl⟩
  refine WL.assign (v := I64 ((opW 16 (x) (y)))) rfl rfl ?_
  refine WL.nil ?_
  refine WC.ret ?_
  exact ⟨_, Res.one (v := I64 ((opW 16 (x) (y)))) rfl rfl, rfl, E2⟩

theorem do_none (n : Nat) (x y : BitVec 64) (w : World) (hn : n = 0 ∨ 16 < n) (hn2 : n < 256) : CallsR Tryd.prog 10 #[.int .u8 (((n : Nat) : Int)), I64 (x), I64 (y)] w (fun v w' => v = I64 (opW n x y) ∧ Ext w w') := by
  refine callsR_of Tryd.func10 rfl rfl rfl ?_
  refine WC.seq ?_
  refine WC.region ?_
  refine WL.assign (v := I64 (0#64)) rfl rfl ?_
  refine WL.nil ?_
  refine WC.seq ?_
  refine WC.region ?_
  refine WL.move (v := .int .u8 (((n : Nat) : Int))) rfl rfl ?_
  refine WL.call ca27 (rfl) rfl (of_none n _ hn hn2) ?_
  rintro _ wo9 ⟨rfl, e9⟩
  have E1 : Ext w wo9 := Mod.trans (Mod.refl _ _) (e9)
  refine WL.allocStore (v := .agg #[.nilFunc, .bool false, .bool false, .int .i64 0, .bool false]) zt41 rfl sz41 rfl rfl rfl rfl ?_
  intro b7 w7 n7
  have E2 : Ext w w7 := Mod.trans (E1) (n7.ext)
  refine WL.nil ?_
  refine WC.seq ?_
  refine WC.seq ?_
  refine WC.region ?_
  refine WL.fieldAddr rfl fo41_0 rfl ?_
  refine WL.load1 rfl ag39 (n7.blk.cell (j := 0) rfl) rfl ?_
  refine WL.bin rfl rfl rfl (BinR.eqlNil Tryd.underlying39) ?_
  refine WL.nil ?_
  refine WC.condT rfl ?_
  refine WC.seq ?_
  refine WC.region ?_
  refine WL.assign (v := I64 (0#64)) rfl rfl ?_
  refine WL.nil ?_
  refine WC.ret ?_
  exact ⟨_, Res.one (v := I64 (0#64)) rfl rfl, congrArg I64 (opW_none n hn x y).symm, E2⟩

theorem do_spec (n : Nat) (x y : BitVec 64) (w : World) (hn2 : n < 256) : CallsR Tryd.prog 10 #[.int .u8 ((n : Nat) : Int), I64 x, I64 y] w (fun v w' => v = I64 (opW n x y) ∧ Ext w w') := by
  by_cases hn : n = 0 ∨ 16 < n
  · exact do_none n x y w hn hn2
  · match n, hn with
    | 0, hn => exact (hn (.inl rfl)).elim
    | 1, _ => exact do1 x y w
    | 2, _ => exact do2 x y w
    | 3, _ => exact do3 x y w
    | 4, _ => exact do4 x y w
    | 5, _ => exact do5 x y w
    | 6, _ => exact do6 x y w
    | 7, _ => exact do7 x y w
    | 8, _ => exact do8 x y w
    | 9, _ => exact do9 x y w
    | 10, _ => exact do10 x y w
    | 11, _ => exact do11 x y w
    | 12, _ => exact do12 x y w
    | 13, _ => exact do13 x y w
    | 14, _ => exact do14 x y w
    | 15, _ => exact do15 x y w
    | 16, _ => exact do16 x y w
    | n + 17, hn => exact (hn (.inr (by omega))).elim
end Go.Proofs.W
