import Derived.Test.YtgjhmdnbpnpkaaaDoorUxMem
import Derived.Test.YtgjhmdnbpnpkaaaDoorWordPure2
import Derived.Test.YtgjhmdnbpnpkaaaDoorRows
import Derived.Test.YtgjhmdnbpnpkaaaDoorWtW8
set_option linter.unusedSimpArgs false
set_option linter.unusedVariables false
namespace Go.Proofs.W
open Go Go.Ux Go.Ux.Word Go.Proofs
theorem ag4 : isAggT Tryd.prog 4 = some false := by kernel_rfl
theorem ag2 : isAggT Tryd.prog 2 = some false := by kernel_rfl

theorem known1 (w : World) : CallsR Tryd.prog 13 #[.int .u8 (1)] w (fun v w' => v = .bool (knownW 1) ∧ Ext w w') := by
  refine callsR_of Tryd.func13 rfl rfl rfl ?_
  refine WC.seq ?_
  refine WC.region ?_
  refine WL.assign (v := .bool (false)) rfl rfl ?_
  refine WL.nil ?_
  refine WC.seq ?_
  refine WC.region ?_
  refine WL.move (v := .int .u8 (1)) rfl rfl ?_
  refine WL.call ca27 (rfl) rfl (of_row1 _) ?_
  rintro _ wo4 ⟨rfl, e4⟩
  have E1 : Ext w wo4 := Mod.trans (Mod.refl _ _) (e4)
  refine WL.field1 rfl Tryd.underlying41 rfl ag39 rfl rfl rfl ?_
  refine WL.bin rfl rfl rfl (BinR.neqFnil Tryd.underlying39) ?_
  refine WL.assign (v := .bool (true)) rfl rfl ?_
  refine WL.nil ?_
  refine WC.ret ?_
  exact ⟨_, Res.one (v := .bool (true)) rfl rfl, rfl, E1⟩

theorem rknown1 (w : World) : CallsR Tryd.prog 14 #[.int .u8 (1)] w (fun v w' => v = .bool (knownW 1) ∧ w = w') := by
  refine callsR_of Tryd.func14 rfl rfl rfl ?_
  refine WC.seq ?_
  refine WC.region ?_
  refine WL.assign (v := .bool (false)) rfl rfl ?_
  refine WL.nil ?_
  refine WC.seq ?_
  refine WC.region ?_
  refine WL.move (v := .int .u8 (1)) rfl rfl ?_
  refine WL.bin rfl rfl rfl (BinR.geq) ?_
  refine WL.move (v := .bool (true)) rfl rfl ?_
  refine WL.guardT (rfl) ?_
  refine WL.move (v := .int .u8 (1)) rfl rfl ?_
  refine WL.guardT (rfl) ?_
  refine WL.bin rfl rfl rfl (BinR.leq) ?_
  refine WL.pick (b := true) rfl rfl rfl ?_
  refine WL.assign (v := .bool (true)) rfl rfl ?_
  refine WL.nil ?_
  refine WC.ret ?_
  exact ⟨_, Res.one (v := .bool (true)) rfl rfl, rfl, rfl⟩

theorem known2 (w : World) : CallsR Tryd.prog 13 #[.int .u8 (2)] w (fun v w' => v = .bool (knownW 2) ∧ Ext w w') := by
  refine callsR_of Tryd.func13 rfl rfl rfl ?_
  refine WC.seq ?_
  refine WC.region ?_
  refine WL.assign (v := .bool (false)) rfl rfl ?_
  refine WL.nil ?_
  refine WC.seq ?_
  refine WC.region ?_
  refine WL.move (v := .int .u8 (2)) rfl rfl ?_
  refine WL.call ca27 (rfl) rfl (of_row2 _) ?_
  rintro _ wo4 ⟨rfl, e4⟩
  have E1 : Ext w wo4 := Mod.trans (Mod.refl _ _) (e4)
  refine WL.field1 rfl Tryd.underlying41 rfl ag39 rfl rfl rfl ?_
  refine WL.bin rfl rfl rfl (BinR.neqFnil Tryd.underlying39) ?_
  refine WL.assign (v := .bool (true)) rfl rfl ?_
  refine WL.nil ?_
  refine WC.ret ?_
  exact ⟨_, Res.one (v := .bool (true)) rfl rfl, rfl, E1⟩

theorem rknown2 (w : World) : CallsR Tryd.prog 14 #[.int .u8 (2)] w (fun v w' => v = .bool (knownW 2) ∧ w = w') := by
  refine callsR_of Tryd.func14 rfl rfl rfl ?_
  refine WC.seq ?_
  refine WC.region ?_
  refine WL.assign (v := .bool (false)) rfl rfl ?_
  refine WL.nil ?_
  refine WC.seq ?_
  refine WC.region ?_
  refine WL.move (v := .int .u8 (2)) rfl rfl ?_
  refine WL.bin rfl rfl rfl (BinR.geq) ?_
  refine WL.move (v := .bool (true)) rfl rfl ?_
  refine WL.guardT (rfl) ?_
  refine WL.move (v := .int .u8 (2)) rfl rfl ?_
  refine WL.guardT (rfl) ?_
  refine WL.bin rfl rfl rfl (BinR.leq) ?_
  refine WL.pick (b := true) rfl rfl rfl ?_
  refine WL.assign (v := .bool (true)) rfl rfl ?_
  refine WL.nil ?_
  refine WC.ret ?_
  exact ⟨_, Res.one (v := .bool (true)) rfl rfl, rfl, rfl⟩

theorem known3 (w : World) : CallsR Tryd.prog 13 #[.int .u8 (3)] w (fun v w' => v = .bool (knownW 3) ∧ Ext w w') := by
  refine callsR_of Tryd.func13 rfl rfl rfl ?_
  refine WC.seq ?_
  refine WC.region ?_
  refine WL.assign (v := .bool (false)) rfl rfl ?_
  refine WL.nil ?_
  refine WC.seq ?_
  refine WC.region ?_
  refine WL.move (v := .int .u8 (3)) rfl rfl ?_
  refine WL.call ca27 (rfl) rfl (of_row3 _) ?_
  rintro _ wo4 ⟨rfl, e4⟩
  have E1 : Ext w wo4 := Mod.trans (Mod.refl _ _) (e4)
  refine WL.field1 rfl Tryd.underlying41 rfl ag39 rfl rfl rfl ?_
  refine WL.bin rfl rfl rfl (BinR.neqFnil Tryd.underlying39) ?_
  refine WL.assign (v := .bool (true)) rfl rfl ?_
  refine WL.nil ?_
  refine WC.ret ?_
  exact ⟨_, Res.one (v := .bool (true)) rfl rfl, rfl, E1⟩

theorem rknown3 (w : World) : CallsR Tryd.prog 14 #[.int .u8 (3)] w (fun v w' => v = .bool (knownW 3) ∧ w = w') := by
  refine callsR_of Tryd.func14 rfl rfl rfl ?_
  refine WC.seq ?_
  refine WC.region ?_
  refine WL.assign (v := .bool (false)) rfl rfl ?_
  refine WL.nil ?_
  refine WC.seq ?_
  refine WC.region ?_
  refine WL.move (v := .int .u8 (3)) rfl rfl ?_
  refine WL.bin rfl rfl rfl (BinR.geq) ?_
  refine WL.move (v := .bool (true)) rfl rfl ?_
  refine WL.guardT (rfl) ?_
  refine WL.move (v := .int .u8 (3)) rfl rfl ?_
  refine WL.guardT (rfl) ?_
  refine WL.bin rfl rfl rfl (BinR.leq) ?_
  refine WL.pick (b := true) rfl rfl rfl ?_
  refine WL.assign (v := .bool (true)) rfl rfl ?_
  refine WL.nil ?_
  refine WC.ret ?_
  exact ⟨_, Res.one (v := .bool (true)) rfl rfl, rfl, rfl⟩

theorem known4 (w : World) : CallsR Tryd.prog 13 #[.int .u8 (4)] w (fun v w' => v = .bool (knownW 4) ∧ Ext w w') := by
  refine callsR_of Tryd.func13 rfl rfl rfl ?_
  refine WC.seq ?_
  refine WC.region ?_
  refine WL.assign (v := .bool (false)) rfl rfl ?_
  refine WL.nil ?_
  refine WC.seq ?_
  refine WC.region ?_
  refine WL.move (v := .int .u8 (4)) rfl rfl ?_
  refine WL.call ca27 (rfl) rfl (of_row4 _) ?_
  rintro _ wo4 ⟨rfl, e4⟩
  have E1 : Ext w wo4 := Mod.trans (Mod.refl _ _) (e4)
  refine WL.field1 rfl Tryd.underlying41 rfl ag39 rfl rfl rfl ?_
  refine WL.bin rfl rfl rfl (BinR.neqFnil Tryd.underlying39) ?_
  refine WL.assign (v := .bool (true)) rfl rfl ?_
  refine WL.nil ?_
  refine WC.ret ?_
  exact ⟨_, Res.one (v := .bool (true)) rfl rfl, rfl, E1⟩

theorem rknown4 (w : World) : CallsR Tryd.prog 14 #[.int .u8 (4)] w (fun v w' => v = .bool (knownW 4) ∧ w = w') := by
  refine callsR_of Tryd.func14 rfl rfl rfl ?_
  refine WC.seq ?_
  refine WC.region ?_
  refine WL.assign (v := .bool (false)) rfl rfl ?_
  refine WL.nil ?_
  refine WC.seq ?_
  refine WC.region ?_
  refine WL.move (v := .int .u8 (4)) rfl rfl ?_
  refine WL.bin rfl rfl rfl (BinR.geq) ?_
  refine WL.move (v := .bool (true)) rfl rfl ?_
  refine WL.guardT (rfl) ?_
  refine WL.move (v := .int .u8 (4)) rfl rfl ?_
  refine WL.guardT (rfl) ?_
  refine WL.bin rfl rfl rfl (BinR.leq) ?_
  refine WL.pick (b := true) rfl rfl rfl ?_
  refine WL.assign (v := .bool (true)) rfl rfl ?_
  refine WL.nil ?_
  refine WC.ret ?_
  exact ⟨_, Res.one (v := .bool (true)) rfl rfl, rfl, rfl⟩

theorem known5 (w : World) : CallsR Tryd.prog 13 #[.int .u8 (5)] w (fun v w' => v = .bool (knownW 5) ∧ Ext w w') := by
  refine callsR_of Tryd.func13 rfl rfl rfl ?_
  refine WC.seq ?_
  refine WC.region ?_
  refine WL.assign (v := .bool (false)) rfl rfl ?_
  refine WL.nil ?_
  refine WC.seq ?_
  refine WC.region ?_
  refine WL.move (v := .int .u8 (5)) rfl rfl ?_
  refine WL.call ca27 (rfl) rfl (of_row5 _) ?_
  rintro _ wo4 ⟨rfl, e4⟩
  have E1 : Ext w wo4 := Mod.trans (Mod.refl _ _) (e4)
  refine WL.field1 rfl Tryd.underlying41 rfl ag39 rfl rfl rfl ?_
  refine WL.bin rfl rfl rfl (BinR.neqFnil Tryd.underlying39) ?_
  refine WL.assign (v := .bool (true)) rfl rfl ?_
  refine WL.nil ?_
  refine WC.ret ?_
  exact ⟨_, Res.one (v := .bool (true)) rfl rfl, rfl, E1⟩

theorem rknown5 (w : World) : CallsR Tryd.prog 14 #[.int .u8 (5)] w (fun v w' => v = .bool (knownW 5) ∧ w = w') := by
  refine callsR_of Tryd.func14 rfl rfl rfl ?_
  refine WC.seq ?_
  refine WC.region ?_
  refine WL.assign (v := .bool (false)) rfl rfl ?_
  refine WL.nil ?_
  refine WC.seq ?_
  refine WC.region ?_
  refine WL.move (v := .int .u8 (5)) rfl rfl ?_
  refine WL.bin rfl rfl rfl (BinR.geq) ?_
  refine WL.move (v := .bool (true)) rfl rfl ?_
  refine WL.guardT (rfl) ?_
  refine WL.move (v := .int .u8 (5)) rfl rfl ?_
  refine WL.guardT (rfl) ?_
  refine WL.bin rfl rfl rfl (BinR.leq) ?_
  refine WL.pick (b := true) rfl rfl rfl ?_
  refine WL.assign (v := .bool (true)) rfl rfl ?_
  refine WL.nil ?_
  refine WC.ret ?_
  exact ⟨_, Res.one (v := .bool (true)) rfl rfl, rfl, rfl⟩

theorem known6 (w : World) : CallsR Tryd.prog 13 #[.int .u8 (6)] w (fun v w' => v = .bool (knownW 6) ∧ Ext w w') := by
  refine callsR_of Tryd.func13 rfl rfl rfl ?_
  refine WC.seq ?_
  refine WC.region ?_
  refine WL.assign (v := .bool (false)) rfl rfl ?_
  refine WL.nil ?_
  refine WC.seq ?_
  refine WC.region ?_
  refine WL.move (v := .int .u8 (6)) rfl rfl ?_
  refine WL.call ca27 (rfl) rfl (of_row6 _) ?_
  rintro _ wo4 ⟨rfl, e4⟩
  have E1 : Ext w wo4 := Mod.trans (Mod.refl _ _) (e4)
  refine WL.field1 rfl Tryd.underlying41 rfl ag39 rfl rfl rfl ?_
  refine WL.bin rfl rfl rfl (BinR.neqFnil Tryd.underlying39) ?_
  refine WL.assign (v := .bool (true)) rfl rfl ?_
  refine WL.nil ?_
  refine WC.ret ?_
  exact ⟨_, Res.one (v := .bool (true)) rfl rfl, rfl, E1⟩

theorem rknown6 (w : World) : CallsR Tryd.prog 14 #[.int .u8 (6)] w (fun v w' => v = .bool (knownW 6) ∧ w = w') := by
  refine callsR_of Tryd.func14 rfl rfl rfl ?_
  refine WC.seq ?_
  refine WC.region ?_
  refine WL.assign (v := .bool (false)) rfl rfl ?_
  refine WL.nil ?_
  refine WC.seq ?_
  refine WC.region ?_
  refine WL.move (v := .int .u8 (6)) rfl rfl ?_
  refine WL.bin rfl rfl rfl (BinR.geq) ?_
  refine WL.move (v := .bool (true)) rfl rfl ?_
  refine WL.guardT (rfl) ?_
  refine WL.move (v := .int .u8 (6)) rfl rfl ?_
  refine WL.guardT (rfl) ?_
  refine WL.bin rfl rfl rfl (BinR.leq) ?_
  refine WL.pick (b := true) rfl rfl rfl ?_
  refine WL.assign (v := .bool (true)) rfl rfl ?_
  refine WL.nil ?_
  refine WC.ret ?_
  exact ⟨_, Res.one (v := .bool (true)) rfl rfl, rfl, rfl⟩

theorem known7 (w : World) : CallsR Tryd.prog 13 #[.int .u8 (7)] w (fun v w' => v = .bool (knownW 7) ∧ Ext w w') := by
  refine callsR_of Tryd.func13 rfl rfl rfl ?_
  refine WC.seq ?_
  refine WC.region ?_
  refine WL.assign (v := .bool (false)) rfl rfl ?_
  refine WL.nil ?_
  refine WC.seq ?_
  refine WC.region ?_
  refine WL.move (v := .int .u8 (7)) rfl rfl ?_
  refine WL.call ca27 (rfl) rfl (of_row7 _) ?_
  rintro _ wo4 ⟨rfl, e4⟩
  have E1 : Ext w wo4 := Mod.trans (Mod.refl _ _) (e4)
  refine WL.field1 rfl Tryd.underlying41 rfl ag39 rfl rfl rfl ?_
  refine WL.bin rfl rfl rfl (BinR.neqFnil Tryd.underlying39) ?_
  refine WL.assign (v := .bool (true)) rfl rfl ?_
  refine WL.nil ?_
  refine WC.ret ?_
  exact ⟨_, Res.one (v := .bool (true)) rfl rfl, rfl, E1⟩

theorem rknown7 (w : World) : CallsR Tryd.prog 14 #[.int .u8 (7)] w (fun v w' => v = .bool (knownW 7) ∧ w = w') := by
  refine callsR_of Tryd.func14 rfl rfl rfl ?_
  refine WC.seq ?_
  refine WC.region ?_
  refine WL.assign (v := .bool (false)) rfl rfl ?_
  refine WL.nil ?_
  refine WC.seq ?_
  refine WC.region ?_
  refine WL.move (v := .int .u8 (7)) rfl rfl ?_
  refine WL.bin rfl rfl rfl (BinR.geq) ?_
  refine WL.move (v := .bool (true)) rfl rfl ?_
  refine WL.guardT (rfl) ?_
  refine WL.move (v := .int .u8 (7)) rfl rfl ?_
  refine WL.guardT (rfl) ?_
  refine WL.bin rfl rfl rfl (BinR.leq) ?_
  refine WL.pick (b := true) rfl rfl rfl ?_
  refine WL.assign (v := .bool (true)) rfl rfl ?_
  refine WL.nil ?_
  refine WC.ret ?_
  exact ⟨_, Res.one (v := .bool (true)) rfl rfl, rfl, rfl⟩

theorem known8 (w : World) : CallsR Tryd.prog 13 #[.int .u8 (8)] w (fun v w' => v = .bool (knownW 8) ∧ Ext w w') := by
  refine callsR_of Tryd.func13 rfl rfl rfl ?_
  refine WC.seq ?_
  refine WC.region ?_
  refine WL.assign (v := .bool (false)) rfl rfl ?_
  refine WL.nil ?_
  refine WC.seq ?_
  refine WC.region ?_
  refine WL.move (v := .int .u8 (8)) rfl rfl ?_
  refine WL.call ca27 (rfl) rfl (of_row8 _) ?_
  rintro _ wo4 ⟨rfl, e4⟩
  have E1 : Ext w wo4 := Mod.trans (Mod.refl _ _) (e4)
  refine WL.field1 rfl Tryd.underlying41 rfl ag39 rfl rfl rfl ?_
  refine WL.bin rfl rfl rfl (BinR.neqFnil Tryd.underlying39) ?_
  refine WL.assign (v := .bool (true)) rfl rfl ?_
  refine WL.nil ?_
  refine WC.ret ?_
  exact ⟨_, Res.one (v := .bool (true)) rfl rfl, rfl, E1⟩

theorem rknown8 (w : World) : CallsR Tryd.prog 14 #[.int .u8 (8)] w (fun v w' => v = .bool (knownW 8) ∧ w = w') := by
  refine callsR_of Tryd.func14 rfl rfl rfl ?_
  refine WC.seq ?_
  refine WC.region ?_
  refine WL.assign (v := .bool (false)) rfl rfl ?_
  refine WL.nil ?_
  refine WC.seq ?_
  refine WC.region ?_
  refine WL.move (v := .int .u8 (8)) rfl rfl ?_
  refine WL.bin rfl rfl rfl (BinR.geq) ?_
  refine WL.move (v := .bool (true)) rfl rfl ?_
  refine WL.guardT (rfl) ?_
  refine WL.move (v := .int .u8 (8)) rfl rfl ?_
  refine WL.guardT (rfl) ?_
  refine WL.bin rfl rfl rfl (BinR.leq) ?_
  refine WL.pick (b := true) rfl rfl rfl ?_
  refine WL.assign (v := .bool (true)) rfl rfl ?_
  refine WL.nil ?_
  refine WC.ret ?_
  exact ⟨_, Res.one (v := .bool (true)) rfl rfl, rfl, rfl⟩

theorem known9 (w : World) : CallsR Tryd.prog 13 #[.int .u8 (9)] w (fun v w' => v = .bool (knownW 9) ∧ Ext w w') := by
  refine callsR_of Tryd.func13 rfl rfl rfl ?_
  refine WC.seq ?_
  refine WC.region ?_
  refine WL.assign (v := .bool (false)) rfl rfl ?_
  refine WL.nil ?_
  refine WC.seq ?_
  refine WC.region ?_
  refine WL.move (v := .int .u8 (9)) rfl rfl ?_
  refine WL.call ca27 (rfl) rfl (of_row9 _) ?_
  rintro _ wo4 ⟨rfl, e4⟩
  have E1 : Ext w wo4 := Mod.trans (Mod.refl _ _) (e4)
  refine WL.field1 rfl Tryd.underlying41 rfl ag39 rfl rfl rfl ?_
  refine WL.bin rfl rfl rfl (BinR.neqFnil Tryd.underlying39) ?_
  refine WL.assign (v := .bool (true)) rfl rfl ?_
  refine WL.nil ?_
  refine WC.ret ?_
  exact ⟨_, Res.one (v := .bool (true)) rfl rfl, rfl, E1⟩

theorem rknown9 (w : World) : CallsR Tryd.prog 14 #[.int .u8 (9)] w (fun v w' => v = .bool (knownW 9) ∧ w = w') := by
  refine callsR_of Tryd.func14 rfl rfl rfl ?_
  refine WC.seq ?_
  refine WC.region ?_
  refine WL.assign (v := .bool (false)) rfl rfl ?_
  refine WL.nil ?_
  refine WC.seq ?_
  refine WC.region ?_
  refine WL.move (v := .int .u8 (9)) rfl rfl ?_
  refine WL.bin rfl rfl rfl (BinR.geq) ?_
  refine WL.move (v := .bool (true)) rfl rfl ?_
  refine WL.guardT (rfl) ?_
  refine WL.move (v := .int .u8 (9)) rfl rfl ?_
  refine WL.guardT (rfl) ?_
  refine WL.bin rfl rfl rfl (BinR.leq) ?_
  refine WL.pick (b := true) rfl rfl rfl ?_
  refine WL.assign (v := .bool (true)) rfl rfl ?_
  refine WL.nil ?_
  refine WC.ret ?_
  exact ⟨_, Res.one (v := .bool (true)) rfl rfl, rfl, rfl⟩

theorem known10 (w : World) : CallsR Tryd.prog 13 #[.int .u8 (10)] w (fun v w' => v = .bool (knownW 10) ∧ Ext w w') := by
  refine callsR_of Tryd.func13 rfl rfl rfl ?_
  refine WC.seq ?_
  refine WC.region ?_
  refine WL.assign (v := .bool (false)) rfl rfl ?_
  refine WL.nil ?_
  refine WC.seq ?_
  refine WC.region ?_
  refine WL.move (v := .int .u8 (10)) rfl rfl ?_
  refine WL.call ca27 (rfl) rfl (of_row10 _) ?_
  rintro _ wo4 ⟨rfl, e4⟩
  have E1 : Ext w wo4 := Mod.trans (Mod.refl _ _) (e4)
  refine WL.field1 rfl Tryd.underlying41 rfl ag39 rfl rfl rfl ?_
  refine WL.bin rfl rfl rfl (BinR.neqFnil Tryd.underlying39) ?_
  refine WL.assign (v := .bool (true)) rfl rfl ?_
  refine WL.nil ?_
  refine WC.ret ?_
  exact ⟨_, Res.one (v := .bool (true)) rfl rfl, rfl, E1⟩

theorem rknown10 (w : World) : CallsR Tryd.prog 14 #[.int .u8 (10)] w (fun v w' => v = .bool (knownW 10) ∧ w = w') := by
  refine callsR_of Tryd.func14 rfl rfl rfl ?_
  refine WC.seq ?_
  refine WC.region ?_
  refine WL.assign (v := .bool (false)) rfl rfl ?_
  refine WL.nil ?_
  refine WC.seq ?_
  refine WC.region ?_
  refine WL.move (v := .int .u8 (10)) rfl rfl ?_
  refine WL.bin rfl rfl rfl (BinR.geq) ?_
  refine WL.move (v := .bool (true)) rfl rfl ?_
  refine WL.guardT (rfl) ?_
  refine WL.move (v := .int .u8 (10)) rfl rfl ?_
  refine WL.guardT (rfl) ?_
  refine WL.bin rfl rfl rfl (BinR.leq) ?_
  refine WL.pick (b := true) rfl rfl rfl ?_
  refine WL.assign (v := .bool (true)) rfl rfl ?_
  refine WL.nil ?_
  refine WC.ret ?_
  exact ⟨_, Res.one (v := .bool (true)) rfl rfl, rfl, rfl⟩

theorem known11 (w : World) : CallsR Tryd.prog 13 #[.int .u8 (11)] w (fun v w' => v = .bool (knownW 11) ∧ Ext w w') := by
  refine callsR_of Tryd.func13 rfl rfl rfl ?_
  refine WC.seq ?_
  refine WC.region ?_
  refine WL.assign (v := .bool (false)) rfl rfl ?_
  refine WL.nil ?_
  refine WC.seq ?_
  refine WC.region ?_
  refine WL.move (v := .int .u8 (11)) rfl rfl ?_
  refine WL.call ca27 (rfl) rfl (of_row11 _) ?_
  rintro _ wo4 ⟨rfl, e4⟩
  have E1 : Ext w wo4 := Mod.trans (Mod.refl _ _) (e4)
  refine WL.field1 rfl Tryd.underlying41 rfl ag39 rfl rfl rfl ?_
  refine WL.bin rfl rfl rfl (BinR.neqFnil Tryd.underlying39) ?_
  refine WL.assign (v := .bool (true)) rfl rfl ?_
  refine WL.nil ?_
  refine WC.ret ?_
  exact ⟨_, Res.one (v := .bool (true)) rfl rfl, rfl, E1⟩

theorem rknown11 (w : World) : CallsR Tryd.prog 14 #[.int .u8 (11)] w (fun v w' => v = .bool (knownW 11) ∧ w = w') := by
  refine callsR_of Tryd.func14 rfl rfl rfl ?_
  refine WC.seq ?_
  refine WC.region ?_
  refine WL.assign (v := .bool (false)) rfl rfl ?_
  refine WL.nil ?_
  refine WC.seq ?_
  refine WC.region ?_
  refine WL.move (v := .int .u8 (11)) rfl rfl ?_
  refine WL.bin rfl rfl rfl (BinR.geq) ?_
  refine WL.move (v := .bool (true)) rfl rfl ?_
  refine WL.guardT (rfl) ?_
  refine WL.move (v := .int .u8 (11)) rfl rfl ?_
  refine WL.guardT (rfl) ?_
  refine WL.bin rfl rfl rfl (BinR.leq) ?_
  refine WL.pick (b := true) rfl rfl rfl ?_
  refine WL.assign (v := .bool (true)) rfl rfl ?_
  refine WL.nil ?_
  refine WC.ret ?_
  exact ⟨_, Res.one (v := .bool (true)) rfl rfl, rfl, rfl⟩

theorem known12 (w : World) : CallsR Tryd.prog 13 #[.int .u8 (12)] w (fun v w' => v = .bool (knownW 12) ∧ Ext w w') := by
  refine callsR_of Tryd.func13 rfl rfl rfl ?_
  refine WC.seq ?_
  refine WC.region ?_
  refine WL.assign (v := .bool (false)) rfl rfl ?_
  refine WL.nil ?_
  refine WC.seq ?_
  refine WC.region ?_
  refine WL.move (v := .int .u8 (12)) rfl rfl ?_
  refine WL.call ca27 (rfl) rfl (of_row12 _) ?_
  rintro _ wo4 ⟨rfl, e4⟩
  have E1 : Ext w wo4 := Mod.trans (Mod.refl _ _) (e4)
  refine WL.field1 rfl Tryd.underlying41 rfl ag39 rfl rfl rfl ?_
  refine WL.bin rfl rfl rfl (BinR.neqFnil Tryd.underlying39) ?_
  refine WL.assign (v := .bool (true)) rfl rfl ?_
  refine WL.nil ?_
  refine WC.ret ?_
  exact ⟨_, Res.one (v := .bool (true)) rfl rfl, rfl, E1⟩

theorem rknown12 (w : World) : CallsR Tryd.prog 14 #[.int .u8 (12)] w (fun v w' => v = .bool (knownW 12) ∧ w = w') := by
  refine callsR_of Tryd.func14 rfl rfl rfl ?_
  refine WC.seq ?_
  refine WC.region ?_
  refine WL.assign (v := .bool (false)) rfl rfl ?_
  refine WL.nil ?_
  refine WC.seq ?_
  refine WC.region ?_
  refine WL.move (v := .int .u8 (12)) rfl rfl ?_
  refine WL.bin rfl rfl rfl (BinR.geq) ?_
  refine WL.move (v := .bool (true)) rfl rfl ?_
  refine WL.guardT (rfl) ?_
  refine WL.move (v := .int .u8 (12)) rfl rfl ?_
  refine WL.guardT (rfl) ?_
  refine WL.bin rfl rfl rfl (BinR.leq) ?_
  refine WL.pick (b := true) rfl rfl rfl ?_
  refine WL.assign (v := .bool (true)) rfl rfl ?_
  refine WL.nil ?_
  refine WC.ret ?_
  exact ⟨_, Res.one (v := .bool (true)) rfl rfl, rfl, rfl⟩

theorem known13 (w : World) : CallsR Tryd.prog 13 #[.int .u8 (13)] w (fun v w' => v = .bool (knownW 13) ∧ Ext w w') := by
  refine callsR_of Tryd.func13 rfl rfl rfl ?_
  refine WC.seq ?_
  refine WC.region ?_
  refine WL.assign (v := .bool (false)) rfl rfl ?_
  refine WL.nil ?_
  refine WC.seq ?_
  refine WC.region ?_
  refine WL.move (v := .int .u8 (13)) rfl rfl ?_
  refine WL.call ca27 (rfl) rfl (of_row13 _) ?_
  rintro _ wo4 ⟨rfl, e4⟩
  have E1 : Ext w wo4 := Mod.trans (Mod.refl _ _) (e4)
  refine WL.field1 rfl Tryd.underlying41 rfl ag39 rfl rfl rfl ?_
  refine WL.bin rfl rfl rfl (BinR.neqFnil Tryd.underlying39) ?_
  refine WL.assign (v := .bool (true)) rfl rfl ?_
  refine WL.nil ?_
  refine WC.ret ?_
  exact ⟨_, Res.one (v := .bool (true)) rfl rfl, rfl, E1⟩

theorem rknown13 (w : World) : CallsR Tryd.prog 14 #[.int .u8 (13)] w (fun v w' => v = .bool (knownW 13) ∧ w = w') := by
  refine callsR_of Tryd.func14 rfl rfl rfl ?_
  refine WC.seq ?_
  refine WC.region ?_
  refine WL.assign (v := .bool (false)) rfl rfl ?_
  refine WL.nil ?_
  refine WC.seq ?_
  refine WC.region ?_
  refine WL.move (v := .int .u8 (13)) rfl rfl ?_
  refine WL.bin rfl rfl rfl (BinR.geq) ?_
  refine WL.move (v := .bool (true)) rfl rfl ?_
  refine WL.guardT (rfl) ?_
  refine WL.move (v := .int .u8 (13)) rfl rfl ?_
  refine WL.guardT (rfl) ?_
  refine WL.bin rfl rfl rfl (BinR.leq) ?_
  refine WL.pick (b := true) rfl rfl rfl ?_
  refine WL.assign (v := .bool (true)) rfl rfl ?_
  refine WL.nil ?_
  refine WC.ret ?_
  exact ⟨_, Res.one (v := .bool (true)) rfl rfl, rfl, rfl⟩

theorem known14 (w : World) : CallsR Tryd.prog 13 #[.int .u8 (14)] w (fun v w' => v = .bool (knownW 14) ∧ Ext w w') := by
  refine callsR_of Tryd.func13 rfl rfl rfl ?_
  refine WC.seq ?_
  refine WC.region ?_
  refine WL.assign (v := .bool (false)) rfl rfl ?_
  refine WL.nil ?_
  refine WC.seq ?_
  refine WC.region ?_
  refine WL.move (v := .int .u8 (14)) rfl rfl ?_
  refine WL.call ca27 (rfl) rfl (of_row14 _) ?_
  rintro _ wo4 ⟨rfl, e4⟩
  have E1 : Ext w wo4 := Mod.trans (Mod.refl _ _) (e4)
  refine WL.field1 rfl Tryd.underlying41 rfl ag39 rfl rfl rfl ?_
  refine WL.bin rfl rfl rfl (BinR.neqFnil Tryd.underlying39) ?_
  refine WL.assign (v := .bool (true)) rfl rfl ?_
  refine WL.nil ?_
  refine WC.ret ?_
  exact ⟨_, Res.one (v := .bool (true)) rfl rfl, rfl, E1⟩

theorem rknown14 (w : World) : CallsR Tryd.prog 14 #[.int .u8 (14)] w (fun v w' => v = .bool (knownW 14) ∧ w = w') := by
  refine callsR_of Tryd.func14 rfl rfl rfl ?_
  refine WC.seq ?_
  refine WC.region ?_
  refine WL.assign (v := .bool (false)) rfl rfl ?_
  refine WL.nil ?_
  refine WC.seq ?_
  refine WC.region ?_
  refine WL.move (v := .int .u8 (14)) rfl rfl ?_
  refine WL.bin rfl rfl rfl (BinR.geq) ?_
  refine WL.move (v := .bool (true)) rfl rfl ?_
  refine WL.guardT (rfl) ?_
  refine WL.move (v := .int .u8 (14)) rfl rfl ?_
  refine WL.guardT (rfl) ?_
  refine WL.bin rfl rfl rfl (BinR.leq) ?_
  refine WL.pick (b := true) rfl rfl rfl ?_
  refine WL.assign (v := .bool (true)) rfl rfl ?_
  refine WL.nil ?_
  refine WC.ret ?_
  exact ⟨_, Res.one (v := .bool (true)) rfl rfl, rfl, rfl⟩

theorem known15 (w : World) : CallsR Tryd.prog 13 #[.int .u8 (15)] w (fun v w' => v = .bool (knownW 15) ∧ Ext w w') := by
  refine callsR_of Tryd.func13 rfl rfl rfl ?_
  refine WC.seq ?_
  refine WC.region ?_
  refine WL.assign (v := .bool (false)) rfl rfl ?_
  refine WL.nil ?_
  refine WC.seq ?_
  refine WC.region ?_
  refine WL.move (v := .int .u8 (15)) rfl rfl ?_
  refine WL.call ca27 (rfl) rfl (of_row15 _) ?_
  rintro _ wo4 ⟨rfl, e4⟩
  have E1 : Ext w wo4 := Mod.trans (Mod.refl _ _) (e4)
  refine WL.field1 rfl Tryd.underlying41 rfl ag39 rfl rfl rfl ?_
  refine WL.bin rfl rfl rfl (BinR.neqFnil Tryd.underlying39) ?_
  refine WL.assign (v := .bool (true)) rfl rfl ?_
  refine WL.nil ?_
  refine WC.ret ?_
  exact ⟨_, Res.one (v := .bool (true)) rfl rfl, rfl, E1⟩

theorem rknown15 (w : World) : CallsR Tryd.prog 14 #[.int .u8 (15)] w (fun v w' => v = .bool (knownW 15) ∧ w = w') := by
  refine callsR_of Tryd.func14 rfl rfl rfl ?_
  refine WC.seq ?_
  refine WC.region ?_
  refine WL.assign (v := .bool (false)) rfl rfl ?_
  refine WL.nil ?_
  refine WC.seq ?_
  refine WC.region ?_
  refine WL.move (v := .int .u8 (15)) rfl rfl ?_
  refine WL.bin rfl rfl rfl (BinR.geq) ?_
  refine WL.move (v := .bool (true)) rfl rfl ?_
  refine WL.guardT (rfl) ?_
  refine WL.move (v := .int .u8 (15)) rfl rfl ?_
  refine WL.guardT (rfl) ?_
  refine WL.bin rfl rfl rfl (BinR.leq) ?_
  refine WL.pick (b := true) rfl rfl rfl ?_
  refine WL.assign (v := .bool (true)) rfl rfl ?_
  refine WL.nil ?_
  refine WC.ret ?_
  exact ⟨_, Res.one (v := .bool (true)) rfl rfl, rfl, rfl⟩

theorem known16 (w : World) : CallsR Tryd.prog 13 #[.int .u8 (16)] w (fun v w' => v = .bool (knownW 16) ∧ Ext w w') := by
  refine callsR_of Tryd.func13 rfl rfl rfl ?_
  refine WC.seq ?_
  refine WC.region ?_
  refine WL.assign (v := .bool (false)) rfl rfl ?_
  refine WL.nil ?_
  refine WC.seq ?_
  refine WC.region ?_
  refine WL.move (v := .int .u8 (16)) rfl rfl ?_
  refine WL.call ca27 (rfl) rfl (of_row16 _) ?_
  rintro _ wo4 ⟨rfl, e4⟩
  have E1 : Ext w wo4 := Mod.trans (Mod.refl _ _) (e4)
  refine WL.field1 rfl Tryd.underlying41 rfl ag39 rfl rfl rfl ?_
  refine WL.bin rfl rfl rfl (BinR.neqFnil Tryd.underlying39) ?_
  refine WL.assign (v := .bool (true)) rfl rfl ?_
  refine WL.nil ?_
  refine WC.ret ?_
  exact ⟨_, Res.one (v := .bool (true)) rfl rfl, rfl, E1⟩

theorem rknown16 (w : World) : CallsR Tryd.prog 14 #[.int .u8 (16)] w (fun v w' => v = .bool (knownW 16) ∧ w = w') := by
  refine callsR_of Tryd.func14 rfl rfl rfl ?_
  refine WC.seq ?_
  refine WC.region ?_
  refine WL.assign (v := .bool (false)) rfl rfl ?_
  refine WL.nil ?_
  refine WC.seq ?_
  refine WC.region ?_
  refine WL.move (v := .int .u8 (16)) rfl rfl ?_
  refine WL.bin rfl rfl rfl (BinR.geq) ?_
  refine WL.move (v := .bool (true)) rfl rfl ?_
  refine WL.guardT (rfl) ?_
  refine WL.move (v := .int .u8 (16)) rfl rfl ?_
  refine WL.guardT (rfl) ?_
  refine WL.bin rfl rfl rfl (BinR.leq) ?_
  refine WL.pick (b := true) rfl rfl rfl ?_
  refine WL.assign (v := .bool (true)) rfl rfl ?_
  refine WL.nil ?_
  refine WC.ret ?_
  exact ⟨_, Res.one (v := .bool (true)) rfl rfl, rfl, rfl⟩

theorem known_none (n : Nat) (w : World) (hn : n = 0 ∨ 16 < n) (hn2 : n < 256) : CallsR Tryd.prog 13 #[.int .u8 (((n : Nat) : Int))] w (fun v w' => v = .bool (knownW n) ∧ Ext w w') := by
  refine callsR_of Tryd.func13 rfl rfl rfl ?_
  refine WC.seq ?_
  refine WC.region ?_
  refine WL.assign (v := .bool (false)) rfl rfl ?_
  refine WL.nil ?_
  refine WC.seq ?_
  refine WC.region ?_
  refine WL.move (v := .int .u8 (((n : Nat) : Int))) rfl rfl ?_
  refine WL.call ca27 (rfl) rfl (of_none n _ hn hn2) ?_
  rintro _ wo4 ⟨rfl, e4⟩
  have E1 : Ext w wo4 := Mod.trans (Mod.refl _ _) (e4)
  refine WL.field1 rfl Tryd.underlying41 rfl ag39 rfl rfl rfl ?_
  refine WL.bin rfl rfl rfl (BinR.neqNil Tryd.underlying39) ?_
  refine WL.assign (v := .bool (false)) rfl rfl ?_
  refine WL.nil ?_
  refine WC.ret ?_
  exact ⟨_, Res.one (v := .bool (false)) rfl rfl, by first | (rw [knownW_none n hn]; rfl) | rw [knownW_none n hn], E1⟩

theorem known_spec (n : Nat)  (w : World) (hn2 : n < 256) : CallsR Tryd.prog 13 #[.int .u8 ((n : Nat) : Int)] w (fun v w' => v = .bool (knownW n) ∧ Ext w w') := by
  by_cases hn : n = 0 ∨ 16 < n
  · exact known_none n  w hn hn2
  · match n, hn with
    | 0, hn => exact (hn (.inl rfl)).elim
    | 1, _ => exact known1  w
    | 2, _ => exact known2  w
    | 3, _ => exact known3  w
    | 4, _ => exact known4  w
    | 5, _ => exact known5  w
    | 6, _ => exact known6  w
    | 7, _ => exact known7  w
    | 8, _ => exact known8  w
    | 9, _ => exact known9  w
    | 10, _ => exact known10  w
    | 11, _ => exact known11  w
    | 12, _ => exact known12  w
    | 13, _ => exact known13  w
    | 14, _ => exact known14  w
    | 15, _ => exact known15  w
    | 16, _ => exact known16  w
    | n + 17, hn => exact (hn (.inr (by omega))).elim

theorem swaps1 (w : World) : CallsR Tryd.prog 19 #[.int .u8 (1)] w (fun v w' => v = .bool (swapsW 1) ∧ Ext w w') := by
  refine callsR_of Tryd.func19 rfl rfl rfl ?_
  refine WC.seq ?_
  refine WC.region ?_
  refine WL.assign (v := .bool (false)) rfl rfl ?_
  refine WL.nil ?_
  refine WC.seq ?_
  refine WC.region ?_
  refine WL.move (v := .int .u8 (1)) rfl rfl ?_
  refine WL.call ca27 (rfl) rfl (of_row1 _) ?_
  rintro _ wo4 ⟨rfl, e4⟩
  have E1 : Ext w wo4 := Mod.trans (Mod.refl _ _) (e4)
  refine WL.field1 rfl Tryd.underlying41 rfl ag4 rfl rfl rfl ?_
  refine WL.assign (v := .bool (true)) rfl rfl ?_
  refine WL.nil ?_
  refine WC.ret ?_
  exact ⟨_, Res.one (v := .bool (true)) rfl rfl, rfl, E1⟩

theorem rswaps1 (w : World) : CallsR Tryd.prog 20 #[.int .u8 (1)] w (fun v w' => v = .bool (swapsW 1) ∧ w = w') := by
  refine callsR_of Tryd.func20 rfl rfl rfl ?_
  refine WC.seq ?_
  refine WC.region ?_
  refine WL.assign (v := .bool (false)) rfl rfl ?_
  refine WL.nil ?_
  refine WC.seq ?_
  refine WC.region ?_
  refine WL.move (v := .int .u8 (1)) rfl rfl ?_
  refine WL.bin rfl rfl rfl (BinR.eql) ?_
  refine WL.move (v := .bool (true)) rfl rfl ?_
  refine WL.guardF (b' := true) (rfl) rfl rfl ?_
  refine WL.guardF (b' := true) (rfl) rfl rfl ?_
  refine WL.pick (b := true) rfl rfl rfl ?_
  refine WL.move (v := .bool (true)) rfl rfl ?_
  refine WL.guardF (b' := true) (rfl) rfl rfl ?_
  refine WL.guardF (b' := true) (rfl) rfl rfl ?_
  refine WL.pick (b := true) rfl rfl rfl ?_
  refine WL.move (v := .bool (true)) rfl rfl ?_
  refine WL.guardF (b' := true) (rfl) rfl rfl ?_
  refine WL.guardF (b' := true) (rfl) rfl rfl ?_
  refine WL.pick (b := true) rfl rfl rfl ?_
  refine WL.move (v := .bool (true)) rfl rfl ?_
  refine WL.guardF (b' := true) (rfl) rfl rfl ?_
  refine WL.guardF (b' := true) (rfl) rfl rfl ?_
  refine WL.pick (b := true) rfl rfl rfl ?_
  refine WL.move (v := .bool (true)) rfl rfl ?_
  refine WL.guardF (b' := true) (rfl) rfl rfl ?_
  refine WL.guardF (b' := true) (rfl) rfl rfl ?_
  refine WL.pick (b := true) rfl rfl rfl ?_
  refine WL.assign (v := .bool (true)) rfl rfl ?_
  refine WL.nil ?_
  refine WC.ret ?_
  exact ⟨_, Res.one (v := .bool (true)) rfl rfl, rfl, rfl⟩

theorem swaps2 (w : World) : CallsR Tryd.prog 19 #[.int .u8 (2)] w (fun v w' => v = .bool (swapsW 2) ∧ Ext w w') := by
  refine callsR_of Tryd.func19 rfl rfl rfl ?_
  refine WC.seq ?_
  refine WC.region ?_
  refine WL.assign (v := .bool (false)) rfl rfl ?_
  refine WL.nil ?_
  refine WC.seq ?_
  refine WC.region ?_
  refine WL.move (v := .int .u8 (2)) rfl rfl ?_
  refine WL.call ca27 (rfl) rfl (of_row2 _) ?_
  rintro _ wo4 ⟨rfl, e4⟩
  have E1 : Ext w wo4 := Mod.trans (Mod.refl _ _) (e4)
  refine WL.field1 rfl Tryd.underlying41 rfl ag4 rfl rfl rfl ?_
  refine WL.assign (v := .bool (false)) rfl rfl ?_
  refine WL.nil ?_
  refine WC.ret ?_
  exact ⟨_, Res.one (v := .bool (false)) rfl rfl, rfl, E1⟩

theorem rswaps2 (w : World) : CallsR Tryd.prog 20 #[.int .u8 (2)] w (fun v w' => v = .bool (swapsW 2) ∧ w = w') := by
  refine callsR_of Tryd.func20 rfl rfl rfl ?_
  refine WC.seq ?_
  refine WC.region ?_
  refine WL.assign (v := .bool (false)) rfl rfl ?_
  refine WL.nil ?_
  refine WC.seq ?_
  refine WC.region ?_
  refine WL.move (v := .int .u8 (2)) rfl rfl ?_
  refine WL.bin rfl rfl rfl (BinR.eql) ?_
  refine WL.move (v := .bool (false)) rfl rfl ?_
  refine WL.guardT (rfl) ?_
  refine WL.move (v := .int .u8 (2)) rfl rfl ?_
  refine WL.guardT (rfl) ?_
  refine WL.bin rfl rfl rfl (BinR.eql) ?_
  refine WL.pick (b := false) rfl rfl rfl ?_
  refine WL.move (v := .bool (false)) rfl rfl ?_
  refine WL.guardT (rfl) ?_
  refine WL.move (v := .int .u8 (2)) rfl rfl ?_
  refine WL.guardT (rfl) ?_
  refine WL.bin rfl rfl rfl (BinR.eql) ?_
  refine WL.pick (b := false) rfl rfl rfl ?_
  refine WL.move (v := .bool (false)) rfl rfl ?_
  refine WL.guardT (rfl) ?_
  refine WL.move (v := .int .u8 (2)) rfl rfl ?_
  refine WL.guardT (rfl) ?_
  refine WL.bin rfl rfl rfl (BinR.eql) ?_
  refine WL.pick (b := false) rfl rfl rfl ?_
  refine WL.move (v := .bool (false)) rfl rfl ?_
  refine WL.guardT (rfl) ?_
  refine WL.move (v := .int .u8 (2)) rfl rfl ?_
  refine WL.guardT (rfl) ?_
  refine WL.bin rfl rfl rfl (BinR.eql) ?_
  refine WL.pick (b := false) rfl rfl rfl ?_
  refine WL.move (v := .bool (false)) rfl rfl ?_
  refine WL.guardT (rfl) ?_
  refine WL.move (v := .int .u8 (2)) rfl rfl ?_
  refine WL.guardT (rfl) ?_
  refine WL.bin rfl rfl rfl (BinR.eql) ?_
  refine WL.pick (b := false) rfl rfl rfl ?_
  refine WL.assign (v := .bool (false)) rfl rfl ?_
  refine WL.nil ?_
  refine WC.ret ?_
  exact ⟨_, Res.one (v := .bool (false)) rfl rfl, rfl, rfl⟩

theorem swaps3 (w : World) : CallsR Tryd.prog 19 #[.int .u8 (3)] w (fun v w' => v = .bool (swapsW 3) ∧ Ext w w') := by
  refine callsR_of Tryd.func19 rfl rfl rfl ?_
  refine WC.seq ?_
  refine WC.region ?_
  refine WL.assign (v := .bool (false)) rfl rfl ?_
  refine WL.nil ?_
  refine WC.seq ?_
  refine WC.region ?_
  refine WL.move (v := .int .u8 (3)) rfl rfl ?_
  refine WL.call ca27 (rfl) rfl (of_row3 _) ?_
  rintro _ wo4 ⟨rfl, e4⟩
  have E1 : Ext w wo4 := Mod.trans (Mod.refl _ _) (e4)
  refine WL.field1 rfl Tryd.underlying41 rfl ag4 rfl rfl rfl ?_
  refine WL.assign (v := .bool (true)) rfl rfl ?_
  refine WL.nil ?_
  refine WC.ret ?_
  exact ⟨_, Res.one (v := .bool (true)) rfl rfl, rfl, E1⟩

theorem rswaps3 (w : World) : CallsR Tryd.prog 20 #[.int .u8 (3)] w (fun v w' => v = .bool (swapsW 3) ∧ w = w') := by
  refine callsR_of Tryd.func20 rfl rfl rfl ?_
  refine WC.seq ?_
  refine WC.region ?_
  refine WL.assign (v := .bool (false)) rfl rfl ?_
  refine WL.nil ?_
  refine WC.seq ?_
  refine WC.region ?_
  refine WL.move (v := .int .u8 (3)) rfl rfl ?_
  refine WL.bin rfl rfl rfl (BinR.eql) ?_
  refine WL.move (v := .bool (false)) rfl rfl ?_
  refine WL.guardT (rfl) ?_
  refine WL.move (v := .int .u8 (3)) rfl rfl ?_
  refine WL.guardT (rfl) ?_
  refine WL.bin rfl rfl rfl (BinR.eql) ?_
  refine WL.pick (b := false) rfl rfl rfl ?_
  refine WL.move (v := .bool (true)) rfl rfl ?_
  refine WL.guardF (b' := true) (rfl) rfl rfl ?_
  refine WL.guardF (b' := true) (rfl) rfl rfl ?_
  refine WL.pick (b := true) rfl rfl rfl ?_
  refine WL.move (v := .bool (true)) rfl rfl ?_
  refine WL.guardF (b' := true) (rfl) rfl rfl ?_
  refine WL.guardF (b' := true) (rfl) rfl rfl ?_
  refine WL.pick (b := true) rfl rfl rfl ?_
  refine WL.move (v := .bool (true)) rfl rfl ?_
  refine WL.guardF (b' := true) (rfl) rfl rfl ?_
  refine WL.guardF (b' := true) (rfl) rfl rfl ?_
  refine WL.pick (b := true) rfl rfl rfl ?_
  refine WL.move (v := .bool (true)) rfl rfl ?_
  refine WL.guardF (b' := true) (rfl) rfl rfl ?_
  refine WL.guardF (b' := true) (rfl) rfl rfl ?_
  refine WL.pick (b := true) rfl rfl rfl ?_
  refine WL.assign (v := .bool (true)) rfl rfl ?_
  refine WL.nil ?_
  refine WC.ret ?_
  exact ⟨_, Res.one (v := .bool (true)) rfl rfl, rfl, rfl⟩

theorem swaps4 (w : World) : CallsR Tryd.prog 19 #[.int .u8 (4)] w (fun v w' => v = .bool (swapsW 4) ∧ Ext w w') := by
  refine callsR_of Tryd.func19 rfl rfl rfl ?_
  refine WC.seq ?_
  refine WC.region ?_
  refine WL.assign (v := .bool (false)) rfl rfl ?_
  refine WL.nil ?_
  refine WC.seq ?_
  refine WC.region ?_
  refine WL.move (v := .int .u8 (4)) rfl rfl ?_
  refine WL.call ca27 (rfl) rfl (of_row4 _) ?_
  rintro _ wo4 ⟨rfl, e4⟩
  have E1 : Ext w wo4 := Mod.trans (Mod.refl _ _) (e4)
  refine WL.field1 rfl Tryd.underlying41 rfl ag4 rfl rfl rfl ?_
  refine WL.assign (v := .bool (false)) rfl rfl ?_
  refine WL.nil ?_
  refine WC.ret ?_
  exact ⟨_, Res.one (v := .bool (false)) rfl rfl, rfl, E1⟩

theorem rswaps4 (w : World) : CallsR Tryd.prog 20 #[.int .u8 (4)] w (fun v w' => v = .bool (swapsW 4) ∧ w = w') := by
  refine callsR_of Tryd.func20 rfl rfl rfl ?_
  refine WC.seq ?_
  refine WC.region ?_
  refine WL.assign (v := .bool (false)) rfl rfl ?_
  refine WL.nil ?_
  refine WC.seq ?_
  refine WC.region ?_
  refine WL.move (v := .int .u8 (4)) rfl rfl ?_
  refine WL.bin rfl rfl rfl (BinR.eql) ?_
  refine WL.move (v := .bool (false)) rfl rfl ?_
  refine WL.guardT (rfl) ?_
  refine WL.move (v := .int .u8 (4)) rfl rfl ?_
  refine WL.guardT (rfl) ?_
  refine WL.bin rfl rfl rfl (BinR.eql) ?_
  refine WL.pick (b := false) rfl rfl rfl ?_
  refine WL.move (v := .bool (false)) rfl rfl ?_
  refine WL.guardT (rfl) ?_
  refine WL.move (v := .int .u8 (4)) rfl rfl ?_
  refine WL.guardT (rfl) ?_
  refine WL.bin rfl rfl rfl (BinR.eql) ?_
  refine WL.pick (b := false) rfl rfl rfl ?_
  refine WL.move (v := .bool (false)) rfl rfl ?_
  refine WL.guardT (rfl) ?_
  refine WL.move (v := .int .u8 (4)) rfl rfl ?_
  refine WL.guardT (rfl) ?_
  refine WL.bin rfl rfl rfl (BinR.eql) ?_
  refine WL.pick (b := false) rfl rfl rfl ?_
  refine WL.move (v := .bool (false)) rfl rfl ?_
  refine WL.guardT (rfl) ?_
  refine WL.move (v := .int .u8 (4)) rfl rfl ?_
  refine WL.guardT (rfl) ?_
  refine WL.bin rfl rfl rfl (BinR.eql) ?_
  refine WL.pick (b := false) rfl rfl rfl ?_
  refine WL.move (v := .bool (false)) rfl rfl ?_
  refine WL.guardT (rfl) ?_
  refine WL.move (v := .int .u8 (4)) rfl rfl ?_
  refine WL.guardT (rfl) ?_
  refine WL.bin rfl rfl rfl (BinR.eql) ?_
  refine WL.pick (b := false) rfl rfl rfl ?_
  refine WL.assign (v := .bool (false)) rfl rfl ?_
  refine WL.nil ?_
  refine WC.ret ?_
  exact ⟨_, Res.one (v := .bool (false)) rfl rfl, rfl, rfl⟩

theorem swaps5 (w : World) : CallsR Tryd.prog 19 #[.int .u8 (5)] w (fun v w' => v = .bool (swapsW 5) ∧ Ext w w') := by
  refine callsR_of Tryd.func19 rfl rfl rfl ?_
  refine WC.seq ?_
  refine WC.region ?_
  refine WL.assign (v := .bool (false)) rfl rfl ?_
  refine WL.nil ?_
  refine WC.seq ?_
  refine WC.region ?_
  refine WL.move (v := .int .u8 (5)) rfl rfl ?_
  refine WL.call ca27 (rfl) rfl (of_row5 _) ?_
  rintro _ wo4 ⟨rfl, e4⟩
  have E1 : Ext w wo4 := Mod.trans (Mod.refl _ _) (e4)
  refine WL.field1 rfl Tryd.underlying41 rfl ag4 rfl rfl rfl ?_
  refine WL.assign (v := .bool (false)) rfl rfl ?_
  refine WL.nil ?_
  refine WC.ret ?_
  exact ⟨_, Res.one (v := .bool (false)) rfl rfl, rfl, E1⟩

theorem rswaps5 (w : World) : CallsR Tryd.prog 20 #[.int .u8 (5)] w (fun v w' => v = .bool (swapsW 5) ∧ w = w') := by
  refine callsR_of Tryd.func20 rfl rfl rfl ?_
  refine WC.seq ?_
  refine WC.region ?_
  refine WL.assign (v := .bool (false)) rfl rfl ?_
  refine WL.nil ?_
  refine WC.seq ?_
  refine WC.region ?_
  refine WL.move (v := .int .u8 (5)) rfl rfl ?_
  refine WL.bin rfl rfl rfl (BinR.eql) ?_
  refine WL.move (v := .bool (false)) rfl rfl ?_
  refine WL.guardT (rfl) ?_
  refine WL.move (v := .int .u8 (5)) rfl rfl ?_
  refine WL.guardT (rfl) ?_
  refine WL.bin rfl rfl rfl (BinR.eql) ?_
  refine WL.pick (b := false) rfl rfl rfl ?_
  refine WL.move (v := .bool (false)) rfl rfl ?_
  refine WL.guardT (rfl) ?_
  refine WL.move (v := .int .u8 (5)) rfl rfl ?_
  refine WL.guardT (rfl) ?_
  refine WL.bin rfl rfl rfl (BinR.eql) ?_
  refine WL.pick (b := false) rfl rfl rfl ?_
  refine WL.move (v := .bool (false)) rfl rfl ?_
  refine WL.guardT (rfl) ?_
  refine WL.move (v := .int .u8 (5)) rfl rfl ?_
  refine WL.guardT (rfl) ?_
  refine WL.bin rfl rfl rfl (BinR.eql) ?_
  refine WL.pick (b := false) rfl rfl rfl ?_
  refine WL.move (v := .bool (false)) rfl rfl ?_
  refine WL.guardT (rfl) ?_
  refine WL.move (v := .int .u8 (5)) rfl rfl ?_
  refine WL.guardT (rfl) ?_
  refine WL.bin rfl rfl rfl (BinR.eql) ?_
  refine WL.pick (b := false) rfl rfl rfl ?_
  refine WL.move (v := .bool (false)) rfl rfl ?_
  refine WL.guardT (rfl) ?_
  refine WL.move (v := .int .u8 (5)) rfl rfl ?_
  refine WL.guardT (rfl) ?_
  refine WL.bin rfl rfl rfl (BinR.eql) ?_
  refine WL.pick (b := false) rfl rfl rfl ?_
  refine WL.assign (v := .bool (false)) rfl rfl ?_
  refine WL.nil ?_
  refine WC.ret ?_
  exact ⟨_, Res.one (v := .bool (false)) rfl rfl, rfl, rfl⟩

theorem swaps6 (w : World) : CallsR Tryd.prog 19 #[.int .u8 (6)] w (fun v w' => v = .bool (swapsW 6) ∧ Ext w w') := by
  refine callsR_of Tryd.func19 rfl rfl rfl ?_
  refine WC.seq ?_
  refine WC.region ?_
  refine WL.assign (v := .bool (false)) rfl rfl ?_
  refine WL.nil ?_
  refine WC.seq ?_
  refine WC.region ?_
  refine WL.move (v := .int .u8 (6)) rfl rfl ?_
  refine WL.call ca27 (rfl) rfl (of_row6 _) ?_
  rintro _ wo4 ⟨rfl, e4⟩
  have E1 : Ext w wo4 := Mod.trans (Mod.refl _ _) (e4)
  refine WL.field1 rfl Tryd.underlying41 rfl ag4 rfl rfl rfl ?_
  refine WL.assign (v := .bool (false)) rfl rfl ?_
  refine WL.nil ?_
  refine WC.ret ?_
  exact ⟨_, Res.one (v := .bool (false)) rfl rfl, rfl, E1⟩

theorem rswaps6 (w : World) : CallsR Tryd.prog 20 #[.int .u8 (6)] w (fun v w' => v = .bool (swapsW 6) ∧ w = w') := by
  refine callsR_of Tryd.func20 rfl rfl rfl ?_
  refine WC.seq ?_
  refine WC.region ?_
  refine WL.assign (v := .bool (false)) rfl rfl ?_
  refine WL.nil ?_
  refine WC.seq ?_
  refine WC.region ?_
  refine WL.move (v := .int .u8 (6)) rfl rfl ?_
  refine WL.bin rfl rfl rfl (BinR.eql) ?_
  refine WL.move (v := .bool (false)) rfl rfl ?_
  refine WL.guardT (rfl) ?_
  refine WL.move (v := .int .u8 (6)) rfl rfl ?_
  refine WL.guardT (rfl) ?_
  refine WL.bin rfl rfl rfl (BinR.eql) ?_
  refine WL.pick (b := false) rfl rfl rfl ?_
  refine WL.move (v := .bool (false)) rfl rfl ?_
  refine WL.guardT (rfl) ?_
  refine WL.move (v := .int .u8 (6)) rfl rfl ?_
  refine WL.guardT (rfl) ?_
  refine WL.bin rfl rfl rfl (BinR.eql) ?_
  refine WL.pick (b := false) rfl rfl rfl ?_
  refine WL.move (v := .bool (false)) rfl rfl ?_
  refine WL.guardT (rfl) ?_
  refine WL.move (v := .int .u8 (6)) rfl rfl ?_
  refine WL.guardT (rfl) ?_
  refine WL.bin rfl rfl rfl (BinR.eql) ?_
  refine WL.pick (b := false) rfl rfl rfl ?_
  refine WL.move (v := .bool (false)) rfl rfl ?_
  refine WL.guardT (rfl) ?_
  refine WL.move (v := .int .u8 (6)) rfl rfl ?_
  refine WL.guardT (rfl) ?_
  refine WL.bin rfl rfl rfl (BinR.eql) ?_
  refine WL.pick (b := false) rfl rfl rfl ?_
  refine WL.move (v := .bool (false)) rfl rfl ?_
  refine WL.guardT (rfl) ?_
  refine WL.move (v := .int .u8 (6)) rfl rfl ?_
  refine WL.guardT (rfl) ?_
  refine WL.bin rfl rfl rfl (BinR.eql) ?_
  refine WL.pick (b := false) rfl rfl rfl ?_
  refine WL.assign (v := .bool (false)) rfl rfl ?_
  refine WL.nil ?_
  refine WC.ret ?_
  exact ⟨_, Res.one (v := .bool (false)) rfl rfl, rfl, rfl⟩

theorem swaps7 (w : World) : CallsR Tryd.prog 19 #[.int .u8 (7)] w (fun v w' => v = .bool (swapsW 7) ∧ Ext w w') := by
  refine callsR_of Tryd.func19 rfl rfl rfl ?_
  refine WC.seq ?_
  refine WC.region ?_
  refine WL.assign (v := .bool (false)) rfl rfl ?_
  refine WL.nil ?_
  refine WC.seq ?_
  refine WC.region ?_
  refine WL.move (v := .int .u8 (7)) rfl rfl ?_
  refine WL.call ca27 (rfl) rfl (of_row7 _) ?_
  rintro _ wo4 ⟨rfl, e4⟩
  have E1 : Ext w wo4 := Mod.trans (Mod.refl _ _) (e4)
  refine WL.field1 rfl Tryd.underlying41 rfl ag4 rfl rfl rfl ?_
  refine WL.assign (v := .bool (false)) rfl rfl ?_
  refine WL.nil ?_
  refine WC.ret ?_
  exact ⟨_, Res.one (v := .bool (false)) rfl rfl, rfl, E1⟩

theorem rswaps7 (w : World) : CallsR Tryd.prog 20 #[.int .u8 (7)] w (fun v w' => v = .bool (swapsW 7) ∧ w = w') := by
  refine callsR_of Tryd.func20 rfl rfl rfl ?_
  refine WC.seq ?_
  refine WC.region ?_
  refine WL.assign (v := .bool (false)) rfl rfl ?_
  refine WL.nil ?_
  refine WC.seq ?_
  refine WC.region ?_
  refine WL.move (v := .int .u8 (7)) rfl rfl ?_
  refine WL.bin rfl rfl rfl (BinR.eql) ?_
  refine WL.move (v := .bool (false)) rfl rfl ?_
  refine WL.guardT (rfl) ?_
  refine WL.move (v := .int .u8 (7)) rfl rfl ?_
  refine WL.guardT (rfl) ?_
  refine WL.bin rfl rfl rfl (BinR.eql) ?_
  refine WL.pick (b := false) rfl rfl rfl ?_
  refine WL.move (v := .bool (false)) rfl rfl ?_
  refine WL.guardT (rfl) ?_
  refine WL.move (v := .int .u8 (7)) rfl rfl ?_
  refine WL.guardT (rfl) ?_
  refine WL.bin rfl rfl rfl (BinR.eql) ?_
  refine WL.pick (b := false) rfl rfl rfl ?_
  refine WL.move (v := .bool (false)) rfl rfl ?_
  refine WL.guardT (rfl) ?_
  refine WL.move (v := .int .u8 (7)) rfl rfl ?_
  refine WL.guardT (rfl) ?_
  refine WL.bin rfl rfl rfl (BinR.eql) ?_
  refine WL.pick (b := false) rfl rfl rfl ?_
  refine WL.move (v := .bool (false)) rfl rfl ?_
  refine WL.guardT (rfl) ?_
  refine WL.move (v := .int .u8 (7)) rfl rfl ?_
  refine WL.guardT (rfl) ?_
  refine WL.bin rfl rfl rfl (BinR.eql) ?_
  refine WL.pick (b := false) rfl rfl rfl ?_
  refine WL.move (v := .bool (false)) rfl rfl ?_
  refine WL.guardT (rfl) ?_
  refine WL.move (v := .int .u8 (7)) rfl rfl ?_
  refine WL.guardT (rfl) ?_
  refine WL.bin rfl rfl rfl (BinR.eql) ?_
  refine WL.pick (b := false) rfl rfl rfl ?_
  refine WL.assign (v := .bool (false)) rfl rfl ?_
  refine WL.nil ?_
  refine WC.ret ?_
  exact ⟨_, Res.one (v := .bool (false)) rfl rfl, rfl, rfl⟩

theorem swaps8 (w : World) : CallsR Tryd.prog 19 #[.int .u8 (8)] w (fun v w' => v = .bool (swapsW 8) ∧ Ext w w') := by
  refine callsR_of Tryd.func19 rfl rfl rfl ?_
  refine WC.seq ?_
  refine WC.region ?_
  refine WL.assign (v := .bool (false)) rfl rfl ?_
  refine WL.nil ?_
  refine WC.seq ?_
  refine WC.region ?_
  refine WL.move (v := .int .u8 (8)) rfl rfl ?_
  refine WL.call ca27 (rfl) rfl (of_row8 _) ?_
  rintro _ wo4 ⟨rfl, e4⟩
  have E1 : Ext w wo4 := Mod.trans (Mod.refl _ _) (e4)
  refine WL.field1 rfl Tryd.underlying41 rfl ag4 rfl rfl rfl ?_
  refine WL.assign (v := .bool (true)) rfl rfl ?_
  refine WL.nil ?_
  refine WC.ret ?_
  exact ⟨_, Res.one (v := .bool (true)) rfl rfl, rfl, E1⟩

theorem rswaps8 (w : World) : CallsR Tryd.prog 20 #[.int .u8 (8)] w (fun v w' => v = .bool (swapsW 8) ∧ w = w') := by
  refine callsR_of Tryd.func20 rfl rfl rfl ?_
  refine WC.seq ?_
  refine WC.region ?_
  refine WL.assign (v := .bool (false)) rfl rfl ?_
  refine WL.nil ?_
  refine WC.seq ?_
  refine WC.region ?_
  refine WL.move (v := .int .u8 (8)) rfl rfl ?_
  refine WL.bin rfl rfl rfl (BinR.eql) ?_
  refine WL.move (v := .bool (false)) rfl rfl ?_
  refine WL.guardT (rfl) ?_
  refine WL.move (v := .int .u8 (8)) rfl rfl ?_
  refine WL.guardT (rfl) ?_
  refine WL.bin rfl rfl rfl (BinR.eql) ?_
  refine WL.pick (b := false) rfl rfl rfl ?_
  refine WL.move (v := .bool (false)) rfl rfl ?_
  refine WL.guardT (rfl) ?_
  refine WL.move (v := .int .u8 (8)) rfl rfl ?_
  refine WL.guardT (rfl) ?_
  refine WL.bin rfl rfl rfl (BinR.eql) ?_
  refine WL.pick (b := false) rfl rfl rfl ?_
  refine WL.move (v := .bool (true)) rfl rfl ?_
  refine WL.guardF (b' := true) (rfl) rfl rfl ?_
  refine WL.guardF (b' := true) (rfl) rfl rfl ?_
  refine WL.pick (b := true) rfl rfl rfl ?_
  refine WL.move (v := .bool (true)) rfl rfl ?_
  refine WL.guardF (b' := true) (rfl) rfl rfl ?_
  refine WL.guardF (b' := true) (rfl) rfl rfl ?_
  refine WL.pick (b := true) rfl rfl rfl ?_
  refine WL.move (v := .bool (true)) rfl rfl ?_
  refine WL.guardF (b' := true) (rfl) rfl rfl ?_
  refine WL.guardF (b' := true) (rfl) rfl rfl ?_
  refine WL.pick (b := true) rfl rfl rfl ?_
  refine WL.assign (v := .bool (true)) rfl rfl ?_
  refine WL.nil ?_
  refine WC.ret ?_
  exact ⟨_, Res.one (v := .bool (true)) rfl rfl, rfl, rfl⟩

theorem swaps9 (w : World) : CallsR Tryd.prog 19 #[.int .u8 (9)] w (fun v w' => v = .bool (swapsW 9) ∧ Ext w w') := by
  refine callsR_of Tryd.func19 rfl rfl rfl ?_
  refine WC.seq ?_
  refine WC.region ?_
  refine WL.assign (v := .bool (false)) rfl rfl ?_
  refine WL.nil ?_
  refine WC.seq ?_
  refine WC.region ?_
  refine WL.move (v := .int .u8 (9)) rfl rfl ?_
  refine WL.call ca27 (rfl) rfl (of_row9 _) ?_
  rintro _ wo4 ⟨rfl, e4⟩
  have E1 : Ext w wo4 := Mod.trans (Mod.refl _ _) (e4)
  refine WL.field1 rfl Tryd.underlying41 rfl ag4 rfl rfl rfl ?_
  refine WL.assign (v := .bool (true)) rfl rfl ?_
  refine WL.nil ?_
  refine WC.ret ?_
  exact ⟨_, Res.one (v := .bool (true)) rfl rfl, rfl, E1⟩

theorem rswaps9 (w : World) : CallsR Tryd.prog 20 #[.int .u8 (9)] w (fun v w' => v = .bool (swapsW 9) ∧ w = w') := by
  refine callsR_of Tryd.func20 rfl rfl rfl ?_
  refine WC.seq ?_
  refine WC.region ?_
  refine WL.assign (v := .bool (false)) rfl rfl ?_
  refine WL.nil ?_
  refine WC.seq ?_
  refine WC.region ?_
  refine WL.move (v := .int .u8 (9)) rfl rfl ?_
  refine WL.bin rfl rfl rfl (BinR.eql) ?_
  refine WL.move (v := .bool (false)) rfl rfl ?_
  refine WL.guardT (rfl) ?_
  refine WL.move (v := .int .u8 (9)) rfl rfl ?_
  refine WL.guardT (rfl) ?_
  refine WL.bin rfl rfl rfl (BinR.eql) ?_
  refine WL.pick (b := false) rfl rfl rfl ?_
  refine WL.move (v := .bool (false)) rfl rfl ?_
  refine WL.guardT (rfl) ?_
  refine WL.move (v := .int .u8 (9)) rfl rfl ?_
  refine WL.guardT (rfl) ?_
  refine WL.bin rfl rfl rfl (BinR.eql) ?_
  refine WL.pick (b := false) rfl rfl rfl ?_
  refine WL.move (v := .bool (false)) rfl rfl ?_
  refine WL.guardT (rfl) ?_
  refine WL.move (v := .int .u8 (9)) rfl rfl ?_
  refine WL.guardT (rfl) ?_
  refine WL.bin rfl rfl rfl (BinR.eql) ?_
  refine WL.pick (b := false) rfl rfl rfl ?_
  refine WL.move (v := .bool (true)) rfl rfl ?_
  refine WL.guardF (b' := true) (rfl) rfl rfl ?_
  refine WL.guardF (b' := true) (rfl) rfl rfl ?_
  refine WL.pick (b := true) rfl rfl rfl ?_
  refine WL.move (v := .bool (true)) rfl rfl ?_
  refine WL.guardF (b' := true) (rfl) rfl rfl ?_
  refine WL.guardF (b' := true) (rfl) rfl rfl ?_
  refine WL.pick (b := true) rfl rfl rfl ?_
  refine WL.assign (v := .bool (true)) rfl rfl ?_
  refine WL.nil ?_
  refine WC.ret ?_
  exact ⟨_, Res.one (v := .bool (true)) rfl rfl, rfl, rfl⟩

theorem swaps10 (w : World) : CallsR Tryd.prog 19 #[.int .u8 (10)] w (fun v w' => v = .bool (swapsW 10) ∧ Ext w w') := by
  refine callsR_of Tryd.func19 rfl rfl rfl ?_
  refine WC.seq ?_
  refine WC.region ?_
  refine WL.assign (v := .bool (false)) rfl rfl ?_
  refine WL.nil ?_
  refine WC.seq ?_
  refine WC.region ?_
  refine WL.move (v := .int .u8 (10)) rfl rfl ?_
  refine WL.call ca27 (rfl) rfl (of_row10 _) ?_
  rintro _ wo4 ⟨rfl, e4⟩
  have E1 : Ext w wo4 := Mod.trans (Mod.refl _ _) (e4)
  refine WL.field1 rfl Tryd.underlying41 rfl ag4 rfl rfl rfl ?_
  refine WL.assign (v := .bool (true)) rfl rfl ?_
  refine WL.nil ?_
  refine WC.ret ?_
  exact ⟨_, Res.one (v := .bool (true)) rfl rfl, rfl, E1⟩

theorem rswaps10 (w : World) : CallsR Tryd.prog 20 #[.int .u8 (10)] w (fun v w' => v = .bool (swapsW 10) ∧ w = w') := by
  refine callsR_of Tryd.func20 rfl rfl rfl ?_
  refine WC.seq ?_
  refine WC.region ?_
  refine WL.assign (v := .bool (false)) rfl rfl ?_
  refine WL.nil ?_
  refine WC.seq ?_
  refine WC.region ?_
  refine WL.move (v := .int .u8 (10)) rfl rfl ?_
  refine WL.bin rfl rfl rfl (BinR.eql) ?_
  refine WL.move (v := .bool (false)) rfl rfl ?_
  refine WL.guardT (rfl) ?_
  refine WL.move (v := .int .u8 (10)) rfl rfl ?_
  refine WL.guardT (rfl) ?_
  refine WL.bin rfl rfl rfl (BinR.eql) ?_
  refine WL.pick (b := false) rfl rfl rfl ?_
  refine WL.move (v := .bool (false)) rfl rfl ?_
  refine WL.guardT (rfl) ?_
  refine WL.move (v := .int .u8 (10)) rfl rfl ?_
  refine WL.guardT (rfl) ?_
  refine WL.bin rfl rfl rfl (BinR.eql) ?_
  refine WL.pick (b := false) rfl rfl rfl ?_
  refine WL.move (v := .bool (false)) rfl rfl ?_
  refine WL.guardT (rfl) ?_
  refine WL.move (v := .int .u8 (10)) rfl rfl ?_
  refine WL.guardT (rfl) ?_
  refine WL.bin rfl rfl rfl (BinR.eql) ?_
  refine WL.pick (b := false) rfl rfl rfl ?_
  refine WL.move (v := .bool (false)) rfl rfl ?_
  refine WL.guardT (rfl) ?_
  refine WL.move (v := .int .u8 (10)) rfl rfl ?_
  refine WL.guardT (rfl) ?_
  refine WL.bin rfl rfl rfl (BinR.eql) ?_
  refine WL.pick (b := false) rfl rfl rfl ?_
  refine WL.move (v := .bool (true)) rfl rfl ?_
  refine WL.guardF (b' := true) (rfl) rfl rfl ?_
  refine WL.guardF (b' := true) (rfl) rfl rfl ?_
  refine WL.pick (b := true) rfl rfl rfl ?_
  refine WL.assign (v := .bool (true)) rfl rfl ?_
  refine WL.nil ?_
  refine WC.ret ?_
  exact ⟨_, Res.one (v := .bool (true)) rfl rfl, rfl, rfl⟩

theorem swaps11 (w : World) : CallsR Tryd.prog 19 #[.int .u8 (11)] w (fun v w' => v = .bool (swapsW 11) ∧ Ext w w') := by
  refine callsR_of Tryd.func19 rfl rfl rfl ?_
  refine WC.seq ?_
  refine WC.region ?_
  refine WL.assign (v := .bool (false)) rfl rfl ?_
  refine WL.nil ?_
  refine WC.seq ?_
  refine WC.region ?_
  refine WL.move (v := .int .u8 (11)) rfl rfl ?_
  refine WL.call ca27 (rfl) rfl (of_row11 _) ?_
  rintro _ wo4 ⟨rfl, e4⟩
  have E1 : Ext w wo4 := Mod.trans (Mod.refl _ _) (e4)
  refine WL.field1 rfl Tryd.underlying41 rfl ag4 rfl rfl rfl ?_
  refine WL.assign (v := .bool (false)) rfl rfl ?_
  refine WL.nil ?_
  refine WC.ret ?_
  exact ⟨_, Res.one (v := .bool (false)) rfl rfl, rfl, E1⟩

theorem rswaps11 (w : World) : CallsR Tryd.prog 20 #[.int .u8 (11)] w (fun v w' => v = .bool (swapsW 11) ∧ w = w') := by
  refine callsR_of Tryd.func20 rfl rfl rfl ?_
  refine WC.seq ?_
  refine WC.region ?_
  refine WL.assign (v := .bool (false)) rfl rfl ?_
  refine WL.nil ?_
  refine WC.seq ?_
  refine WC.region ?_
  refine WL.move (v := .int .u8 (11)) rfl rfl ?_
  refine WL.bin rfl rfl rfl (BinR.eql) ?_
  refine WL.move (v := .bool (false)) rfl rfl ?_
  refine WL.guardT (rfl) ?_
  refine WL.move (v := .int .u8 (11)) rfl rfl ?_
  refine WL.guardT (rfl) ?_
  refine WL.bin rfl rfl rfl (BinR.eql) ?_
  refine WL.pick (b := false) rfl rfl rfl ?_
  refine WL.move (v := .bool (false)) rfl rfl ?_
  refine WL.guardT (rfl) ?_
  refine WL.move (v := .int .u8 (11)) rfl rfl ?_
  refine WL.guardT (rfl) ?_
  refine WL.bin rfl rfl rfl (BinR.eql) ?_
  refine WL.pick (b := false) rfl rfl rfl ?_
  refine WL.move (v := .bool (false)) rfl rfl ?_
  refine WL.guardT (rfl) ?_
  refine WL.move (v := .int .u8 (11)) rfl rfl ?_
  refine WL.guardT (rfl) ?_
  refine WL.bin rfl rfl rfl (BinR.eql) ?_
  refine WL.pick (b := false) rfl rfl rfl ?_
  refine WL.move (v := .bool (false)) rfl rfl ?_
  refine WL.guardT (rfl) ?_
  refine WL.move (v := .int .u8 (11)) rfl rfl ?_
  refine WL.guardT (rfl) ?_
  refine WL.bin rfl rfl rfl (BinR.eql) ?_
  refine WL.pick (b := false) rfl rfl rfl ?_
  refine WL.move (v := .bool (false)) rfl rfl ?_
  refine WL.guardT (rfl) ?_
  refine WL.move (v := .int .u8 (11)) rfl rfl ?_
  refine WL.guardT (rfl) ?_
  refine WL.bin rfl rfl rfl (BinR.eql) ?_
  refine WL.pick (b := false) rfl rfl rfl ?_
  refine WL.assign (v := .bool (false)) rfl rfl ?_
  refine WL.nil ?_
  refine WC.ret ?_
  exact ⟨_, Res.one (v := .bool (false)) rfl rfl, rfl, rfl⟩

theorem swaps12 (w : World) : CallsR Tryd.prog 19 #[.int .u8 (12)] w (fun v w' => v = .bool (swapsW 12) ∧ Ext w w') := by
  refine callsR_of Tryd.func19 rfl rfl rfl ?_
  refine WC.seq ?_
  refine WC.region ?_
  refine WL.assign (v := .bool (false)) rfl rfl ?_
  refine WL.nil ?_
  refine WC.seq ?_
  refine WC.region ?_
  refine WL.move (v := .int .u8 (12)) rfl rfl ?_
  refine WL.call ca27 (rfl) rfl (of_row12 _) ?_
  rintro _ wo4 ⟨rfl, e4⟩
  have E1 : Ext w wo4 := Mod.trans (Mod.refl _ _) (e4)
  refine WL.field1 rfl Tryd.underlying41 rfl ag4 rfl rfl rfl ?_
  refine WL.assign (v := .bool (false)) rfl rfl ?_
  refine WL.nil ?_
  refine WC.ret ?_
  exact ⟨_, Res.one (v := .bool (false)) rfl rfl, rfl, E1⟩

theorem rswaps12 (w : World) : CallsR Tryd.prog 20 #[.int .u8 (12)] w (fun v w' => v = .bool (swapsW 12) ∧ w = w') := by
  refine callsR_of Tryd.func20 rfl rfl rfl ?_
  refine WC.seq ?_
  refine WC.region ?_
  refine WL.assign (v := .bool (false)) rfl rfl ?_
  refine WL.nil ?_
  refine WC.seq ?_
  refine WC.region ?_
  refine WL.move (v := .int .u8 (12)) rfl rfl ?_
  refine WL.bin rfl rfl rfl (BinR.eql) ?_
  refine WL.move (v := .bool (false)) rfl rfl ?_
  refine WL.guardT (rfl) ?_
  refine WL.move (v := .int .u8 (12)) rfl rfl ?_
  refine WL.guardT (rfl) ?_
  refine WL.bin rfl rfl rfl (BinR.eql) ?_
  refine WL.pick (b := false) rfl rfl rfl ?_
  refine WL.move (v := .bool (false)) rfl rfl ?_
  refine WL.guardT (rfl) ?_
  refine WL.move (v := .int .u8 (12)) rfl rfl ?_
  refine WL.guardT (rfl) ?_
  refine WL.bin rfl rfl rfl (BinR.eql) ?_
  refine WL.pick (b := false) rfl rfl rfl ?_
  refine WL.move (v := .bool (false)) rfl rfl ?_
  refine WL.guardT (rfl) ?_
  refine WL.move (v := .int .u8 (12)) rfl rfl ?_
  refine WL.guardT (rfl) ?_
  refine WL.bin rfl rfl rfl (BinR.eql) ?_
  refine WL.pick (b := false) rfl rfl rfl ?_
  refine WL.move (v := .bool (false)) rfl rfl ?_
  refine WL.guardT (rfl) ?_
  refine WL.move (v := .int .u8 (12)) rfl rfl ?_
  refine WL.guardT (rfl) ?_
  refine WL.bin rfl rfl rfl (BinR.eql) ?_
  refine WL.pick (b := false) rfl rfl rfl ?_
  refine WL.move (v := .bool (false)) rfl rfl ?_
  refine WL.guardT (rfl) ?_
  refine WL.move (v := .int .u8 (12)) rfl rfl ?_
  refine WL.guardT (rfl) ?_
  refine WL.bin rfl rfl rfl (BinR.eql) ?_
  refine WL.pick (b := false) rfl rfl rfl ?_
  refine WL.assign (v := .bool (false)) rfl rfl ?_
  refine WL.nil ?_
  refine WC.ret ?_
  exact ⟨_, Res.one (v := .bool (false)) rfl rfl, rfl, rfl⟩

theorem swaps13 (w : World) : CallsR Tryd.prog 19 #[.int .u8 (13)] w (fun v w' => v = .bool (swapsW 13) ∧ Ext w w') := by
  refine callsR_of Tryd.func19 rfl rfl rfl ?_
  refine WC.seq ?_
  refine WC.region ?_
  refine WL.assign (v := .bool (false)) rfl rfl ?_
  refine WL.nil ?_
  refine WC.seq ?_
  refine WC.region ?_
  refine WL.move (v := .int .u8 (13)) rfl rfl ?_
  refine WL.call ca27 (rfl) rfl (of_row13 _) ?_
  rintro _ wo4 ⟨rfl, e4⟩
  have E1 : Ext w wo4 := Mod.trans (Mod.refl _ _) (e4)
  refine WL.field1 rfl Tryd.underlying41 rfl ag4 rfl rfl rfl ?_
  refine WL.assign (v := .bool (false)) rfl rfl ?_
  refine WL.nil ?_
  refine WC.ret ?_
  exact ⟨_, Res.one (v := .bool (false)) rfl rfl, rfl, E1⟩

theorem rswaps13 (w : World) : CallsR Tryd.prog 20 #[.int .u8 (13)] w (fun v w' => v = .bool (swapsW 13) ∧ w = w') := by
  refine callsR_of Tryd.func20 rfl rfl rfl ?_
  refine WC.seq ?_
  refine WC.region ?_
  refine WL.assign (v := .bool (false)) rfl rfl ?_
  refine WL.nil ?_
  refine WC.seq ?_
  refine WC.region ?_
  refine WL.move (v := .int .u8 (13)) rfl rfl ?_
  refine WL.bin rfl rfl rfl (BinR.eql) ?_
  refine WL.move (v := .bool (false)) rfl rfl ?_
  refine WL.guardT (rfl) ?_
  refine WL.move (v := .int .u8 (13)) rfl rfl ?_
  refine WL.guardT (rfl) ?_
  refine WL.bin rfl rfl rfl (BinR.eql) ?_
  refine WL.pick (b := false) rfl rfl rfl ?_
  refine WL.move (v := .bool (false)) rfl rfl ?_
  refine WL.guardT (rfl) ?_
  refine WL.move (v := .int .u8 (13)) rfl rfl ?_
  refine WL.guardT (rfl) ?_
  refine WL.bin rfl rfl rfl (BinR.eql) ?_
  refine WL.pick (b := false) rfl rfl rfl ?_
  refine WL.move (v := .bool (false)) rfl rfl ?_
  refine WL.guardT (rfl) ?_
  refine WL.move (v := .int .u8 (13)) rfl rfl ?_
  refine WL.guardT (rfl) ?_
  refine WL.bin rfl rfl rfl (BinR.eql) ?_
  refine WL.pick (b := false) rfl rfl rfl ?_
  refine WL.move (v := .bool (false)) rfl rfl ?_
  refine WL.guardT (rfl) ?_
  refine WL.move (v := .int .u8 (13)) rfl rfl ?_
  refine WL.guardT (rfl) ?_
  refine WL.bin rfl rfl rfl (BinR.eql) ?_
  refine WL.pick (b := false) rfl rfl rfl ?_
  refine WL.move (v := .bool (false)) rfl rfl ?_
  refine WL.guardT (rfl) ?_
  refine WL.move (v := .int .u8 (13)) rfl rfl ?_
  refine WL.guardT (rfl) ?_
  refine WL.bin rfl rfl rfl (BinR.eql) ?_
  refine WL.pick (b := false) rfl rfl rfl ?_
  refine WL.assign (v := .bool (false)) rfl rfl ?_
  refine WL.nil ?_
  refine WC.ret ?_
  exact ⟨_, Res.one (v := .bool (false)) rfl rfl, rfl, rfl⟩

theorem swaps14 (w : World) : CallsR Tryd.prog 19 #[.int .u8 (14)] w (fun v w' => v = .bool (swapsW 14) ∧ Ext w w') := by
  refine callsR_of Tryd.func19 rfl rfl rfl ?_
  refine WC.seq ?_
  refine WC.region ?_
  refine WL.assign (v := .bool (false)) rfl rfl ?_
  refine WL.nil ?_
  refine WC.seq ?_
  refine WC.region ?_
  refine WL.move (v := .int .u8 (14)) rfl rfl ?_
  refine WL.call ca27 (rfl) rfl (of_row14 _) ?_
  rintro _ wo4 ⟨rfl, e4⟩
  have E1 : Ext w wo4 := Mod.trans (Mod.refl _ _) (e4)
  refine WL.field1 rfl Tryd.underlying41 rfl ag4 rfl rfl rfl ?_
  refine WL.assign (v := .bool (false)) rfl rfl ?_
  refine WL.nil ?_
  refine WC.ret ?_
  exact ⟨_, Res.one (v := .bool (false)) rfl rfl, rfl, E1⟩

theorem rswaps14 (w : World) : CallsR Tryd.prog 20 #[.int .u8 (14)] w (fun v w' => v = .bool (swapsW 14) ∧ w = w') := by
  refine callsR_of Tryd.func20 rfl rfl rfl ?_
  refine WC.seq ?_
  refine WC.region ?_
  refine WL.assign (v := .bool (false)) rfl rfl ?_
  refine WL.nil ?_
  refine WC.seq ?_
  refine WC.region ?_
  refine WL.move (v := .int .u8 (14)) rfl rfl ?_
  refine WL.bin rfl rfl rfl (BinR.eql) ?_
  refine WL.move (v := .bool (false)) rfl rfl ?_
  refine WL.guardT (rfl) ?_
  refine WL.move (v := .int .u8 (14)) rfl rfl ?_
  refine WL.guardT (rfl) ?_
  refine WL.bin rfl rfl rfl (BinR.eql) ?_
  refine WL.pick (b := false) rfl rfl rfl ?_
  refine WL.move (v := .bool (false)) rfl rfl ?_
  refine WL.guardT (rfl) ?_
  refine WL.move (v := .int .u8 (14)) rfl rfl ?_
  refine WL.guardT (rfl) ?_
  refine WL.bin rfl rfl rfl (BinR.eql) ?_
  refine WL.pick (b := false) rfl rfl rfl ?_
  refine WL.move (v := .bool (false)) rfl rfl ?_
  refine WL.guardT (rfl) ?_
  refine WL.move (v := .int .u8 (14)) rfl rfl ?_
  refine WL.guardT (rfl) ?_
  refine WL.bin rfl rfl rfl (BinR.eql) ?_
  refine WL.pick (b := false) rfl rfl rfl ?_
  refine WL.move (v := .bool (false)) rfl rfl ?_
  refine WL.guardT (rfl) ?_
  refine WL.move (v := .int .u8 (14)) rfl rfl ?_
  refine WL.guardT (rfl) ?_
  refine WL.bin rfl rfl rfl (BinR.eql) ?_
  refine WL.pick (b := false) rfl rfl rfl ?_
  refine WL.move (v := .bool (false)) rfl rfl ?_
  refine WL.guardT (rfl) ?_
  refine WL.move (v := .int .u8 (14)) rfl rfl ?_
  refine WL.guardT (rfl) ?_
  refine WL.bin rfl rfl rfl (BinR.eql) ?_
  refine WL.pick (b := false) rfl rfl rfl ?_
  refine WL.assign (v := .bool (false)) rfl rfl ?_
  refine WL.nil ?_
  refine WC.ret ?_
  exact ⟨_, Res.one (v := .bool (false)) rfl rfl, rfl, rfl⟩

theorem swaps15 (w : World) : CallsR Tryd.prog 19 #[.int .u8 (15)] w (fun v w' => v = .bool (swapsW 15) ∧ Ext w w') := by
  refine callsR_of Tryd.func19 rfl rfl rfl ?_
  refine WC.seq ?_
  refine WC.region ?_
  refine WL.assign (v := .bool (false)) rfl rfl ?_
  refine WL.nil ?_
  refine WC.seq ?_
  refine WC.region ?_
  refine WL.move (v := .int .u8 (15)) rfl rfl ?_
  refine WL.call ca27 (rfl) rfl (of_row15 _) ?_
  rintro _ wo4 ⟨rfl, e4⟩
  have E1 : Ext w wo4 := Mod.trans (Mod.refl _ _) (e4)
  refine WL.field1 rfl Tryd.underlying41 rfl ag4 rfl rfl rfl ?_
  refine WL.assign (v := .bool (false)) rfl rfl ?_
  refine WL.nil ?_
  refine WC.ret ?_
  exact ⟨_, Res.one (v := .bool (false)) rfl rfl, rfl, E1⟩

theorem rswaps15 (w : World) : CallsR Tryd.prog 20 #[.int .u8 (15)] w (fun v w' => v = .bool (swapsW 15) ∧ w = w') := by
  refine callsR_of Tryd.func20 rfl rfl rfl ?_
  refine WC.seq ?_
  refine WC.region ?_
  refine WL.assign (v := .bool (false)) rfl rfl ?_
  refine WL.nil ?_
  refine WC.seq ?_
  refine WC.region ?_
  refine WL.move (v := .int .u8 (15)) rfl rfl ?_
  refine WL.bin rfl rfl rfl (BinR.eql) ?_
  refine WL.move (v := .bool (false)) rfl rfl ?_
  refine WL.guardT (rfl) ?_
  refine WL.move (v := .int .u8 (15)) rfl rfl ?_
  refine WL.guardT (rfl) ?_
  refine WL.bin rfl rfl rfl (BinR.eql) ?_
  refine WL.pick (b := false) rfl rfl rfl ?_
  refine WL.move (v := .bool (false)) rfl rfl ?_
  refine WL.guardT (rfl) ?_
  refine WL.move (v := .int .u8 (15)) rfl rfl ?_
  refine WL.guardT (rfl) ?_
  refine WL.bin rfl rfl rfl (BinR.eql) ?_
  refine WL.pick (b := false) rfl rfl rfl ?_
  refine WL.move (v := .bool (false)) rfl rfl ?_
  refine WL.guardT (rfl) ?_
  refine WL.move (v := .int .u8 (15)) rfl rfl ?_
  refine WL.guardT (rfl) ?_
  refine WL.bin rfl rfl rfl (BinR.eql) ?_
  refine WL.pick (b := false) rfl rfl rfl ?_
  refine WL.move (v := .bool (false)) rfl rfl ?_
  refine WL.guardT (rfl) ?_
  refine WL.move (v := .int .u8 (15)) rfl rfl ?_
  refine WL.guardT (rfl) ?_
  refine WL.bin rfl rfl rfl (BinR.eql) ?_
  refine WL.pick (b := false) rfl rfl rfl ?_
  refine WL.move (v := .bool (false)) rfl rfl ?_
  refine WL.guardT (rfl) ?_
  refine WL.move (v := .int .u8 (15)) rfl rfl ?_
  refine WL.guardT (rfl) ?_
  refine WL.bin rfl rfl rfl (BinR.eql) ?_
  refine WL.pick (b := false) rfl rfl rfl ?_
  refine WL.assign (v := .bool (false)) rfl rfl ?_
  refine WL.nil ?_
  refine WC.ret ?_
  exact ⟨_, Res.one (v := .bool (false)) rfl rfl, rfl, rfl⟩

theorem swaps16 (w : World) : CallsR Tryd.prog 19 #[.int .u8 (16)] w (fun v w' => v = .bool (swapsW 16) ∧ Ext w w') := by
  refine callsR_of Tryd.func19 rfl rfl rfl ?_
  refine WC.seq ?_
  refine WC.region ?_
  refine WL.assign (v := .bool (false)) rfl rfl ?_
  refine WL.nil ?_
  refine WC.seq ?_
  refine WC.region ?_
  refine WL.move (v := .int .u8 (16)) rfl rfl ?_
  refine WL.call ca27 (rfl) rfl (of_row16 _) ?_
  rintro _ wo4 ⟨rfl, e4⟩
  have E1 : Ext w wo4 := Mod.trans (Mod.refl _ _) (e4)
  refine WL.field1 rfl Tryd.underlying41 rfl ag4 rfl rfl rfl ?_
  refine WL.assign (v := .bool (true)) rfl rfl ?_
  refine WL.nil ?_
  refine WC.ret ?_
  exact ⟨_, Res.one (v := .bool (true)) rfl rfl, rfl, E1⟩

theorem rswaps16 (w : World) : CallsR Tryd.prog 20 #[.int .u8 (16)] w (fun v w' => v = .bool (swapsW 16) ∧ w = w') := by
  refine callsR_of Tryd.func20 rfl rfl rfl ?_
  refine WC.seq ?_
  refine WC.region ?_
  refine WL.assign (v := .bool (false)) rfl rfl ?_
  refine WL.nil ?_
  refine WC.seq ?_
  refine WC.region ?_
  refine WL.move (v := .int .u8 (16)) rfl rfl ?_
  refine WL.bin rfl rfl rfl (BinR.eql) ?_
  refine WL.move (v := .bool (false)) rfl rfl ?_
  refine WL.guardT (rfl) ?_
  refine WL.move (v := .int .u8 (16)) rfl rfl ?_
  refine WL.guardT (rfl) ?_
  refine WL.bin rfl rfl rfl (BinR.eql) ?_
  refine WL.pick (b := false) rfl rfl rfl ?_
  refine WL.move (v := .bool (false)) rfl rfl ?_
  refine WL.guardT (rfl) ?_
  refine WL.move (v := .int .u8 (16)) rfl rfl ?_
  refine WL.guardT (rfl) ?_
  refine WL.bin rfl rfl rfl (BinR.eql) ?_
  refine WL.pick (b := false) rfl rfl rfl ?_
  refine WL.move (v := .bool (false)) rfl rfl ?_
  refine WL.guardT (rfl) ?_
  refine WL.move (v := .int .u8 (16)) rfl rfl ?_
  refine WL.guardT (rfl) ?_
  refine WL.bin rfl rfl rfl (BinR.eql) ?_
  refine WL.pick (b := false) rfl rfl rfl ?_
  refine WL.move (v := .bool (false)) rfl rfl ?_
  refine WL.guardT (rfl) ?_
  refine WL.move (v := .int .u8 (16)) rfl rfl ?_
  refine WL.guardT (rfl) ?_
  refine WL.bin rfl rfl rfl (BinR.eql) ?_
  refine WL.pick (b := false) rfl rfl rfl ?_
  refine WL.move (v := .bool (false)) rfl rfl ?_
  refine WL.guardT (rfl) ?_
  refine WL.move (v := .int .u8 (16)) rfl rfl ?_
  refine WL.guardT (rfl) ?_
  refine WL.bin rfl rfl rfl (BinR.eql) ?_
  refine WL.pick (b := false) rfl rfl rfl ?_
  refine WL.assign (v := .bool (true)) rfl rfl ?_
  refine WL.nil ?_
  refine WC.ret ?_
  exact ⟨_, Res.one (v := .bool (true)) rfl rfl, rfl, rfl⟩

theorem swaps_none (n : Nat) (w : World) (hn : n = 0 ∨ 16 < n) (hn2 : n < 256) : CallsR Tryd.prog 19 #[.int .u8 (((n : Nat) : Int))] w (fun v w' => v = .bool (swapsW n) ∧ Ext w w') := by
  refine callsR_of Tryd.func19 rfl rfl rfl ?_
  refine WC.seq ?_
  refine WC.region ?_
  refine WL.assign (v := .bool (false)) rfl rfl ?_
  refine WL.nil ?_
  refine WC.seq ?_
  refine WC.region ?_
  refine WL.move (v := .int .u8 (((n : Nat) : Int))) rfl rfl ?_
  refine WL.call ca27 (rfl) rfl (of_none n _ hn hn2) ?_
  rintro _ wo4 ⟨rfl, e4⟩
  have E1 : Ext w wo4 := Mod.trans (Mod.refl _ _) (e4)
  refine WL.field1 rfl Tryd.underlying41 rfl ag4 rfl rfl rfl ?_
  refine WL.assign (v := .bool (false)) rfl rfl ?_
  refine WL.nil ?_
  refine WC.ret ?_
  exact ⟨_, Res.one (v := .bool (false)) rfl rfl, by first | (rw [swapsW_none n hn]; rfl) | rw [swapsW_none n hn], E1⟩

theorem rswaps_none (n : Nat) (w : World) (hn : n = 0 ∨ 16 < n) (hn2 : n < 256) : CallsR Tryd.prog 20 #[.int .u8 (((n : Nat) : Int))] w (fun v w' => v = .bool (swapsW n) ∧ w = w') := by
  refine callsR_of Tryd.func20 rfl rfl rfl ?_
  refine WC.seq ?_
  refine WC.region ?_
  refine WL.assign (v := .bool (false)) rfl rfl ?_
  refine WL.nil ?_
  refine WC.seq ?_
  refine WC.region ?_
  refine WL.move (v := .int .u8 (((n : Nat) : Int))) rfl rfl ?_
  refine WL.bin (v := .bool (false)) rfl rfl rfl (BinR.toB (BinR.eql) (beq_eq_false_iff_ne.2 (by omega))) ?_
  refine WL.move (v := .bool (false)) rfl rfl ?_
  refine WL.guardT (rfl) ?_
  refine WL.move (v := .int .u8 (((n : Nat) : Int))) rfl rfl ?_
  refine WL.guardT (rfl) ?_
  refine WL.bin (v := .bool (false)) rfl rfl rfl (BinR.toB (BinR.eql) (beq_eq_false_iff_ne.2 (by omega))) ?_
  refine WL.pick (b := false) rfl rfl rfl ?_
  refine WL.move (v := .bool (false)) rfl rfl ?_
  refine WL.guardT (rfl) ?_
  refine WL.move (v := .int .u8 (((n : Nat) : Int))) rfl rfl ?_
  refine WL.guardT (rfl) ?_
  refine WL.bin (v := .bool (false)) rfl rfl rfl (BinR.toB (BinR.eql) (beq_eq_false_iff_ne.2 (by omega))) ?_
  refine WL.pick (b := false) rfl rfl rfl ?_
  refine WL.move (v := .bool (false)) rfl rfl ?_
  refine WL.guardT (rfl) ?_
  refine WL.move (v := .int .u8 (((n : Nat) : Int))) rfl rfl ?_
  refine WL.guardT (rfl) ?_
  refine WL.bin (v := .bool (false)) rfl rfl rfl (BinR.toB (BinR.eql) (beq_eq_false_iff_ne.2 (by omega))) ?_
  refine WL.pick (b := false) rfl rfl rfl ?_
  refine WL.move (v := .bool (false)) rfl rfl ?_
  refine WL.guardT (rfl) ?_
  refine WL.move (v := .int .u8 (((n : Nat) : Int))) rfl rfl ?_
  refine WL.guardT (rfl) ?_
  refine WL.bin (v := .bool (false)) rfl rfl rfl (BinR.toB (BinR.eql) (beq_eq_false_iff_ne.2 (by omega))) ?_
  refine WL.pick (b := false) rfl rfl rfl ?_
  refine WL.move (v := .bool (false)) rfl rfl ?_
  refine WL.guardT (rfl) ?_
  refine WL.move (v := .int .u8 (((n : Nat) : Int))) rfl rfl ?_
  refine WL.guardT (rfl) ?_
  refine WL.bin (v := .bool (false)) rfl rfl rfl (BinR.toB (BinR.eql) (beq_eq_false_iff_ne.2 (by omega))) ?_
  refine WL.pick (b := false) rfl rfl rfl ?_
  refine WL.assign (v := .bool (false)) rfl rfl ?_
  refine WL.nil ?_
  refine WC.ret ?_
  exact ⟨_, Res.one (v := .bool (false)) rfl rfl, by first | (rw [swapsW_none n hn]; rfl) | rw [swapsW_none n hn], rfl⟩

theorem swaps_spec (n : Nat)  (w : World) (hn2 : n < 256) : CallsR Tryd.prog 19 #[.int .u8 ((n : Nat) : Int)] w (fun v w' => v = .bool (swapsW n) ∧ Ext w w') := by
  by_cases hn : n = 0 ∨ 16 < n
  · exact swaps_none n  w hn hn2
  · match n, hn with
    | 0, hn => exact (hn (.inl rfl)).elim
    | 1, _ => exact swaps1  w
    | 2, _ => exact swaps2  w
    | 3, _ => exact swaps3  w
    | 4, _ => exact swaps4  w
    | 5, _ => exact swaps5  w
    | 6, _ => exact swaps6  w
    | 7, _ => exact swaps7  w
    | 8, _ => exact swaps8  w
    | 9, _ => exact swaps9  w
    | 10, _ => exact swaps10  w
    | 11, _ => exact swaps11  w
    | 12, _ => exact swaps12  w
    | 13, _ => exact swaps13  w
    | 14, _ => exact swaps14  w
    | 15, _ => exact swaps15  w
    | 16, _ => exact swaps16  w
    | n + 17, hn => exact (hn (.inr (by omega))).elim

theorem rswaps_spec (n : Nat)  (w : World) (hn2 : n < 256) : CallsR Tryd.prog 20 #[.int .u8 ((n : Nat) : Int)] w (fun v w' => v = .bool (swapsW n) ∧ w = w') := by
  by_cases hn : n = 0 ∨ 16 < n
  · exact rswaps_none n  w hn hn2
  · match n, hn with
    | 0, hn => exact (hn (.inl rfl)).elim
    | 1, _ => exact rswaps1  w
    | 2, _ => exact rswaps2  w
    | 3, _ => exact rswaps3  w
    | 4, _ => exact rswaps4  w
    | 5, _ => exact rswaps5  w
    | 6, _ => exact rswaps6  w
    | 7, _ => exact rswaps7  w
    | 8, _ => exact rswaps8  w
    | 9, _ => exact rswaps9  w
    | 10, _ => exact rswaps10  w
    | 11, _ => exact rswaps11  w
    | 12, _ => exact rswaps12  w
    | 13, _ => exact rswaps13  w
    | 14, _ => exact rswaps14  w
    | 15, _ => exact rswaps15  w
    | 16, _ => exact rswaps16  w
    | n + 17, hn => exact (hn (.inr (by omega))).elim

theorem groups1 (w : World) : CallsR Tryd.prog 21 #[.int .u8 (1)] w (fun v w' => v = .bool (groupsW 1) ∧ Ext w w') := by
  refine callsR_of Tryd.func21 rfl rfl rfl ?_
  refine WC.seq ?_
  refine WC.region ?_
  refine WL.assign (v := .bool (false)) rfl rfl ?_
  refine WL.nil ?_
  refine WC.seq ?_
  refine WC.region ?_
  refine WL.move (v := .int .u8 (1)) rfl rfl ?_
  refine WL.call ca27 (rfl) rfl (of_row1 _) ?_
  rintro _ wo4 ⟨rfl, e4⟩
  have E1 : Ext w wo4 := Mod.trans (Mod.refl _ _) (e4)
  refine WL.field1 rfl Tryd.underlying41 rfl ag4 rfl rfl rfl ?_
  refine WL.assign (v := .bool (true)) rfl rfl ?_
  refine WL.nil ?_
  refine WC.ret ?_
  exact ⟨_, Res.one (v := .bool (true)) rfl rfl, rfl, E1⟩

theorem rgroups1 (w : World) : CallsR Tryd.prog 22 #[.int .u8 (1)] w (fun v w' => v = .bool (groupsW 1) ∧ w = w') := by
  refine callsR_of Tryd.func22 rfl rfl rfl ?_
  refine WC.seq ?_
  refine WC.region ?_
  refine WL.assign (v := .bool (false)) rfl rfl ?_
  refine WL.nil ?_
  refine WC.seq ?_
  refine WC.region ?_
  refine WL.move (v := .int .u8 (1)) rfl rfl ?_
  refine WL.bin rfl rfl rfl (BinR.eql) ?_
  refine WL.move (v := .bool (true)) rfl rfl ?_
  refine WL.guardF (b' := true) (rfl) rfl rfl ?_
  refine WL.guardF (b' := true) (rfl) rfl rfl ?_
  refine WL.pick (b := true) rfl rfl rfl ?_
  refine WL.move (v := .bool (true)) rfl rfl ?_
  refine WL.guardF (b' := true) (rfl) rfl rfl ?_
  refine WL.guardF (b' := true) (rfl) rfl rfl ?_
  refine WL.pick (b := true) rfl rfl rfl ?_
  refine WL.move (v := .bool (true)) rfl rfl ?_
  refine WL.guardF (b' := true) (rfl) rfl rfl ?_
  refine WL.guardF (b' := true) (rfl) rfl rfl ?_
  refine WL.pick (b := true) rfl rfl rfl ?_
  refine WL.move (v := .bool (true)) rfl rfl ?_
  refine WL.guardF (b' := true) (rfl) rfl rfl ?_
  refine WL.guardF (b' := true) (rfl) rfl rfl ?_
  refine WL.pick (b := true) rfl rfl rfl ?_
  refine WL.assign (v := .bool (true)) rfl rfl ?_
  refine WL.nil ?_
  refine WC.ret ?_
  exact ⟨_, Res.one (v := .bool (true)) rfl rfl, rfl, rfl⟩

theorem groups2 (w : World) : CallsR Tryd.prog 21 #[.int .u8 (2)] w (fun v w' => v = .bool (groupsW 2) ∧ Ext w w') := by
  refine callsR_of Tryd.func21 rfl rfl rfl ?_
  refine WC.seq ?_
  refine WC.region ?_
  refine WL.assign (v := .bool (false)) rfl rfl ?_
  refine WL.nil ?_
  refine WC.seq ?_
  refine WC.region ?_
  refine WL.move (v := .int .u8 (2)) rfl rfl ?_
  refine WL.call ca27 (rfl) rfl (of_row2 _) ?_
  rintro _ wo4 ⟨rfl, e4⟩
  have E1 : Ext w wo4 := Mod.trans (Mod.refl _ _) (e4)
  refine WL.field1 rfl Tryd.underlying41 rfl ag4 rfl rfl rfl ?_
  refine WL.assign (v := .bool (false)) rfl rfl ?_
  refine WL.nil ?_
  refine WC.ret ?_
  exact ⟨_, Res.one (v := .bool (false)) rfl rfl, rfl, E1⟩

theorem rgroups2 (w : World) : CallsR Tryd.prog 22 #[.int .u8 (2)] w (fun v w' => v = .bool (groupsW 2) ∧ w = w') := by
  refine callsR_of Tryd.func22 rfl rfl rfl ?_
  refine WC.seq ?_
  refine WC.region ?_
  refine WL.assign (v := .bool (false)) rfl rfl ?_
  refine WL.nil ?_
  refine WC.seq ?_
  refine WC.region ?_
  refine WL.move (v := .int .u8 (2)) rfl rfl ?_
  refine WL.bin rfl rfl rfl (BinR.eql) ?_
  refine WL.move (v := .bool (false)) rfl rfl ?_
  refine WL.guardT (rfl) ?_
  refine WL.move (v := .int .u8 (2)) rfl rfl ?_
  refine WL.guardT (rfl) ?_
  refine WL.bin rfl rfl rfl (BinR.eql) ?_
  refine WL.pick (b := false) rfl rfl rfl ?_
  refine WL.move (v := .bool (false)) rfl rfl ?_
  refine WL.guardT (rfl) ?_
  refine WL.move (v := .int .u8 (2)) rfl rfl ?_
  refine WL.guardT (rfl) ?_
  refine WL.bin rfl rfl rfl (BinR.eql) ?_
  refine WL.pick (b := false) rfl rfl rfl ?_
  refine WL.move (v := .bool (false)) rfl rfl ?_
  refine WL.guardT (rfl) ?_
  refine WL.move (v := .int .u8 (2)) rfl rfl ?_
  refine WL.guardT (rfl) ?_
  refine WL.bin rfl rfl rfl (BinR.eql) ?_
  refine WL.pick (b := false) rfl rfl rfl ?_
  refine WL.move (v := .bool (false)) rfl rfl ?_
  refine WL.guardT (rfl) ?_
  refine WL.move (v := .int .u8 (2)) rfl rfl ?_
  refine WL.guardT (rfl) ?_
  refine WL.bin rfl rfl rfl (BinR.eql) ?_
  refine WL.pick (b := false) rfl rfl rfl ?_
  refine WL.assign (v := .bool (false)) rfl rfl ?_
  refine WL.nil ?_
  refine WC.ret ?_
  exact ⟨_, Res.one (v := .bool (false)) rfl rfl, rfl, rfl⟩

theorem groups3 (w : World) : CallsR Tryd.prog 21 #[.int .u8 (3)] w (fun v w' => v = .bool (groupsW 3) ∧ Ext w w') := by
  refine callsR_of Tryd.func21 rfl rfl rfl ?_
  refine WC.seq ?_
  refine WC.region ?_
  refine WL.assign (v := .bool (false)) rfl rfl ?_
  refine WL.nil ?_
  refine WC.seq ?_
  refine WC.region ?_
  refine WL.move (v := .int .u8 (3)) rfl rfl ?_
  refine WL.call ca27 (rfl) rfl (of_row3 _) ?_
  rintro _ wo4 ⟨rfl, e4⟩
  have E1 : Ext w wo4 := Mod.trans (Mod.refl _ _) (e4)
  refine WL.field1 rfl Tryd.underlying41 rfl ag4 rfl rfl rfl ?_
  refine WL.assign (v := .bool (true)) rfl rfl ?_
  refine WL.nil ?_
  refine WC.ret ?_
  exact ⟨_, Res.one (v := .bool (true)) rfl rfl, rfl, E1⟩

theorem rgroups3 (w : World) : CallsR Tryd.prog 22 #[.int .u8 (3)] w (fun v w' => v = .bool (groupsW 3) ∧ w = w') := by
  refine callsR_of Tryd.func22 rfl rfl rfl ?_
  refine WC.seq ?_
  refine WC.region ?_
  refine WL.assign (v := .bool (false)) rfl rfl ?_
  refine WL.nil ?_
  refine WC.seq ?_
  refine WC.region ?_
  refine WL.move (v := .int .u8 (3)) rfl rfl ?_
  refine WL.bin rfl rfl rfl (BinR.eql) ?_
  refine WL.move (v := .bool (false)) rfl rfl ?_
  refine WL.guardT (rfl) ?_
  refine WL.move (v := .int .u8 (3)) rfl rfl ?_
  refine WL.guardT (rfl) ?_
  refine WL.bin rfl rfl rfl (BinR.eql) ?_
  refine WL.pick (b := false) rfl rfl rfl ?_
  refine WL.move (v := .bool (true)) rfl rfl ?_
  refine WL.guardF (b' := true) (rfl) rfl rfl ?_
  refine WL.guardF (b' := true) (rfl) rfl rfl ?_
  refine WL.pick (b := true) rfl rfl rfl ?_
  refine WL.move (v := .bool (true)) rfl rfl ?_
  refine WL.guardF (b' := true) (rfl) rfl rfl ?_
  refine WL.guardF (b' := true) (rfl) rfl rfl ?_
  refine WL.pick (b := true) rfl rfl rfl ?_
  refine WL.move (v := .bool (true)) rfl rfl ?_
  refine WL.guardF (b' := true) (rfl) rfl rfl ?_
  refine WL.guardF (b' := true) (rfl) rfl rfl ?_
  refine WL.pick (b := true) rfl rfl rfl ?_
  refine WL.assign (v := .bool (true)) rfl rfl ?_
  refine WL.nil ?_
  refine WC.ret ?_
  exact ⟨_, Res.one (v := .bool (true)) rfl rfl, rfl, rfl⟩

theorem groups4 (w : World) : CallsR Tryd.prog 21 #[.int .u8 (4)] w (fun v w' => v = .bool (groupsW 4) ∧ Ext w w') := by
  refine callsR_of Tryd.func21 rfl rfl rfl ?_
  refine WC.seq ?_
  refine WC.region ?_
  refine WL.assign (v := .bool (false)) rfl rfl ?_
  refine WL.nil ?_
  refine WC.seq ?_
  refine WC.region ?_
  refine WL.move (v := .int .u8 (4)) rfl rfl ?_
  refine WL.call ca27 (rfl) rfl (of_row4 _) ?_
  rintro _ wo4 ⟨rfl, e4⟩
  have E1 : Ext w wo4 := Mod.trans (Mod.refl _ _) (e4)
  refine WL.field1 rfl Tryd.underlying41 rfl ag4 rfl rfl rfl ?_
  refine WL.assign (v := .bool (false)) rfl rfl ?_
  refine WL.nil ?_
  refine WC.ret ?_
  exact ⟨_, Res.one (v := .bool (false)) rfl rfl, rfl, E1⟩

theorem rgroups4 (w : World) : CallsR Tryd.prog 22 #[.int .u8 (4)] w (fun v w' => v = .bool (groupsW 4) ∧ w = w') := by
  refine callsR_of Tryd.func22 rfl rfl rfl ?_
  refine WC.seq ?_
  refine WC.region ?_
  refine WL.assign (v := .bool (false)) rfl rfl ?_
  refine WL.nil ?_
  refine WC.seq ?_
  refine WC.region ?_
  refine WL.move (v := .int .u8 (4)) rfl rfl ?_
  refine WL.bin rfl rfl rfl (BinR.eql) ?_
  refine WL.move (v := .bool (false)) rfl rfl ?_
  refine WL.guardT (rfl) ?_
  refine WL.move (v := .int .u8 (4)) rfl rfl ?_
  refine WL.guardT (rfl) ?_
  refine WL.bin rfl rfl rfl (BinR.eql) ?_
  refine WL.pick (b := false) rfl rfl rfl ?_
  refine WL.move (v := .bool (false)) rfl rfl ?_
  refine WL.guardT (rfl) ?_
  refine WL.move (v := .int .u8 (4)) rfl rfl ?_
  refine WL.guardT (rfl) ?_
  refine WL.bin rfl rfl rfl (BinR.eql) ?_
  refine WL.pick (b := false) rfl rfl rfl ?_
  refine WL.move (v := .bool (false)) rfl rfl ?_
  refine WL.guardT (rfl) ?_
  refine WL.move (v := .int .u8 (4)) rfl rfl ?_
  refine WL.guardT (rfl) ?_
  refine WL.bin rfl rfl rfl (BinR.eql) ?_
  refine WL.pick (b := false) rfl rfl rfl ?_
  refine WL.move (v := .bool (false)) rfl rfl ?_
  refine WL.guardT (rfl) ?_
  refine WL.move (v := .int .u8 (4)) rfl rfl ?_
  refine WL.guardT (rfl) ?_
  refine WL.bin rfl rfl rfl (BinR.eql) ?_
  refine WL.pick (b := false) rfl rfl rfl ?_
  refine WL.assign (v := .bool (false)) rfl rfl ?_
  refine WL.nil ?_
  refine WC.ret ?_
  exact ⟨_, Res.one (v := .bool (false)) rfl rfl, rfl, rfl⟩

theorem groups5 (w : World) : CallsR Tryd.prog 21 #[.int .u8 (5)] w (fun v w' => v = .bool (groupsW 5) ∧ Ext w w') := by
  refine callsR_of Tryd.func21 rfl rfl rfl ?_
  refine WC.seq ?_
  refine WC.region ?_
  refine WL.assign (v := .bool (false)) rfl rfl ?_
  refine WL.nil ?_
  refine WC.seq ?_
  refine WC.region ?_
  refine WL.move (v := .int .u8 (5)) rfl rfl ?_
  refine WL.call ca27 (rfl) rfl (of_row5 _) ?_
  rintro _ wo4 ⟨rfl, e4⟩
  have E1 : Ext w wo4 := Mod.trans (Mod.refl _ _) (e4)
  refine WL.field1 rfl Tryd.underlying41 rfl ag4 rfl rfl rfl ?_
  refine WL.assign (v := .bool (false)) rfl rfl ?_
  refine WL.nil ?_
  refine WC.ret ?_
  exact ⟨_, Res.one (v := .bool (false)) rfl rfl, rfl, E1⟩

theorem rgroups5 (w : World) : CallsR Tryd.prog 22 #[.int .u8 (5)] w (fun v w' => v = .bool (groupsW 5) ∧ w = w') := by
  refine callsR_of Tryd.func22 rfl rfl rfl ?_
  refine WC.seq ?_
  refine WC.region ?_
  refine WL.assign (v := .bool (false)) rfl rfl ?_
  refine WL.nil ?_
  refine WC.seq ?_
  refine WC.region ?_
  refine WL.move (v := .int .u8 (5)) rfl rfl ?_
  refine WL.bin rfl rfl rfl (BinR.eql) ?_
  refine WL.move (v := .bool (false)) rfl rfl ?_
  refine WL.guardT (rfl) ?_
  refine WL.move (v := .int .u8 (5)) rfl rfl ?_
  refine WL.guardT (rfl) ?_
  refine WL.bin rfl rfl rfl (BinR.eql) ?_
  refine WL.pick (b := false) rfl rfl rfl ?_
  refine WL.move (v := .bool (false)) rfl rfl ?_
  refine WL.guardT (rfl) ?_
  refine WL.move (v := .int .u8 (5)) rfl rfl ?_
  refine WL.guardT (rfl) ?_
  refine WL.bin rfl rfl rfl (BinR.eql) ?_
  refine WL.pick (b := false) rfl rfl rfl ?_
  refine WL.move (v := .bool (false)) rfl rfl ?_
  refine WL.guardT (rfl) ?_
  refine WL.move (v := .int .u8 (5)) rfl rfl ?_
  refine WL.guardT (rfl) ?_
  refine WL.bin rfl rfl rfl (BinR.eql) ?_
  refine WL.pick (b := false) rfl rfl rfl ?_
  refine WL.move (v := .bool (false)) rfl rfl ?_
  refine WL.guardT (rfl) ?_
  refine WL.move (v := .int .u8 (5)) rfl rfl ?_
  refine WL.guardT (rfl) ?_
  refine WL.bin rfl rfl rfl (BinR.eql) ?_
  refine WL.pick (b := false) rfl rfl rfl ?_
  refine WL.assign (v := .bool (false)) rfl rfl ?_
  refine WL.nil ?_
  refine WC.ret ?_
  exact ⟨_, Res.one (v := .bool (false)) rfl rfl, rfl, rfl⟩

theorem groups6 (w : World) : CallsR Tryd.prog 21 #[.int .u8 (6)] w (fun v w' => v = .bool (groupsW 6) ∧ Ext w w') := by
  refine callsR_of Tryd.func21 rfl rfl rfl ?_
  refine WC.seq ?_
  refine WC.region ?_
  refine WL.assign (v := .bool (false)) rfl rfl ?_
  refine WL.nil ?_
  refine WC.seq ?_
  refine WC.region ?_
  refine WL.move (v := .int .u8 (6)) rfl rfl ?_
  refine WL.call ca27 (rfl) rfl (of_row6 _) ?_
  rintro _ wo4 ⟨rfl, e4⟩
  have E1 : Ext w wo4 := Mod.trans (Mod.refl _ _) (e4)
  refine WL.field1 rfl Tryd.underlying41 rfl ag4 rfl rfl rfl ?_
  refine WL.assign (v := .bool (false)) rfl rfl ?_
  refine WL.nil ?_
  refine WC.ret ?_
  exact ⟨_, Res.one (v := .bool (false)) rfl rfl, rfl, E1⟩

theorem rgroups6 (w : World) : CallsR Tryd.prog 22 #[.int .u8 (6)] w (fun v w' => v = .bool (groupsW 6) ∧ w = w') := by
  refine callsR_of Tryd.func22 rfl rfl rfl ?_
  refine WC.seq ?_
  refine WC.region ?_
  refine WL.assign (v := .bool (false)) rfl rfl ?_
  refine WL.nil ?_
  refine WC.seq ?_
  refine WC.region ?_
  refine WL.move (v := .int .u8 (6)) rfl rfl ?_
  refine WL.bin rfl rfl rfl (BinR.eql) ?_
  refine WL.move (v := .bool (false)) rfl rfl ?_
  refine WL.guardT (rfl) ?_
  refine WL.move (v := .int .u8 (6)) rfl rfl ?_
  refine WL.guardT (rfl) ?_
  refine WL.bin rfl rfl rfl (BinR.eql) ?_
  refine WL.pick (b := false) rfl rfl rfl ?_
  refine WL.move (v := .bool (false)) rfl rfl ?_
  refine WL.guardT (rfl) ?_
  refine WL.move (v := .int .u8 (6)) rfl rfl ?_
  refine WL.guardT (rfl) ?_
  refine WL.bin rfl rfl rfl (BinR.eql) ?_
  refine WL.pick (b := false) rfl rfl rfl ?_
  refine WL.move (v := .bool (false)) rfl rfl ?_
  refine WL.guardT (rfl) ?_
  refine WL.move (v := .int .u8 (6)) rfl rfl ?_
  refine WL.guardT (rfl) ?_
  refine WL.bin rfl rfl rfl (BinR.eql) ?_
  refine WL.pick (b := false) rfl rfl rfl ?_
  refine WL.move (v := .bool (false)) rfl rfl ?_
  refine WL.guardT (rfl) ?_
  refine WL.move (v := .int .u8 (6)) rfl rfl ?_
  refine WL.guardT (rfl) ?_
  refine WL.bin rfl rfl rfl (BinR.eql) ?_
  refine WL.pick (b := false) rfl rfl rfl ?_
  refine WL.assign (v := .bool (false)) rfl rfl ?_
  refine WL.nil ?_
  refine WC.ret ?_
  exact ⟨_, Res.one (v := .bool (false)) rfl rfl, rfl, rfl⟩

theorem groups7 (w : World) : CallsR Tryd.prog 21 #[.int .u8 (7)] w (fun v w' => v = .bool (groupsW 7) ∧ Ext w w') := by
  refine callsR_of Tryd.func21 rfl rfl rfl ?_
  refine WC.seq ?_
  refine WC.region ?_
  refine WL.assign (v := .bool (false)) rfl rfl ?_
  refine WL.nil ?_
  refine WC.seq ?_
  refine WC.region ?_
  refine WL.move (v := .int .u8 (7)) rfl rfl ?_
  refine WL.call ca27 (rfl) rfl (of_row7 _) ?_
  rintro _ wo4 ⟨rfl, e4⟩
  have E1 : Ext w wo4 := Mod.trans (Mod.refl _ _) (e4)
  refine WL.field1 rfl Tryd.underlying41 rfl ag4 rfl rfl rfl ?_
  refine WL.assign (v := .bool (false)) rfl rfl ?_
  refine WL.nil ?_
  refine WC.ret ?_
  exact ⟨_, Res.one (v := .bool (false)) rfl rfl, rfl, E1⟩

theorem rgroups7 (w : World) : CallsR Tryd.prog 22 #[.int .u8 (7)] w (fun v w' => v = .bool (groupsW 7) ∧ w = w') := by
  refine callsR_of Tryd.func22 rfl rfl rfl ?_
  refine WC.seq ?_
  refine WC.region ?_
  refine WL.assign (v := .bool (false)) rfl rfl ?_
  refine WL.nil ?_
  refine WC.seq ?_
  refine WC.region ?_
  refine WL.move (v := .int .u8 (7)) rfl rfl ?_
  refine WL.bin rfl rfl rfl (BinR.eql) ?_
  refine WL.move (v := .bool (false)) rfl rfl ?_
  refine WL.guardT (rfl) ?_
  refine WL.move (v := .int .u8 (7)) rfl rfl ?_
  refine WL.guardT (rfl) ?_
  refine WL.bin rfl rfl rfl (BinR.eql) ?_
  refine WL.pick (b := false) rfl rfl rfl ?_
  refine WL.move (v := .bool (false)) rfl rfl ?_
  refine WL.guardT (rfl) ?_
  refine WL.move (v := .int .u8 (7)) rfl rfl ?_
  refine WL.guardT (rfl) ?_
  refine WL.bin rfl rfl rfl (BinR.eql) ?_
  refine WL.pick (b := false) rfl rfl rfl ?_
  refine WL.move (v := .bool (false)) rfl rfl ?_
  refine WL.guardT (rfl) ?_
  refine WL.move (v := .int .u8 (7)) rfl rfl ?_
  refine WL.guardT (rfl) ?_
  refine WL.bin rfl rfl rfl (BinR.eql) ?_
  refine WL.pick (b := false) rfl rfl rfl ?_
  refine WL.move (v := .bool (false)) rfl rfl ?_
  refine WL.guardT (rfl) ?_
  refine WL.move (v := .int .u8 (7)) rfl rfl ?_
  refine WL.guardT (rfl) ?_
  refine WL.bin rfl rfl rfl (BinR.eql) ?_
  refine WL.pick (b := false) rfl rfl rfl ?_
  refine WL.assign (v := .bool (false)) rfl rfl ?_
  refine WL.nil ?_
  refine WC.ret ?_
  exact ⟨_, Res.one (v := .bool (false)) rfl rfl, rfl, rfl⟩

theorem groups8 (w : World) : CallsR Tryd.prog 21 #[.int .u8 (8)] w (fun v w' => v = .bool (groupsW 8) ∧ Ext w w') := by
  refine callsR_of Tryd.func21 rfl rfl rfl ?_
  refine WC.seq ?_
  refine WC.region ?_
  refine WL.assign (v := .bool (false)) rfl rfl ?_
  refine WL.nil ?_
  refine WC.seq ?_
  refine WC.region ?_
  refine WL.move (v := .int .u8 (8)) rfl rfl ?_
  refine WL.call ca27 (rfl) rfl (of_row8 _) ?_
  rintro _ wo4 ⟨rfl, e4⟩
  have E1 : Ext w wo4 := Mod.trans (Mod.refl _ _) (e4)
  refine WL.field1 rfl Tryd.underlying41 rfl ag4 rfl rfl rfl ?_
  refine WL.assign (v := .bool (true)) rfl rfl ?_
  refine WL.nil ?_
  refine WC.ret ?_
  exact ⟨_, Res.one (v := .bool (true)) rfl rfl, rfl, E1⟩

theorem rgroups8 (w : World) : CallsR Tryd.prog 22 #[.int .u8 (8)] w (fun v w' => v = .bool (groupsW 8) ∧ w = w') := by
  refine callsR_of Tryd.func22 rfl rfl rfl ?_
  refine WC.seq ?_
  refine WC.region ?_
  refine WL.assign (v := .bool (false)) rfl rfl ?_
  refine WL.nil ?_
  refine WC.seq ?_
  refine WC.region ?_
  refine WL.move (v := .int .u8 (8)) rfl rfl ?_
  refine WL.bin rfl rfl rfl (BinR.eql) ?_
  refine WL.move (v := .bool (false)) rfl rfl ?_
  refine WL.guardT (rfl) ?_
  refine WL.move (v := .int .u8 (8)) rfl rfl ?_
  refine WL.guardT (rfl) ?_
  refine WL.bin rfl rfl rfl (BinR.eql) ?_
  refine WL.pick (b := false) rfl rfl rfl ?_
  refine WL.move (v := .bool (false)) rfl rfl ?_
  refine WL.guardT (rfl) ?_
  refine WL.move (v := .int .u8 (8)) rfl rfl ?_
  refine WL.guardT (rfl) ?_
  refine WL.bin rfl rfl rfl (BinR.eql) ?_
  refine WL.pick (b := false) rfl rfl rfl ?_
  refine WL.move (v := .bool (true)) rfl rfl ?_
  refine WL.guardF (b' := true) (rfl) rfl rfl ?_
  refine WL.guardF (b' := true) (rfl) rfl rfl ?_
  refine WL.pick (b := true) rfl rfl rfl ?_
  refine WL.move (v := .bool (true)) rfl rfl ?_
  refine WL.guardF (b' := true) (rfl) rfl rfl ?_
  refine WL.guardF (b' := true) (rfl) rfl rfl ?_
  refine WL.pick (b := true) rfl rfl rfl ?_
  refine WL.assign (v := .bool (true)) rfl rfl ?_
  refine WL.nil ?_
  refine WC.ret ?_
  exact ⟨_, Res.one (v := .bool (true)) rfl rfl, rfl, rfl⟩

theorem groups9 (w : World) : CallsR Tryd.prog 21 #[.int .u8 (9)] w (fun v w' => v = .bool (groupsW 9) ∧ Ext w w') := by
  refine callsR_of Tryd.func21 rfl rfl rfl ?_
  refine WC.seq ?_
  refine WC.region ?_
  refine WL.assign (v := .bool (false)) rfl rfl ?_
  refine WL.nil ?_
  refine WC.seq ?_
  refine WC.region ?_
  refine WL.move (v := .int .u8 (9)) rfl rfl ?_
  refine WL.call ca27 (rfl) rfl (of_row9 _) ?_
  rintro _ wo4 ⟨rfl, e4⟩
  have E1 : Ext w wo4 := Mod.trans (Mod.refl _ _) (e4)
  refine WL.field1 rfl Tryd.underlying41 rfl ag4 rfl rfl rfl ?_
  refine WL.assign (v := .bool (true)) rfl rfl ?_
  refine WL.nil ?_
  refine WC.ret ?_
  exact ⟨_, Res.one (v := .bool (true)) rfl rfl, rfl, E1⟩

theorem rgroups9 (w : World) : CallsR Tryd.prog 22 #[.int .u8 (9)] w (fun v w' => v = .bool (groupsW 9) ∧ w = w') := by
  refine callsR_of Tryd.func22 rfl rfl rfl ?_
  refine WC.seq ?_
  refine WC.region ?_
  refine WL.assign (v := .bool (false)) rfl rfl ?_
  refine WL.nil ?_
  refine WC.seq ?_
  refine WC.region ?_
  refine WL.move (v := .int .u8 (9)) rfl rfl ?_
  refine WL.bin rfl rfl rfl (BinR.eql) ?_
  refine WL.move (v := .bool (false)) rfl rfl ?_
  refine WL.guardT (rfl) ?_
  refine WL.move (v := .int .u8 (9)) rfl rfl ?_
  refine WL.guardT (rfl) ?_
  refine WL.bin rfl rfl rfl (BinR.eql) ?_
  refine WL.pick (b := false) rfl rfl rfl ?_
  refine WL.move (v := .bool (false)) rfl rfl ?_
  refine WL.guardT (rfl) ?_
  refine WL.move (v := .int .u8 (9)) rfl rfl ?_
  refine WL.guardT (rfl) ?_
  refine WL.bin rfl rfl rfl (BinR.eql) ?_
  refine WL.pick (b := false) rfl rfl rfl ?_
  refine WL.move (v := .bool (false)) rfl rfl ?_
  refine WL.guardT (rfl) ?_
  refine WL.move (v := .int .u8 (9)) rfl rfl ?_
  refine WL.guardT (rfl) ?_
  refine WL.bin rfl rfl rfl (BinR.eql) ?_
  refine WL.pick (b := false) rfl rfl rfl ?_
  refine WL.move (v := .bool (true)) rfl rfl ?_
  refine WL.guardF (b' := true) (rfl) rfl rfl ?_
  refine WL.guardF (b' := true) (rfl) rfl rfl ?_
  refine WL.pick (b := true) rfl rfl rfl ?_
  refine WL.assign (v := .bool (true)) rfl rfl ?_
  refine WL.nil ?_
  refine WC.ret ?_
  exact ⟨_, Res.one (v := .bool (true)) rfl rfl, rfl, rfl⟩

theorem groups10 (w : World) : CallsR Tryd.prog 21 #[.int .u8 (10)] w (fun v w' => v = .bool (groupsW 10) ∧ Ext w w') := by
  refine callsR_of Tryd.func21 rfl rfl rfl ?_
  refine WC.seq ?_
  refine WC.region ?_
  refine WL.assign (v := .bool (false)) rfl rfl ?_
  refine WL.nil ?_
  refine WC.seq ?_
  refine WC.region ?_
  refine WL.move (v := .int .u8 (10)) rfl rfl ?_
  refine WL.call ca27 (rfl) rfl (of_row10 _) ?_
  rintro _ wo4 ⟨rfl, e4⟩
  have E1 : Ext w wo4 := Mod.trans (Mod.refl _ _) (e4)
  refine WL.field1 rfl Tryd.underlying41 rfl ag4 rfl rfl rfl ?_
  refine WL.assign (v := .bool (true)) rfl rfl ?_
  refine WL.nil ?_
  refine WC.ret ?_
  exact ⟨_, Res.one (v := .bool (true)) rfl rfl, rfl, E1⟩

theorem rgroups10 (w : World) : CallsR Tryd.prog 22 #[.int .u8 (10)] w (fun v w' => v = .bool (groupsW 10) ∧ w = w') := by
  refine callsR_of Tryd.func22 rfl rfl rfl ?_
  refine WC.seq ?_
  refine WC.region ?_
  refine WL.assign (v := .bool (false)) rfl rfl ?_
  refine WL.nil ?_
  refine WC.seq ?_
  refine WC.region ?_
  refine WL.move (v := .int .u8 (10)) rfl rfl ?_
  refine WL.bin rfl rfl rfl (BinR.eql) ?_
  refine WL.move (v := .bool (false)) rfl rfl ?_
  refine WL.guardT (rfl) ?_
  refine WL.move (v := .int .u8 (10)) rfl rfl ?_
  refine WL.guardT (rfl) ?_
  refine WL.bin rfl rfl rfl (BinR.eql) ?_
  refine WL.pick (b := false) rfl rfl rfl ?_
  refine WL.move (v := .bool (false)) rfl rfl ?_
  refine WL.guardT (rfl) ?_
  refine WL.move (v := .int .u8 (10)) rfl rfl ?_
  refine WL.guardT (rfl) ?_
  refine WL.bin rfl rfl rfl (BinR.eql) ?_
  refine WL.pick (b := false) rfl rfl rfl ?_
  refine WL.move (v := .bool (false)) rfl rfl ?_
  refine WL.guardT (rfl) ?_
  refine WL.move (v := .int .u8 (10)) rfl rfl ?_
  refine WL.guardT (rfl) ?_
  refine WL.bin rfl rfl rfl (BinR.eql) ?_
  refine WL.pick (b := false) rfl rfl rfl ?_
  refine WL.move (v := .bool (false)) rfl rfl ?_
  refine WL.guardT (rfl) ?_
  refine WL.move (v := .int .u8 (10)) rfl rfl ?_
  refine WL.guardT (rfl) ?_
  refine WL.bin rfl rfl rfl (BinR.eql) ?_
  refine WL.pick (b := false) rfl rfl rfl ?_
  refine WL.assign (v := .bool (true)) rfl rfl ?_
  refine WL.nil ?_
  refine WC.ret ?_
  exact ⟨_, Res.one (v := .bool (true)) rfl rfl, rfl, rfl⟩

theorem groups11 (w : World) : CallsR Tryd.prog 21 #[.int .u8 (11)] w (fun v w' => v = .bool (groupsW 11) ∧ Ext w w') := by
  refine callsR_of Tryd.func21 rfl rfl rfl ?_
  refine WC.seq ?_
  refine WC.region ?_
  refine WL.assign (v := .bool (false)) rfl rfl ?_
  refine WL.nil ?_
  refine WC.seq ?_
  refine WC.region ?_
  refine WL.move (v := .int .u8 (11)) rfl rfl ?_
  refine WL.call ca27 (rfl) rfl (of_row11 _) ?_
  rintro _ wo4 ⟨rfl, e4⟩
  have E1 : Ext w wo4 := Mod.trans (Mod.refl _ _) (e4)
  refine WL.field1 rfl Tryd.underlying41 rfl ag4 rfl rfl rfl ?_
  refine WL.assign (v := .bool (false)) rfl rfl ?_
  refine WL.nil ?_
  refine WC.ret ?_
  exact ⟨_, Res.one (v := .bool (false)) rfl rfl, rfl, E1⟩

theorem rgroups11 (w : World) : CallsR Tryd.prog 22 #[.int .u8 (11)] w (fun v w' => v = .bool (groupsW 11) ∧ w = w') := by
  refine callsR_of Tryd.func22 rfl rfl rfl ?_
  refine WC.seq ?_
  refine WC.region ?_
  refine WL.assign (v := .bool (false)) rfl rfl ?_
  refine WL.nil ?_
  refine WC.seq ?_
  refine WC.region ?_
  refine WL.move (v := .int .u8 (11)) rfl rfl ?_
  refine WL.bin rfl rfl rfl (BinR.eql) ?_
  refine WL.move (v := .bool (false)) rfl rfl ?_
  refine WL.guardT (rfl) ?_
  refine WL.move (v := .int .u8 (11)) rfl rfl ?_
  refine WL.guardT (rfl) ?_
  refine WL.bin rfl rfl rfl (BinR.eql) ?_
  refine WL.pick (b := false) rfl rfl rfl ?_
  refine WL.move (v := .bool (false)) rfl rfl ?_
  refine WL.guardT (rfl) ?_
  refine WL.move (v := .int .u8 (11)) rfl rfl ?_
  refine WL.guardT (rfl) ?_
  refine WL.bin rfl rfl rfl (BinR.eql) ?_
  refine WL.pick (b := false) rfl rfl rfl ?_
  refine WL.move (v := .bool (false)) rfl rfl ?_
  refine WL.guardT (rfl) ?_
  refine WL.move (v := .int .u8 (11)) rfl rfl ?_
  refine WL.guardT (rfl) ?_
  refine WL.bin rfl rfl rfl (BinR.eql) ?_
  refine WL.pick (b := false) rfl rfl rfl ?_
  refine WL.move (v := .bool (false)) rfl rfl ?_
  refine WL.guardT (rfl) ?_
  refine WL.move (v := .int .u8 (11)) rfl rfl ?_
  refine WL.guardT (rfl) ?_
  refine WL.bin rfl rfl rfl (BinR.eql) ?_
  refine WL.pick (b := false) rfl rfl rfl ?_
  refine WL.assign (v := .bool (false)) rfl rfl ?_
  refine WL.nil ?_
  refine WC.ret ?_
  exact ⟨_, Res.one (v := .bool (false)) rfl rfl, rfl, rfl⟩

theorem groups12 (w : World) : CallsR Tryd.prog 21 #[.int .u8 (12)] w (fun v w' => v = .bool (groupsW 12) ∧ Ext w w') := by
  refine callsR_of Tryd.func21 rfl rfl rfl ?_
  refine WC.seq ?_
  refine WC.region ?_
  refine WL.assign (v := .bool (false)) rfl rfl ?_
  refine WL.nil ?_
  refine WC.seq ?_
  refine WC.region ?_
  refine WL.move (v := .int .u8 (12)) rfl rfl ?_
  refine WL.call ca27 (rfl) rfl (of_row12 _) ?_
  rintro _ wo4 ⟨rfl, e4⟩
  have E1 : Ext w wo4 := Mod.trans (Mod.refl _ _) (e4)
  refine WL.field1 rfl Tryd.underlying41 rfl ag4 rfl rfl rfl ?_
  refine WL.assign (v := .bool (false)) rfl rfl ?_
  refine WL.nil ?_
  refine WC.ret ?_
  exact ⟨_, Res.one (v := .bool (false)) rfl rfl, rfl, E1⟩

theorem rgroups12 (w : World) : CallsR Tryd.prog 22 #[.int .u8 (12)] w (fun v w' => v = .bool (groupsW 12) ∧ w = w') := by
  refine callsR_of Tryd.func22 rfl rfl rfl ?_
  refine WC.seq ?_
  refine WC.region ?_
  refine WL.assign (v := .bool (false)) rfl rfl ?_
  refine WL.nil ?_
  refine WC.seq ?_
  refine WC.region ?_
  refine WL.move (v := .int .u8 (12)) rfl rfl ?_
  refine WL.bin rfl rfl rfl (BinR.eql) ?_
  refine WL.move (v := .bool (false)) rfl rfl ?_
  refine WL.guardT (rfl) ?_
  refine WL.move (v := .int .u8 (12)) rfl rfl ?_
  refine WL.guardT (rfl) ?_
  refine WL.bin rfl rfl rfl (BinR.eql) ?_
  refine WL.pick (b := false) rfl rfl rfl ?_
  refine WL.move (v := .bool (false)) rfl rfl ?_
  refine WL.guardT (rfl) ?_
  refine WL.move (v := .int .u8 (12)) rfl rfl ?_
  refine WL.guardT (rfl) ?_
  refine WL.bin rfl rfl rfl (BinR.eql) ?_
  refine WL.pick (b := false) rfl rfl rfl ?_
  refine WL.move (v := .bool (false)) rfl rfl ?_
  refine WL.guardT (rfl) ?_
  refine WL.move (v := .int .u8 (12)) rfl rfl ?_
  refine WL.guardT (rfl) ?_
  refine WL.bin rfl rfl rfl (BinR.eql) ?_
  refine WL.pick (b := false) rfl rfl rfl ?_
  refine WL.move (v := .bool (false)) rfl rfl ?_
  refine WL.guardT (rfl) ?_
  refine WL.move (v := .int .u8 (12)) rfl rfl ?_
  refine WL.guardT (rfl) ?_
  refine WL.bin rfl rfl rfl (BinR.eql) ?_
  refine WL.pick (b := false) rfl rfl rfl ?_
  refine WL.assign (v := .bool (false)) rfl rfl ?_
  refine WL.nil ?_
  refine WC.ret ?_
  exact ⟨_, Res.one (v := .bool (false)) rfl rfl, rfl, rfl⟩

theorem groups13 (w : World) : CallsR Tryd.prog 21 #[.int .u8 (13)] w (fun v w' => v = .bool (groupsW 13) ∧ Ext w w') := by
  refine callsR_of Tryd.func21 rfl rfl rfl ?_
  refine WC.seq ?_
  refine WC.region ?_
  refine WL.assign (v := .bool (false)) rfl rfl ?_
  refine WL.nil ?_
  refine WC.seq ?_
  refine WC.region ?_
  refine WL.move (v := .int .u8 (13)) rfl rfl ?_
  refine WL.call ca27 (rfl) rfl (of_row13 _) ?_
  rintro _ wo4 ⟨rfl, e4⟩
  have E1 : Ext w wo4 := Mod.trans (Mod.refl _ _) (e4)
  refine WL.field1 rfl Tryd.underlying41 rfl ag4 rfl rfl rfl ?_
  refine WL.assign (v := .bool (false)) rfl rfl ?_
  refine WL.nil ?_
  refine WC.ret ?_
  exact ⟨_, Res.one (v := .bool (false)) rfl rfl, rfl, E1⟩

theorem rgroups13 (w : World) : CallsR Tryd.prog 22 #[.int .u8 (13)] w (fun v w' => v = .bool (groupsW 13) ∧ w = w') := by
  refine callsR_of Tryd.func22 rfl rfl rfl ?_
  refine WC.seq ?_
  refine WC.region ?_
  refine WL.assign (v := .bool (false)) rfl rfl ?_
  refine WL.nil ?_
  refine WC.seq ?_
  refine WC.region ?_
  refine WL.move (v := .int .u8 (13)) rfl rfl ?_
  refine WL.bin rfl rfl rfl (BinR.eql) ?_
  refine WL.move (v := .bool (false)) rfl rfl ?_
  refine WL.guardT (rfl) ?_
  refine WL.move (v := .int .u8 (13)) rfl rfl ?_
  refine WL.guardT (rfl) ?_
  refine WL.bin rfl rfl rfl (BinR.eql) ?_
  refine WL.pick (b := false) rfl rfl rfl ?_
  refine WL.move (v := .bool (false)) rfl rfl ?_
  refine WL.guardT (rfl) ?_
  refine WL.move (v := .int .u8 (13)) rfl rfl ?_
  refine WL.guardT (rfl) ?_
  refine WL.bin rfl rfl rfl (BinR.eql) ?_
  refine WL.pick (b := false) rfl rfl rfl ?_
  refine WL.move (v := .bool (false)) rfl rfl ?_
  refine WL.guardT (rfl) ?_
  refine WL.move (v := .int .u8 (13)) rfl rfl ?_
  refine WL.guardT (rfl) ?_
  refine WL.bin rfl rfl rfl (BinR.eql) ?_
  refine WL.pick (b := false) rfl rfl rfl ?_
  refine WL.move (v := .bool (false)) rfl rfl ?_
  refine WL.guardT (rfl) ?_
  refine WL.move (v := .int .u8 (13)) rfl rfl ?_
  refine WL.guardT (rfl) ?_
  refine WL.bin rfl rfl rfl (BinR.eql) ?_
  refine WL.pick (b := false) rfl rfl rfl ?_
  refine WL.assign (v := .bool (false)) rfl rfl ?_
  refine WL.nil ?_
  refine WC.ret ?_
  exact ⟨_, Res.one (v := .bool (false)) rfl rfl, rfl, rfl⟩

theorem groups14 (w : World) : CallsR Tryd.prog 21 #[.int .u8 (14)] w (fun v w' => v = .bool (groupsW 14) ∧ Ext w w') := by
  refine callsR_of Tryd.func21 rfl rfl rfl ?_
  refine WC.seq ?_
  refine WC.region ?_
  refine WL.assign (v := .bool (false)) rfl rfl ?_
  refine WL.nil ?_
  refine WC.seq ?_
  refine WC.region ?_
  refine WL.move (v := .int .u8 (14)) rfl rfl ?_
  refine WL.call ca27 (rfl) rfl (of_row14 _) ?_
  rintro _ wo4 ⟨rfl, e4⟩
  have E1 : Ext w wo4 := Mod.trans (Mod.refl _ _) (e4)
  refine WL.field1 rfl Tryd.underlying41 rfl ag4 rfl rfl rfl ?_
  refine WL.assign (v := .bool (false)) rfl rfl ?_
  refine WL.nil ?_
  refine WC.ret ?_
  exact ⟨_, Res.one (v := .bool (false)) rfl rfl, rfl, E1⟩

theorem rgroups14 (w : World) : CallsR Tryd.prog 22 #[.int .u8 (14)] w (fun v w' => v = .bool (groupsW 14) ∧ w = w') := by
  refine callsR_of Tryd.func22 rfl rfl rfl ?_
  refine WC.seq ?_
  refine WC.region ?_
  refine WL.assign (v := .bool (false)) rfl rfl ?_
  refine WL.nil ?_
  refine WC.seq ?_
  refine WC.region ?_
  refine WL.move (v := .int .u8 (14)) rfl rfl ?_
  refine WL.bin rfl rfl rfl (BinR.eql) ?_
  refine WL.move (v := .bool (false)) rfl rfl ?_
  refine WL.guardT (rfl) ?_
  refine WL.move (v := .int .u8 (14)) rfl rfl ?_
  refine WL.guardT (rfl) ?_
  refine WL.bin rfl rfl rfl (BinR.eql) ?_
  refine WL.pick (b := false) rfl rfl rfl ?_
  refine WL.move (v := .bool (false)) rfl rfl ?_
  refine WL.guardT (rfl) ?_
  refine WL.move (v := .int .u8 (14)) rfl rfl ?_
  refine WL.guardT (rfl) ?_
  refine WL.bin rfl rfl rfl (BinR.eql) ?_
  refine WL.pick (b := false) rfl rfl rfl ?_
  refine WL.move (v := .bool (false)) rfl rfl ?_
  refine WL.guardT (rfl) ?_
  refine WL.move (v := .int .u8 (14)) rfl rfl ?_
  refine WL.guardT (rfl) ?_
  refine WL.bin rfl rfl rfl (BinR.eql) ?_
  refine WL.pick (b := false) rfl rfl rfl ?_
  refine WL.move (v := .bool (false)) rfl rfl ?_
  refine WL.guardT (rfl) ?_
  refine WL.move (v := .int .u8 (14)) rfl rfl ?_
  refine WL.guardT (rfl) ?_
  refine WL.bin rfl rfl rfl (BinR.eql) ?_
  refine WL.pick (b := false) rfl rfl rfl ?_
  refine WL.assign (v := .bool (false)) rfl rfl ?_
  refine WL.nil ?_
  refine WC.ret ?_
  exact ⟨_, Res.one (v := .bool (false)) rfl rfl, rfl, rfl⟩

theorem groups15 (w : World) : CallsR Tryd.prog 21 #[.int .u8 (15)] w (fun v w' => v = .bool (groupsW 15) ∧ Ext w w') := by
  refine callsR_of Tryd.func21 rfl rfl rfl ?_
  refine WC.seq ?_
  refine WC.region ?_
  refine WL.assign (v := .bool (false)) rfl rfl ?_
  refine WL.nil ?_
  refine WC.seq ?_
  refine WC.region ?_
  refine WL.move (v := .int .u8 (15)) rfl rfl ?_
  refine WL.call ca27 (rfl) rfl (of_row15 _) ?_
  rintro _ wo4 ⟨rfl, e4⟩
  have E1 : Ext w wo4 := Mod.trans (Mod.refl _ _) (e4)
  refine WL.field1 rfl Tryd.underlying41 rfl ag4 rfl rfl rfl ?_
  refine WL.assign (v := .bool (false)) rfl rfl ?_
  refine WL.nil ?_
  refine WC.ret ?_
  exact ⟨_, Res.one (v := .bool (false)) rfl rfl, rfl, E1⟩

theorem rgroups15 (w : World) : CallsR Tryd.prog 22 #[.int .u8 (15)] w (fun v w' => v = .bool (groupsW 15) ∧ w = w') := by
  refine callsR_of Tryd.func22 rfl rfl rfl ?_
  refine WC.seq ?_
  refine WC.region ?_
  refine WL.assign (v := .bool (false)) rfl rfl ?_
  refine WL.nil ?_
  refine WC.seq ?_
  refine WC.region ?_
  refine WL.move (v := .int .u8 (15)) rfl rfl ?_
  refine WL.bin rfl rfl rfl (BinR.eql) ?_
  refine WL.move (v := .bool (false)) rfl rfl ?_
  refine WL.guardT (rfl) ?_
  refine WL.move (v := .int .u8 (15)) rfl rfl ?_
  refine WL.guardT (rfl) ?_
  refine WL.bin rfl rfl rfl (BinR.eql) ?_
  refine WL.pick (b := false) rfl rfl rfl ?_
  refine WL.move (v := .bool (false)) rfl rfl ?_
  refine WL.guardT (rfl) ?_
  refine WL.move (v := .int .u8 (15)) rfl rfl ?_
  refine WL.guardT (rfl) ?_
  refine WL.bin rfl rfl rfl (BinR.eql) ?_
  refine WL.pick (b := false) rfl rfl rfl ?_
  refine WL.move (v := .bool (false)) rfl rfl ?_
  refine WL.guardT (rfl) ?_
  refine WL.move (v := .int .u8 (15)) rfl rfl ?_
  refine WL.guardT (rfl) ?_
  refine WL.bin rfl rfl rfl (BinR.eql) ?_
  refine WL.pick (b := false) rfl rfl rfl ?_
  refine WL.move (v := .bool (false)) rfl rfl ?_
  refine WL.guardT (rfl) ?_
  refine WL.move (v := .int .u8 (15)) rfl rfl ?_
  refine WL.guardT (rfl) ?_
  refine WL.bin rfl rfl rfl (BinR.eql) ?_
  refine WL.pick (b := false) rfl rfl rfl ?_
  refine WL.assign (v := .bool (false)) rfl rfl ?_
  refine WL.nil ?_
  refine WC.ret ?_
  exact ⟨_, Res.one (v := .bool (false)) rfl rfl, rfl, rfl⟩

theorem groups16 (w : World) : CallsR Tryd.prog 21 #[.int .u8 (16)] w (fun v w' => v = .bool (groupsW 16) ∧ Ext w w') := by
  refine callsR_of Tryd.func21 rfl rfl rfl ?_
  refine WC.seq ?_
  refine WC.region ?_
  refine WL.assign (v := .bool (false)) rfl rfl ?_
  refine WL.nil ?_
  refine WC.seq ?_
  refine WC.region ?_
  refine WL.move (v := .int .u8 (16)) rfl rfl ?_
  refine WL.call ca27 (rfl) rfl (of_row16 _) ?_
  rintro _ wo4 ⟨rfl, e4⟩
  have E1 : Ext w wo4 := Mod.trans (Mod.refl _ _) (e4)
  refine WL.field1 rfl Tryd.underlying41 rfl ag4 rfl rfl rfl ?_
  refine WL.assign (v := .bool (false)) rfl rfl ?_
  refine WL.nil ?_
  refine WC.ret ?_
  exact ⟨_, Res.one (v := .bool (false)) rfl rfl, rfl, E1⟩

theorem rgroups16 (w : World) : CallsR Tryd.prog 22 #[.int .u8 (16)] w (fun v w' => v = .bool (groupsW 16) ∧ w = w') := by
  refine callsR_of Tryd.func22 rfl rfl rfl ?_
  refine WC.seq ?_
  refine WC.region ?_
  refine WL.assign (v := .bool (false)) rfl rfl ?_
  refine WL.nil ?_
  refine WC.seq ?_
  refine WC.region ?_
  refine WL.move (v := .int .u8 (16)) rfl rfl ?_
  refine WL.bin rfl rfl rfl (BinR.eql) ?_
  refine WL.move (v := .bool (false)) rfl rfl ?_
  refine WL.guardT (rfl) ?_
  refine WL.move (v := .int .u8 (16)) rfl rfl ?_
  refine WL.guardT (rfl) ?_
  refine WL.bin rfl rfl rfl (BinR.eql) ?_
  refine WL.pick (b := false) rfl rfl rfl ?_
  refine WL.move (v := .bool (false)) rfl rfl ?_
  refine WL.guardT (rfl) ?_
  refine WL.move (v := .int .u8 (16)) rfl rfl ?_
  refine WL.guardT (rfl) ?_
  refine WL.bin rfl rfl rfl (BinR.eql) ?_
  refine WL.pick (b := false) rfl rfl rfl ?_
  refine WL.move (v := .bool (false)) rfl rfl ?_
  refine WL.guardT (rfl) ?_
  refine WL.move (v := .int .u8 (16)) rfl rfl ?_
  refine WL.guardT (rfl) ?_
  refine WL.bin rfl rfl rfl (BinR.eql) ?_
  refine WL.pick (b := false) rfl rfl rfl ?_
  refine WL.move (v := .bool (false)) rfl rfl ?_
  refine WL.guardT (rfl) ?_
  refine WL.move (v := .int .u8 (16)) rfl rfl ?_
  refine WL.guardT (rfl) ?_
  refine WL.bin rfl rfl rfl (BinR.eql) ?_
  refine WL.pick (b := false) rfl rfl rfl ?_
  refine WL.assign (v := .bool (false)) rfl rfl ?_
  refine WL.nil ?_
  refine WC.ret ?_
  exact ⟨_, Res.one (v := .bool (false)) rfl rfl, rfl, rfl⟩

theorem groups_none (n : Nat) (w : World) (hn : n = 0 ∨ 16 < n) (hn2 : n < 256) : CallsR Tryd.prog 21 #[.int .u8 (((n : Nat) : Int))] w (fun v w' => v = .bool (groupsW n) ∧ Ext w w') := by
  refine callsR_of Tryd.func21 rfl rfl rfl ?_
  refine WC.seq ?_
  refine WC.region ?_
  refine WL.assign (v := .bool (false)) rfl rfl ?_
  refine WL.nil ?_
  refine WC.seq ?_
  refine WC.region ?_
  refine WL.move (v := .int .u8 (((n : Nat) : Int))) rfl rfl ?_
  refine WL.call ca27 (rfl) rfl (of_none n _ hn hn2) ?_
  rintro _ wo4 ⟨rfl, e4⟩
  have E1 : Ext w wo4 := Mod.trans (Mod.refl _ _) (e4)
  refine WL.field1 rfl Tryd.underlying41 rfl ag4 rfl rfl rfl ?_
  refine WL.assign (v := .bool (false)) rfl rfl ?_
  refine WL.nil ?_
  refine WC.ret ?_
  exact ⟨_, Res.one (v := .bool (false)) rfl rfl, by first | (rw [groupsW_none n hn]; rfl) | rw [groupsW_none n hn], E1⟩

theorem rgroups_none (n : Nat) (w : World) (hn : n = 0 ∨ 16 < n) (hn2 : n < 256) : CallsR Tryd.prog 22 #[.int .u8 (((n : Nat) : Int))] w (fun v w' => v = .bool (groupsW n) ∧ w = w') := by
  refine callsR_of Tryd.func22 rfl rfl rfl ?_
  refine WC.seq ?_
  refine WC.region ?_
  refine WL.assign (v := .bool (false)) rfl rfl ?_
  refine WL.nil ?_
  refine WC.seq ?_
  refine WC.region ?_
  refine WL.move (v := .int .u8 (((n : Nat) : Int))) rfl rfl ?_
  refine WL.bin (v := .bool (false)) rfl rfl rfl (BinR.toB (BinR.eql) (beq_eq_false_iff_ne.2 (by omega))) ?_
  refine WL.move (v := .bool (false)) rfl rfl ?_
  refine WL.guardT (rfl) ?_
  refine WL.move (v := .int .u8 (((n : Nat) : Int))) rfl rfl ?_
  refine WL.guardT (rfl) ?_
  refine WL.bin (v := .bool (false)) rfl rfl rfl (BinR.toB (BinR.eql) (beq_eq_false_iff_ne.2 (by omega))) ?_
  refine WL.pick (b := false) rfl rfl rfl ?_
  refine WL.move (v := .bool (false)) rfl rfl ?_
  refine WL.guardT (rfl) ?_
  refine WL.move (v := .int .u8 (((n : Nat) : Int))) rfl rfl ?_
  refine WL.guardT (rfl) ?_
  refine WL.bin (v := .bool (false)) rfl rfl rfl (BinR.toB (BinR.eql) (beq_eq_false_iff_ne.2 (by omega))) ?_
  refine WL.pick (b := false) rfl rfl rfl ?_
  refine WL.move (v := .bool (false)) rfl rfl ?_
  refine WL.guardT (rfl) ?_
  refine WL.move (v := .int .u8 (((n : Nat) : Int))) rfl rfl ?_
  refine WL.guardT (rfl) ?_
  refine WL.bin (v := .bool (false)) rfl rfl rfl (BinR.toB (BinR.eql) (beq_eq_false_iff_ne.2 (by omega))) ?_
  refine WL.pick (b := false) rfl rfl rfl ?_
  refine WL.move (v := .bool (false)) rfl rfl ?_
  refine WL.guardT (rfl) ?_
  refine WL.move (v := .int .u8 (((n : Nat) : Int))) rfl rfl ?_
  refine WL.guardT (rfl) ?_
  refine WL.bin (v := .bool (false)) rfl rfl rfl (BinR.toB (BinR.eql) (beq_eq_false_iff_ne.2 (by omega))) ?_
  refine WL.pick (b := false) rfl rfl rfl ?_
  refine WL.assign (v := .bool (false)) rfl rfl ?_
  refine WL.nil ?_
  refine WC.ret ?_
  exact ⟨_, Res.one (v := .bool (false)) rfl rfl, by first | (rw [groupsW_none n hn]; rfl) | rw [groupsW_none n hn], rfl⟩

theorem groups_spec (n : Nat)  (w : World) (hn2 : n < 256) : CallsR Tryd.prog 21 #[.int .u8 ((n : Nat) : Int)] w (fun v w' => v = .bool (groupsW n) ∧ Ext w w') := by
  by_cases hn : n = 0 ∨ 16 < n
  · exact groups_none n  w hn hn2
  · match n, hn with
    | 0, hn => exact (hn (.inl rfl)).elim
    | 1, _ => exact groups1  w
    | 2, _ => exact groups2  w
    | 3, _ => exact groups3  w
    | 4, _ => exact groups4  w
    | 5, _ => exact groups5  w
    | 6, _ => exact groups6  w
    | 7, _ => exact groups7  w
    | 8, _ => exact groups8  w
    | 9, _ => exact groups9  w
    | 10, _ => exact groups10  w
    | 11, _ => exact groups11  w
    | 12, _ => exact groups12  w
    | 13, _ => exact groups13  w
    | 14, _ => exact groups14  w
    | 15, _ => exact groups15  w
    | 16, _ => exact groups16  w
    | n + 17, hn => exact (hn (.inr (by omega))).elim

theorem rgroups_spec (n : Nat)  (w : World) (hn2 : n < 256) : CallsR Tryd.prog 22 #[.int .u8 ((n : Nat) : Int)] w (fun v w' => v = .bool (groupsW n) ∧ w = w') := by
  by_cases hn : n = 0 ∨ 16 < n
  · exact rgroups_none n  w hn hn2
  · match n, hn with
    | 0, hn => exact (hn (.inl rfl)).elim
    | 1, _ => exact rgroups1  w
    | 2, _ => exact rgroups2  w
    | 3, _ => exact rgroups3  w
    | 4, _ => exact rgroups4  w
    | 5, _ => exact rgroups5  w
    | 6, _ => exact rgroups6  w
    | 7, _ => exact rgroups7  w
    | 8, _ => exact rgroups8  w
    | 9, _ => exact rgroups9  w
    | 10, _ => exact rgroups10  w
    | 11, _ => exact rgroups11  w
    | 12, _ => exact rgroups12  w
    | 13, _ => exact rgroups13  w
    | 14, _ => exact rgroups14  w
    | 15, _ => exact rgroups15  w
    | 16, _ => exact rgroups16  w
    | n + 17, hn => exact (hn (.inr (by omega))).elim

theorem keeps1 (w : World) : CallsR Tryd.prog 15 #[.int .u8 (1)] w (fun v w' => v = .tuple #[I64 (keepsW 1).1, .bool (keepsW 1).2] ∧ Ext w w') := by
  refine callsR_of Tryd.func15 rfl rfl rfl ?_
  refine WC.seq ?_
  refine WC.region ?_
  refine WL.assign (v := I64 (0#64)) rfl rfl ?_
  refine WL.assign (v := .bool (false)) rfl rfl ?_
  refine WL.nil ?_
  refine WC.seq ?_
  refine WC.region ?_
  refine WL.move (v := .int .u8 (1)) rfl rfl ?_
  refine WL.call ca27 (rfl) rfl (of_row1 _) ?_
  rintro _ wo5 ⟨rfl, e5⟩
  have E1 : Ext w wo5 := Mod.trans (Mod.refl _ _) (e5)
  refine WL.field1 rfl Tryd.underlying41 rfl ag2 rfl rfl rfl ?_
  refine WL.move (v := .int .u8 (1)) rfl rfl ?_
  refine WL.call ca27 (rfl) rfl (of_row1 _) ?_
  rintro _ wo8 ⟨rfl, e8⟩
  have E2 : Ext w wo8 := Mod.trans (E1) (e8)
  refine WL.field1 rfl Tryd.underlying41 rfl ag4 rfl rfl rfl ?_
  refine WL.assign (v := I64 (BitVec.ofInt 64 (0))) rfl rfl ?_
  refine WL.assign (v := .bool (true)) rfl rfl ?_
  refine WL.nil ?_
  refine WC.ret ?_
  exact ⟨_, Res.two (v := I64 (BitVec.ofInt 64 (0))) (v' := .bool (true)) rfl rfl rfl, rfl, E2⟩

theorem rkeeps1 (w : World) : CallsR Tryd.prog 16 #[.int .u8 (1)] w (fun v w' => v = .tuple #[I64 (keepsW 1).1, .bool (keepsW 1).2] ∧ w = w') := by
  refine callsR_of Tryd.func16 rfl rfl rfl ?_
  refine WC.seq ?_
  refine WC.region ?_
  refine WL.assign (v := I64 (0#64)) rfl rfl ?_
  refine WL.assign (v := .bool (false)) rfl rfl ?_
  refine WL.nil ?_
  refine WC.seq ?_
  refine WC.seq ?_
  refine WC.region ?_
  refine WL.move (v := .int .u8 (1)) rfl rfl ?_
  refine WL.nil ?_
  refine WC.block ?_
  refine WC.seq ?_
  refine WC.seq ?_
  refine WC.region ?_
  refine WL.bin rfl rfl rfl (BinR.eql) ?_
  refine WL.assign (v := .bool (true)) rfl rfl ?_
  refine WL.nil ?_
  refine WC.condT rfl ?_
  refine WC.skip ?_
  refine WC.condT rfl ?_
  refine WC.seq ?_
  refine WC.region ?_
  refine WL.assign (v := I64 (0#64)) rfl rfl ?_
  refine WL.assign (v := .bool (true)) rfl rfl ?_
  refine WL.nil ?_
  refine WC.ret ?_
  exact ⟨_, Res.two (v := I64 (0#64)) (v' := .bool (true)) rfl rfl rfl, rfl, rfl⟩

theorem keeps2 (w : World) : CallsR Tryd.prog 15 #[.int .u8 (2)] w (fun v w' => v = .tuple #[I64 (keepsW 2).1, .bool (keepsW 2).2] ∧ Ext w w') := by
  refine callsR_of Tryd.func15 rfl rfl rfl ?_
  refine WC.seq ?_
  refine WC.region ?_
  refine WL.assign (v := I64 (0#64)) rfl rfl ?_
  refine WL.assign (v := .bool (false)) rfl rfl ?_
  refine WL.nil ?_
  refine WC.seq ?_
  refine WC.region ?_
  refine WL.move (v := .int .u8 (2)) rfl rfl ?_
  refine WL.call ca27 (rfl) rfl (of_row2 _) ?_
  rintro _ wo5 ⟨rfl, e5⟩
  have E1 : Ext w wo5 := Mod.trans (Mod.refl _ _) (e5)
  refine WL.field1 rfl Tryd.underlying41 rfl ag2 rfl rfl rfl ?_
  refine WL.move (v := .int .u8 (2)) rfl rfl ?_
  refine WL.call ca27 (rfl) rfl (of_row2 _) ?_
  rintro _ wo8 ⟨rfl, e8⟩
  have E2 : Ext w wo8 := Mod.trans (E1) (e8)
  refine WL.field1 rfl Tryd.underlying41 rfl ag4 rfl rfl rfl ?_
  refine WL.assign (v := I64 (BitVec.ofInt 64 (0))) rfl rfl ?_
  refine WL.assign (v := .bool (true)) rfl rfl ?_
  refine WL.nil ?_
  refine WC.ret ?_
  exact ⟨_, Res.two (v := I64 (BitVec.ofInt 64 (0))) (v' := .bool (true)) rfl rfl rfl, rfl, E2⟩

theorem rkeeps2 (w : World) : CallsR Tryd.prog 16 #[.int .u8 (2)] w (fun v w' => v = .tuple #[I64 (keepsW 2).1, .bool (keepsW 2).2] ∧ w = w') := by
  refine callsR_of Tryd.func16 rfl rfl rfl ?_
  refine WC.seq ?_
  refine WC.region ?_
  refine WL.assign (v := I64 (0#64)) rfl rfl ?_
  refine WL.assign (v := .bool (false)) rfl rfl ?_
  refine WL.nil ?_
  refine WC.seq ?_
  refine WC.seq ?_
  refine WC.region ?_
  refine WL.move (v := .int .u8 (2)) rfl rfl ?_
  refine WL.nil ?_
  refine WC.block ?_
  refine WC.seq ?_
  refine WC.seq ?_
  refine WC.region ?_
  refine WL.bin rfl rfl rfl (BinR.eql) ?_
  refine WL.assign (v := .bool (false)) rfl rfl ?_
  refine WL.nil ?_
  refine WC.condF rfl ?_
  refine WC.seq ?_
  refine WC.region ?_
  refine WL.bin rfl rfl rfl (BinR.eql) ?_
  refine WL.assign (v := .bool (true)) rfl rfl ?_
  refine WL.nil ?_
  refine WC.condT rfl ?_
  refine WC.skip ?_
  refine WC.condT rfl ?_
  refine WC.seq ?_
  refine WC.region ?_
  refine WL.assign (v := I64 (0#64)) rfl rfl ?_
  refine WL.assign (v := .bool (true)) rfl rfl ?_
  refine WL.nil ?_
  refine WC.ret ?_
  exact ⟨_, Res.two (v := I64 (0#64)) (v' := .bool (true)) rfl rfl rfl, rfl, rfl⟩

theorem keeps3 (w : World) : CallsR Tryd.prog 15 #[.int .u8 (3)] w (fun v w' => v = .tuple #[I64 (keepsW 3).1, .bool (keepsW 3).2] ∧ Ext w w') := by
  refine callsR_of Tryd.func15 rfl rfl rfl ?_
  refine WC.seq ?_
  refine WC.region ?_
  refine WL.assign (v := I64 (0#64)) rfl rfl ?_
  refine WL.assign (v := .bool (false)) rfl rfl ?_
  refine WL.nil ?_
  refine WC.seq ?_
  refine WC.region ?_
  refine WL.move (v := .int .u8 (3)) rfl rfl ?_
  refine WL.call ca27 (rfl) rfl (of_row3 _) ?_
  rintro _ wo5 ⟨rfl, e5⟩
  have E1 : Ext w wo5 := Mod.trans (Mod.refl _ _) (e5)
  refine WL.field1 rfl Tryd.underlying41 rfl ag2 rfl rfl rfl ?_
  refine WL.move (v := .int .u8 (3)) rfl rfl ?_
  refine WL.call ca27 (rfl) rfl (of_row3 _) ?_
  rintro _ wo8 ⟨rfl, e8⟩
  have E2 : Ext w wo8 := Mod.trans (E1) (e8)
  refine WL.field1 rfl Tryd.underlying41 rfl ag4 rfl rfl rfl ?_
  refine WL.assign (v := I64 (BitVec.ofInt 64 (1))) rfl rfl ?_
  refine WL.assign (v := .bool (true)) rfl rfl ?_
  refine WL.nil ?_
  refine WC.ret ?_
  exact ⟨_, Res.two (v := I64 (BitVec.ofInt 64 (1))) (v' := .bool (true)) rfl rfl rfl, rfl, E2⟩

theorem rkeeps3 (w : World) : CallsR Tryd.prog 16 #[.int .u8 (3)] w (fun v w' => v = .tuple #[I64 (keepsW 3).1, .bool (keepsW 3).2] ∧ w = w') := by
  refine callsR_of Tryd.func16 rfl rfl rfl ?_
  refine WC.seq ?_
  refine WC.region ?_
  refine WL.assign (v := I64 (0#64)) rfl rfl ?_
  refine WL.assign (v := .bool (false)) rfl rfl ?_
  refine WL.nil ?_
  refine WC.seq ?_
  refine WC.seq ?_
  refine WC.region ?_
  refine WL.move (v := .int .u8 (3)) rfl rfl ?_
  refine WL.nil ?_
  refine WC.block ?_
  refine WC.seq ?_
  refine WC.seq ?_
  refine WC.region ?_
  refine WL.bin rfl rfl rfl (BinR.eql) ?_
  refine WL.assign (v := .bool (false)) rfl rfl ?_
  refine WL.nil ?_
  refine WC.condF rfl ?_
  refine WC.seq ?_
  refine WC.region ?_
  refine WL.bin rfl rfl rfl (BinR.eql) ?_
  refine WL.assign (v := .bool (false)) rfl rfl ?_
  refine WL.nil ?_
  refine WC.condF rfl ?_
  refine WC.seq ?_
  refine WC.region ?_
  refine WL.bin rfl rfl rfl (BinR.eql) ?_
  refine WL.assign (v := .bool (false)) rfl rfl ?_
  refine WL.nil ?_
  refine WC.condF rfl ?_
  refine WC.seq ?_
  refine WC.region ?_
  refine WL.bin rfl rfl rfl (BinR.eql) ?_
  refine WL.assign (v := .bool (false)) rfl rfl ?_
  refine WL.nil ?_
  refine WC.condF rfl ?_
  refine WC.seq ?_
  refine WC.region ?_
  refine WL.bin rfl rfl rfl (BinR.eql) ?_
  refine WL.assign (v := .bool (false)) rfl rfl ?_
  refine WL.nil ?_
  refine WC.condF rfl ?_
  refine WC.seq ?_
  refine WC.region ?_
  refine WL.bin rfl rfl rfl (BinR.eql) ?_
  refine WL.assign (v := .bool (false)) rfl rfl ?_
  refine WL.nil ?_
  refine WC.condF rfl ?_
  refine WC.region ?_
  refine WL.bin rfl rfl rfl (BinR.eql) ?_
  refine WL.assign (v := .bool (false)) rfl rfl ?_
  refine WL.nil ?_
  refine WC.condF rfl ?_
  refine WC.seq ?_
  refine WC.seq ?_
  refine WC.region ?_
  refine WL.bin rfl rfl rfl (BinR.eql) ?_
  refine WL.assign (v := .bool (true)) rfl rfl ?_
  refine WL.nil ?_
  refine WC.condT rfl ?_
  refine WC.skip ?_
  refine WC.condT rfl ?_
  refine WC.seq ?_
  refine WC.region ?_
  refine WL.assign (v := I64 (1#64)) rfl rfl ?_
  refine WL.assign (v := .bool (true)) rfl rfl ?_
  refine WL.nil ?_
  refine WC.ret ?_
  exact ⟨_, Res.two (v := I64 (1#64)) (v' := .bool (true)) rfl rfl rfl, rfl, rfl⟩

theorem keeps4 (w : World) : CallsR Tryd.prog 15 #[.int .u8 (4)] w (fun v w' => v = .tuple #[I64 (keepsW 4).1, .bool (keepsW 4).2] ∧ Ext w w') := by
  refine callsR_of Tryd.func15 rfl rfl rfl ?_
  refine WC.seq ?_
  refine WC.region ?_
  refine WL.assign (v := I64 (0#64)) rfl rfl ?_
  refine WL.assign (v := .bool (false)) rfl rfl ?_
  refine WL.nil ?_
  refine WC.seq ?_
  refine WC.region ?_
  refine WL.move (v := .int .u8 (4)) rfl rfl ?_
  refine WL.call ca27 (rfl) rfl (of_row4 _) ?_
  rintro _ wo5 ⟨rfl, e5⟩
  have E1 : Ext w wo5 := Mod.trans (Mod.refl _ _) (e5)
  refine WL.field1 rfl Tryd.underlying41 rfl ag2 rfl rfl rfl ?_
  refine WL.move (v := .int .u8 (4)) rfl rfl ?_
  refine WL.call ca27 (rfl) rfl (of_row4 _) ?_
  rintro _ wo8 ⟨rfl, e8⟩
  have E2 : Ext w wo8 := Mod.trans (E1) (e8)
  refine WL.field1 rfl Tryd.underlying41 rfl ag4 rfl rfl rfl ?_
  refine WL.assign (v := I64 (BitVec.ofInt 64 (1))) rfl rfl ?_
  refine WL.assign (v := .bool (true)) rfl rfl ?_
  refine WL.nil ?_
  refine WC.ret ?_
  exact ⟨_, Res.two (v := I64 (BitVec.ofInt 64 (1))) (v' := .bool (true)) rfl rfl rfl, rfl, E2⟩

theorem rkeeps4 (w : World) : CallsR Tryd.prog 16 #[.int .u8 (4)] w (fun v w' => v = .tuple #[I64 (keepsW 4).1, .bool (keepsW 4).2] ∧ w = w') := by
  refine callsR_of Tryd.func16 rfl rfl rfl ?_
  refine WC.seq ?_
  refine WC.region ?_
  refine WL.assign (v := I64 (0#64)) rfl rfl ?_
  refine WL.assign (v := .bool (false)) rfl rfl ?_
  refine WL.nil ?_
  refine WC.seq ?_
  refine WC.seq ?_
  refine WC.region ?_
  refine WL.move (v := .int .u8 (4)) rfl rfl ?_
  refine WL.nil ?_
  refine WC.block ?_
  refine WC.seq ?_
  refine WC.seq ?_
  refine WC.region ?_
  refine WL.bin rfl rfl rfl (BinR.eql) ?_
  refine WL.assign (v := .bool (false)) rfl rfl ?_
  refine WL.nil ?_
  refine WC.condF rfl ?_
  refine WC.seq ?_
  refine WC.region ?_
  refine WL.bin rfl rfl rfl (BinR.eql) ?_
  refine WL.assign (v := .bool (false)) rfl rfl ?_
  refine WL.nil ?_
  refine WC.condF rfl ?_
  refine WC.seq ?_
  refine WC.region ?_
  refine WL.bin rfl rfl rfl (BinR.eql) ?_
  refine WL.assign (v := .bool (false)) rfl rfl ?_
  refine WL.nil ?_
  refine WC.condF rfl ?_
  refine WC.seq ?_
  refine WC.region ?_
  refine WL.bin rfl rfl rfl (BinR.eql) ?_
  refine WL.assign (v := .bool (false)) rfl rfl ?_
  refine WL.nil ?_
  refine WC.condF rfl ?_
  refine WC.seq ?_
  refine WC.region ?_
  refine WL.bin rfl rfl rfl (BinR.eql) ?_
  refine WL.assign (v := .bool (false)) rfl rfl ?_
  refine WL.nil ?_
  refine WC.condF rfl ?_
  refine WC.seq ?_
  refine WC.region ?_
  refine WL.bin rfl rfl rfl (BinR.eql) ?_
  refine WL.assign (v := .bool (false)) rfl rfl ?_
  refine WL.nil ?_
  refine WC.condF rfl ?_
  refine WC.region ?_
  refine WL.bin rfl rfl rfl (BinR.eql) ?_
  refine WL.assign (v := .bool (false)) rfl rfl ?_
  refine WL.nil ?_
  refine WC.condF rfl ?_
  refine WC.seq ?_
  refine WC.seq ?_
  refine WC.region ?_
  refine WL.bin rfl rfl rfl (BinR.eql) ?_
  refine WL.assign (v := .bool (false)) rfl rfl ?_
  refine WL.nil ?_
  refine WC.condF rfl ?_
  refine WC.seq ?_
  refine WC.region ?_
  refine WL.bin rfl rfl rfl (BinR.eql) ?_
  refine WL.assign (v := .bool (true)) rfl rfl ?_
  refine WL.nil ?_
  refine WC.condT rfl ?_
  refine WC.skip ?_
  refine WC.condT rfl ?_
  refine WC.seq ?_
  refine WC.region ?_
  refine WL.assign (v := I64 (1#64)) rfl rfl ?_
  refine WL.assign (v := .bool (true)) rfl rfl ?_
  refine WL.nil ?_
  refine WC.ret ?_
  exact ⟨_, Res.two (v := I64 (1#64)) (v' := .bool (true)) rfl rfl rfl, rfl, rfl⟩

theorem keeps5 (w : World) : CallsR Tryd.prog 15 #[.int .u8 (5)] w (fun v w' => v = .tuple #[I64 (keepsW 5).1, .bool (keepsW 5).2] ∧ Ext w w') := by
  refine callsR_of Tryd.func15 rfl rfl rfl ?_
  refine WC.seq ?_
  refine WC.region ?_
  refine WL.assign (v := I64 (0#64)) rfl rfl ?_
  refine WL.assign (v := .bool (false)) rfl rfl ?_
  refine WL.nil ?_
  refine WC.seq ?_
  refine WC.region ?_
  refine WL.move (v := .int .u8 (5)) rfl rfl ?_
  refine WL.call ca27 (rfl) rfl (of_row5 _) ?_
  rintro _ wo5 ⟨rfl, e5⟩
  have E1 : Ext w wo5 := Mod.trans (Mod.refl _ _) (e5)
  refine WL.field1 rfl Tryd.underlying41 rfl ag2 rfl rfl rfl ?_
  refine WL.move (v := .int .u8 (5)) rfl rfl ?_
  refine WL.call ca27 (rfl) rfl (of_row5 _) ?_
  rintro _ wo8 ⟨rfl, e8⟩
  have E2 : Ext w wo8 := Mod.trans (E1) (e8)
  refine WL.field1 rfl Tryd.underlying41 rfl ag4 rfl rfl rfl ?_
  refine WL.assign (v := I64 (BitVec.ofInt 64 (0))) rfl rfl ?_
  refine WL.assign (v := .bool (true)) rfl rfl ?_
  refine WL.nil ?_
  refine WC.ret ?_
  exact ⟨_, Res.two (v := I64 (BitVec.ofInt 64 (0))) (v' := .bool (true)) rfl rfl rfl, rfl, E2⟩

theorem rkeeps5 (w : World) : CallsR Tryd.prog 16 #[.int .u8 (5)] w (fun v w' => v = .tuple #[I64 (keepsW 5).1, .bool (keepsW 5).2] ∧ w = w') := by
  refine callsR_of Tryd.func16 rfl rfl rfl ?_
  refine WC.seq ?_
  refine WC.region ?_
  refine WL.assign (v := I64 (0#64)) rfl rfl ?_
  refine WL.assign (v := .bool (false)) rfl rfl ?_
  refine WL.nil ?_
  refine WC.seq ?_
  refine WC.seq ?_
  refine WC.region ?_
  refine WL.move (v := .int .u8 (5)) rfl rfl ?_
  refine WL.nil ?_
  refine WC.block ?_
  refine WC.seq ?_
  refine WC.seq ?_
  refine WC.region ?_
  refine WL.bin rfl rfl rfl (BinR.eql) ?_
  refine WL.assign (v := .bool (false)) rfl rfl ?_
  refine WL.nil ?_
  refine WC.condF rfl ?_
  refine WC.seq ?_
  refine WC.region ?_
  refine WL.bin rfl rfl rfl (BinR.eql) ?_
  refine WL.assign (v := .bool (false)) rfl rfl ?_
  refine WL.nil ?_
  refine WC.condF rfl ?_
  refine WC.seq ?_
  refine WC.region ?_
  refine WL.bin rfl rfl rfl (BinR.eql) ?_
  refine WL.assign (v := .bool (false)) rfl rfl ?_
  refine WL.nil ?_
  refine WC.condF rfl ?_
  refine WC.seq ?_
  refine WC.region ?_
  refine WL.bin rfl rfl rfl (BinR.eql) ?_
  refine WL.assign (v := .bool (false)) rfl rfl ?_
  refine WL.nil ?_
  refine WC.condF rfl ?_
  refine WC.seq ?_
  refine WC.region ?_
  refine WL.bin rfl rfl rfl (BinR.eql) ?_
  refine WL.assign (v := .bool (false)) rfl rfl ?_
  refine WL.nil ?_
  refine WC.condF rfl ?_
  refine WC.seq ?_
  refine WC.region ?_
  refine WL.bin rfl rfl rfl (BinR.eql) ?_
  refine WL.assign (v := .bool (false)) rfl rfl ?_
  refine WL.nil ?_
  refine WC.condF rfl ?_
  refine WC.region ?_
  refine WL.bin rfl rfl rfl (BinR.eql) ?_
  refine WL.assign (v := .bool (false)) rfl rfl ?_
  refine WL.nil ?_
  refine WC.condF rfl ?_
  refine WC.seq ?_
  refine WC.seq ?_
  refine WC.region ?_
  refine WL.bin rfl rfl rfl (BinR.eql) ?_
  refine WL.assign (v := .bool (false)) rfl rfl ?_
  refine WL.nil ?_
  refine WC.condF rfl ?_
  refine WC.seq ?_
  refine WC.region ?_
  refine WL.bin rfl rfl rfl (BinR.eql) ?_
  refine WL.assign (v := .bool (false)) rfl rfl ?_
  refine WL.nil ?_
  refine WC.condF rfl ?_
  refine WC.region ?_
  refine WL.bin rfl rfl rfl (BinR.eql) ?_
  refine WL.assign (v := .bool (false)) rfl rfl ?_
  refine WL.nil ?_
  refine WC.condF rfl ?_
  refine WC.seq ?_
  refine WC.region ?_
  refine WL.bin rfl rfl rfl (BinR.eql) ?_
  refine WL.assign (v := .bool (false)) rfl rfl ?_
  refine WL.nil ?_
  refine WC.condF rfl ?_
  refine WC.seq ?_
  refine WC.seq ?_
  refine WC.region ?_
  refine WL.bin rfl rfl rfl (BinR.eql) ?_
  refine WL.assign (v := .bool (false)) rfl rfl ?_
  refine WL.nil ?_
  refine WC.condF rfl ?_
  refine WC.region ?_
  refine WL.bin rfl rfl rfl (BinR.eql) ?_
  refine WL.assign (v := .bool (true)) rfl rfl ?_
  refine WL.nil ?_
  refine WC.condT rfl ?_
  refine WC.seq ?_
  refine WC.region ?_
  refine WL.assign (v := I64 (0#64)) rfl rfl ?_
  refine WL.assign (v := .bool (true)) rfl rfl ?_
  refine WL.nil ?_
  refine WC.ret ?_
  exact ⟨_, Res.two (v := I64 (0#64)) (v' := .bool (true)) rfl rfl rfl, rfl, rfl⟩

theorem keeps6 (w : World) : CallsR Tryd.prog 15 #[.int .u8 (6)] w (fun v w' => v = .tuple #[I64 (keepsW 6).1, .bool (keepsW 6).2] ∧ Ext w w') := by
  refine callsR_of Tryd.func15 rfl rfl rfl ?_
  refine WC.seq ?_
  refine WC.region ?_
  refine WL.assign (v := I64 (0#64)) rfl rfl ?_
  refine WL.assign (v := .bool (false)) rfl rfl ?_
  refine WL.nil ?_
  refine WC.seq ?_
  refine WC.region ?_
  refine WL.move (v := .int .u8 (6)) rfl rfl ?_
  refine WL.call ca27 (rfl) rfl (of_row6 _) ?_
  rintro _ wo5 ⟨rfl, e5⟩
  have E1 : Ext w wo5 := Mod.trans (Mod.refl _ _) (e5)
  refine WL.field1 rfl Tryd.underlying41 rfl ag2 rfl rfl rfl ?_
  refine WL.move (v := .int .u8 (6)) rfl rfl ?_
  refine WL.call ca27 (rfl) rfl (of_row6 _) ?_
  rintro _ wo8 ⟨rfl, e8⟩
  have E2 : Ext w wo8 := Mod.trans (E1) (e8)
  refine WL.field1 rfl Tryd.underlying41 rfl ag4 rfl rfl rfl ?_
  refine WL.assign (v := I64 (BitVec.ofInt 64 (1))) rfl rfl ?_
  refine WL.assign (v := .bool (true)) rfl rfl ?_
  refine WL.nil ?_
  refine WC.ret ?_
  exact ⟨_, Res.two (v := I64 (BitVec.ofInt 64 (1))) (v' := .bool (true)) rfl rfl rfl, rfl, E2⟩

theorem rkeeps6 (w : World) : CallsR Tryd.prog 16 #[.int .u8 (6)] w (fun v w' => v = .tuple #[I64 (keepsW 6).1, .bool (keepsW 6).2] ∧ w = w') := by
  refine callsR_of Tryd.func16 rfl rfl rfl ?_
  refine WC.seq ?_
  refine WC.region ?_
  refine WL.assign (v := I64 (0#64)) rfl rfl ?_
  refine WL.assign (v := .bool (false)) rfl rfl ?_
  refine WL.nil ?_
  refine WC.seq ?_
  refine WC.seq ?_
  refine WC.region ?_
  refine WL.move (v := .int .u8 (6)) rfl rfl ?_
  refine WL.nil ?_
  refine WC.block ?_
  refine WC.seq ?_
  refine WC.seq ?_
  refine WC.region ?_
  refine WL.bin rfl rfl rfl (BinR.eql) ?_
  refine WL.assign (v := .bool (false)) rfl rfl ?_
  refine WL.nil ?_
  refine WC.condF rfl ?_
  refine WC.seq ?_
  refine WC.region ?_
  refine WL.bin rfl rfl rfl (BinR.eql) ?_
  refine WL.assign (v := .bool (false)) rfl rfl ?_
  refine WL.nil ?_
  refine WC.condF rfl ?_
  refine WC.seq ?_
  refine WC.region ?_
  refine WL.bin rfl rfl rfl (BinR.eql) ?_
  refine WL.assign (v := .bool (false)) rfl rfl ?_
  refine WL.nil ?_
  refine WC.condF rfl ?_
  refine WC.seq ?_
  refine WC.region ?_
  refine WL.bin rfl rfl rfl (BinR.eql) ?_
  refine WL.assign (v := .bool (false)) rfl rfl ?_
  refine WL.nil ?_
  refine WC.condF rfl ?_
  refine WC.seq ?_
  refine WC.region ?_
  refine WL.bin rfl rfl rfl (BinR.eql) ?_
  refine WL.assign (v := .bool (false)) rfl rfl ?_
  refine WL.nil ?_
  refine WC.condF rfl ?_
  refine WC.seq ?_
  refine WC.region ?_
  refine WL.bin rfl rfl rfl (BinR.eql) ?_
  refine WL.assign (v := .bool (false)) rfl rfl ?_
  refine WL.nil ?_
  refine WC.condF rfl ?_
  refine WC.region ?_
  refine WL.bin rfl rfl rfl (BinR.eql) ?_
  refine WL.assign (v := .bool (false)) rfl rfl ?_
  refine WL.nil ?_
  refine WC.condF rfl ?_
  refine WC.seq ?_
  refine WC.seq ?_
  refine WC.region ?_
  refine WL.bin rfl rfl rfl (BinR.eql) ?_
  refine WL.assign (v := .bool (false)) rfl rfl ?_
  refine WL.nil ?_
  refine WC.condF rfl ?_
  refine WC.seq ?_
  refine WC.region ?_
  refine WL.bin rfl rfl rfl (BinR.eql) ?_
  refine WL.assign (v := .bool (false)) rfl rfl ?_
  refine WL.nil ?_
  refine WC.condF rfl ?_
  refine WC.region ?_
  refine WL.bin rfl rfl rfl (BinR.eql) ?_
  refine WL.assign (v := .bool (true)) rfl rfl ?_
  refine WL.nil ?_
  refine WC.condT rfl ?_
  refine WC.seq ?_
  refine WC.region ?_
  refine WL.assign (v := I64 (1#64)) rfl rfl ?_
  refine WL.assign (v := .bool (true)) rfl rfl ?_
  refine WL.nil ?_
  refine WC.ret ?_
  exact ⟨_, Res.two (v := I64 (1#64)) (v' := .bool (true)) rfl rfl rfl, rfl, rfl⟩

theorem keeps7 (w : World) : CallsR Tryd.prog 15 #[.int .u8 (7)] w (fun v w' => v = .tuple #[I64 (keepsW 7).1, .bool (keepsW 7).2] ∧ Ext w w') := by
  refine callsR_of Tryd.func15 rfl rfl rfl ?_
  refine WC.seq ?_
  refine WC.region ?_
  refine WL.assign (v := I64 (0#64)) rfl rfl ?_
  refine WL.assign (v := .bool (false)) rfl rfl ?_
  refine WL.nil ?_
  refine WC.seq ?_
  refine WC.region ?_
  refine WL.move (v := .int .u8 (7)) rfl rfl ?_
  refine WL.call ca27 (rfl) rfl (of_row7 _) ?_
  rintro _ wo5 ⟨rfl, e5⟩
  have E1 : Ext w wo5 := Mod.trans (Mod.refl _ _) (e5)
  refine WL.field1 rfl Tryd.underlying41 rfl ag2 rfl rfl rfl ?_
  refine WL.move (v := .int .u8 (7)) rfl rfl ?_
  refine WL.call ca27 (rfl) rfl (of_row7 _) ?_
  rintro _ wo8 ⟨rfl, e8⟩
  have E2 : Ext w wo8 := Mod.trans (E1) (e8)
  refine WL.field1 rfl Tryd.underlying41 rfl ag4 rfl rfl rfl ?_
  refine WL.assign (v := I64 (BitVec.ofInt 64 (0))) rfl rfl ?_
  refine WL.assign (v := .bool (true)) rfl rfl ?_
  refine WL.nil ?_
  refine WC.ret ?_
  exact ⟨_, Res.two (v := I64 (BitVec.ofInt 64 (0))) (v' := .bool (true)) rfl rfl rfl, rfl, E2⟩

theorem rkeeps7 (w : World) : CallsR Tryd.prog 16 #[.int .u8 (7)] w (fun v w' => v = .tuple #[I64 (keepsW 7).1, .bool (keepsW 7).2] ∧ w = w') := by
  refine callsR_of Tryd.func16 rfl rfl rfl ?_
  refine WC.seq ?_
  refine WC.region ?_
  refine WL.assign (v := I64 (0#64)) rfl rfl ?_
  refine WL.assign (v := .bool (false)) rfl rfl ?_
  refine WL.nil ?_
  refine WC.seq ?_
  refine WC.seq ?_
  refine WC.region ?_
  refine WL.move (v := .int .u8 (7)) rfl rfl ?_
  refine WL.nil ?_
  refine WC.block ?_
  refine WC.seq ?_
  refine WC.seq ?_
  refine WC.region ?_
  refine WL.bin rfl rfl rfl (BinR.eql) ?_
  refine WL.assign (v := .bool (false)) rfl rfl ?_
  refine WL.nil ?_
  refine WC.condF rfl ?_
  refine WC.seq ?_
  refine WC.region ?_
  refine WL.bin rfl rfl rfl (BinR.eql) ?_
  refine WL.assign (v := .bool (false)) rfl rfl ?_
  refine WL.nil ?_
  refine WC.condF rfl ?_
  refine WC.seq ?_
  refine WC.region ?_
  refine WL.bin rfl rfl rfl (BinR.eql) ?_
  refine WL.assign (v := .bool (false)) rfl rfl ?_
  refine WL.nil ?_
  refine WC.condF rfl ?_
  refine WC.seq ?_
  refine WC.region ?_
  refine WL.bin rfl rfl rfl (BinR.eql) ?_
  refine WL.assign (v := .bool (false)) rfl rfl ?_
  refine WL.nil ?_
  refine WC.condF rfl ?_
  refine WC.seq ?_
  refine WC.region ?_
  refine WL.bin rfl rfl rfl (BinR.eql) ?_
  refine WL.assign (v := .bool (false)) rfl rfl ?_
  refine WL.nil ?_
  refine WC.condF rfl ?_
  refine WC.seq ?_
  refine WC.region ?_
  refine WL.bin rfl rfl rfl (BinR.eql) ?_
  refine WL.assign (v := .bool (false)) rfl rfl ?_
  refine WL.nil ?_
  refine WC.condF rfl ?_
  refine WC.region ?_
  refine WL.bin rfl rfl rfl (BinR.eql) ?_
  refine WL.assign (v := .bool (false)) rfl rfl ?_
  refine WL.nil ?_
  refine WC.condF rfl ?_
  refine WC.seq ?_
  refine WC.seq ?_
  refine WC.region ?_
  refine WL.bin rfl rfl rfl (BinR.eql) ?_
  refine WL.assign (v := .bool (false)) rfl rfl ?_
  refine WL.nil ?_
  refine WC.condF rfl ?_
  refine WC.seq ?_
  refine WC.region ?_
  refine WL.bin rfl rfl rfl (BinR.eql) ?_
  refine WL.assign (v := .bool (false)) rfl rfl ?_
  refine WL.nil ?_
  refine WC.condF rfl ?_
  refine WC.region ?_
  refine WL.bin rfl rfl rfl (BinR.eql) ?_
  refine WL.assign (v := .bool (false)) rfl rfl ?_
  refine WL.nil ?_
  refine WC.condF rfl ?_
  refine WC.seq ?_
  refine WC.region ?_
  refine WL.bin rfl rfl rfl (BinR.eql) ?_
  refine WL.assign (v := .bool (false)) rfl rfl ?_
  refine WL.nil ?_
  refine WC.condF rfl ?_
  refine WC.seq ?_
  refine WC.seq ?_
  refine WC.region ?_
  refine WL.bin rfl rfl rfl (BinR.eql) ?_
  refine WL.assign (v := .bool (true)) rfl rfl ?_
  refine WL.nil ?_
  refine WC.condT rfl ?_
  refine WC.skip ?_
  refine WC.condT rfl ?_
  refine WC.seq ?_
  refine WC.region ?_
  refine WL.assign (v := I64 (0#64)) rfl rfl ?_
  refine WL.assign (v := .bool (true)) rfl rfl ?_
  refine WL.nil ?_
  refine WC.ret ?_
  exact ⟨_, Res.two (v := I64 (0#64)) (v' := .bool (true)) rfl rfl rfl, rfl, rfl⟩

theorem keeps8 (w : World) : CallsR Tryd.prog 15 #[.int .u8 (8)] w (fun v w' => v = .tuple #[I64 (keepsW 8).1, .bool (keepsW 8).2] ∧ Ext w w') := by
  refine callsR_of Tryd.func15 rfl rfl rfl ?_
  refine WC.seq ?_
  refine WC.region ?_
  refine WL.assign (v := I64 (0#64)) rfl rfl ?_
  refine WL.assign (v := .bool (false)) rfl rfl ?_
  refine WL.nil ?_
  refine WC.seq ?_
  refine WC.region ?_
  refine WL.move (v := .int .u8 (8)) rfl rfl ?_
  refine WL.call ca27 (rfl) rfl (of_row8 _) ?_
  rintro _ wo5 ⟨rfl, e5⟩
  have E1 : Ext w wo5 := Mod.trans (Mod.refl _ _) (e5)
  refine WL.field1 rfl Tryd.underlying41 rfl ag2 rfl rfl rfl ?_
  refine WL.move (v := .int .u8 (8)) rfl rfl ?_
  refine WL.call ca27 (rfl) rfl (of_row8 _) ?_
  rintro _ wo8 ⟨rfl, e8⟩
  have E2 : Ext w wo8 := Mod.trans (E1) (e8)
  refine WL.field1 rfl Tryd.underlying41 rfl ag4 rfl rfl rfl ?_
  refine WL.assign (v := I64 (BitVec.ofInt 64 ((-1)))) rfl rfl ?_
  refine WL.assign (v := .bool (true)) rfl rfl ?_
  refine WL.nil ?_
  refine WC.ret ?_
  exact ⟨_, Res.two (v := I64 (BitVec.ofInt 64 ((-1)))) (v' := .bool (true)) rfl rfl rfl, rfl, E2⟩

theorem rkeeps8 (w : World) : CallsR Tryd.prog 16 #[.int .u8 (8)] w (fun v w' => v = .tuple #[I64 (keepsW 8).1, .bool (keepsW 8).2] ∧ w = w') := by
  refine callsR_of Tryd.func16 rfl rfl rfl ?_
  refine WC.seq ?_
  refine WC.region ?_
  refine WL.assign (v := I64 (0#64)) rfl rfl ?_
  refine WL.assign (v := .bool (false)) rfl rfl ?_
  refine WL.nil ?_
  refine WC.seq ?_
  refine WC.seq ?_
  refine WC.region ?_
  refine WL.move (v := .int .u8 (8)) rfl rfl ?_
  refine WL.nil ?_
  refine WC.block ?_
  refine WC.seq ?_
  refine WC.seq ?_
  refine WC.region ?_
  refine WL.bin rfl rfl rfl (BinR.eql) ?_
  refine WL.assign (v := .bool (false)) rfl rfl ?_
  refine WL.nil ?_
  refine WC.condF rfl ?_
  refine WC.seq ?_
  refine WC.region ?_
  refine WL.bin rfl rfl rfl (BinR.eql) ?_
  refine WL.assign (v := .bool (false)) rfl rfl ?_
  refine WL.nil ?_
  refine WC.condF rfl ?_
  refine WC.seq ?_
  refine WC.region ?_
  refine WL.bin rfl rfl rfl (BinR.eql) ?_
  refine WL.assign (v := .bool (false)) rfl rfl ?_
  refine WL.nil ?_
  refine WC.condF rfl ?_
  refine WC.seq ?_
  refine WC.region ?_
  refine WL.bin rfl rfl rfl (BinR.eql) ?_
  refine WL.assign (v := .bool (false)) rfl rfl ?_
  refine WL.nil ?_
  refine WC.condF rfl ?_
  refine WC.seq ?_
  refine WC.region ?_
  refine WL.bin rfl rfl rfl (BinR.eql) ?_
  refine WL.assign (v := .bool (false)) rfl rfl ?_
  refine WL.nil ?_
  refine WC.condF rfl ?_
  refine WC.seq ?_
  refine WC.region ?_
  refine WL.bin rfl rfl rfl (BinR.eql) ?_
  refine WL.assign (v := .bool (false)) rfl rfl ?_
  refine WL.nil ?_
  refine WC.condF rfl ?_
  refine WC.region ?_
  refine WL.bin rfl rfl rfl (BinR.eql) ?_
  refine WL.assign (v := .bool (false)) rfl rfl ?_
  refine WL.nil ?_
  refine WC.condF rfl ?_
  refine WC.seq ?_
  refine WC.seq ?_
  refine WC.region ?_
  refine WL.bin rfl rfl rfl (BinR.eql) ?_
  refine WL.assign (v := .bool (false)) rfl rfl ?_
  refine WL.nil ?_
  refine WC.condF rfl ?_
  refine WC.seq ?_
  refine WC.region ?_
  refine WL.bin rfl rfl rfl (BinR.eql) ?_
  refine WL.assign (v := .bool (false)) rfl rfl ?_
  refine WL.nil ?_
  refine WC.condF rfl ?_
  refine WC.region ?_
  refine WL.bin rfl rfl rfl (BinR.eql) ?_
  refine WL.assign (v := .bool (false)) rfl rfl ?_
  refine WL.nil ?_
  refine WC.condF rfl ?_
  refine WC.seq ?_
  refine WC.region ?_
  refine WL.bin rfl rfl rfl (BinR.eql) ?_
  refine WL.assign (v := .bool (true)) rfl rfl ?_
  refine WL.nil ?_
  refine WC.condT rfl ?_
  refine WC.seq ?_
  refine WC.region ?_
  refine WL.assign (v := I64 (BitVec.ofInt 64 (-1))) (cI64 _ (by decide)) rfl ?_
  refine WL.assign (v := .bool (true)) rfl rfl ?_
  refine WL.nil ?_
  refine WC.ret ?_
  exact ⟨_, Res.two (v := I64 (BitVec.ofInt 64 (-1))) (v' := .bool (true)) rfl rfl rfl, rfl, rfl⟩

theorem keeps9 (w : World) : CallsR Tryd.prog 15 #[.int .u8 (9)] w (fun v w' => v = .tuple #[I64 (keepsW 9).1, .bool (keepsW 9).2] ∧ Ext w w') := by
  refine callsR_of Tryd.func15 rfl rfl rfl ?_
  refine WC.seq ?_
  refine WC.region ?_
  refine WL.assign (v := I64 (0#64)) rfl rfl ?_
  refine WL.assign (v := .bool (false)) rfl rfl ?_
  refine WL.nil ?_
  refine WC.seq ?_
  refine WC.region ?_
  refine WL.move (v := .int .u8 (9)) rfl rfl ?_
  refine WL.call ca27 (rfl) rfl (of_row9 _) ?_
  rintro _ wo5 ⟨rfl, e5⟩
  have E1 : Ext w wo5 := Mod.trans (Mod.refl _ _) (e5)
  refine WL.field1 rfl Tryd.underlying41 rfl ag2 rfl rfl rfl ?_
  refine WL.move (v := .int .u8 (9)) rfl rfl ?_
  refine WL.call ca27 (rfl) rfl (of_row9 _) ?_
  rintro _ wo8 ⟨rfl, e8⟩
  have E2 : Ext w wo8 := Mod.trans (E1) (e8)
  refine WL.field1 rfl Tryd.underlying41 rfl ag4 rfl rfl rfl ?_
  refine WL.assign (v := I64 (BitVec.ofInt 64 (0))) rfl rfl ?_
  refine WL.assign (v := .bool (true)) rfl rfl ?_
  refine WL.nil ?_
  refine WC.ret ?_
  exact ⟨_, Res.two (v := I64 (BitVec.ofInt 64 (0))) (v' := .bool (true)) rfl rfl rfl, rfl, E2⟩

theorem rkeeps9 (w : World) : CallsR Tryd.prog 16 #[.int .u8 (9)] w (fun v w' => v = .tuple #[I64 (keepsW 9).1, .bool (keepsW 9).2] ∧ w = w') := by
  refine callsR_of Tryd.func16 rfl rfl rfl ?_
  refine WC.seq ?_
  refine WC.region ?_
  refine WL.assign (v := I64 (0#64)) rfl rfl ?_
  refine WL.assign (v := .bool (false)) rfl rfl ?_
  refine WL.nil ?_
  refine WC.seq ?_
  refine WC.seq ?_
  refine WC.region ?_
  refine WL.move (v := .int .u8 (9)) rfl rfl ?_
  refine WL.nil ?_
  refine WC.block ?_
  refine WC.seq ?_
  refine WC.seq ?_
  refine WC.region ?_
  refine WL.bin rfl rfl rfl (BinR.eql) ?_
  refine WL.assign (v := .bool (false)) rfl rfl ?_
  refine WL.nil ?_
  refine WC.condF rfl ?_
  refine WC.seq ?_
  refine WC.region ?_
  refine WL.bin rfl rfl rfl (BinR.eql) ?_
  refine WL.assign (v := .bool (false)) rfl rfl ?_
  refine WL.nil ?_
  refine WC.condF rfl ?_
  refine WC.seq ?_
  refine WC.region ?_
  refine WL.bin rfl rfl rfl (BinR.eql) ?_
  refine WL.assign (v := .bool (true)) rfl rfl ?_
  refine WL.nil ?_
  refine WC.condT rfl ?_
  refine WC.skip ?_
  refine WC.condT rfl ?_
  refine WC.seq ?_
  refine WC.region ?_
  refine WL.assign (v := I64 (0#64)) rfl rfl ?_
  refine WL.assign (v := .bool (true)) rfl rfl ?_
  refine WL.nil ?_
  refine WC.ret ?_
  exact ⟨_, Res.two (v := I64 (0#64)) (v' := .bool (true)) rfl rfl rfl, rfl, rfl⟩

theorem keeps10 (w : World) : CallsR Tryd.prog 15 #[.int .u8 (10)] w (fun v w' => v = .tuple #[I64 (keepsW 10).1, .bool (keepsW 10).2] ∧ Ext w w') := by
  refine callsR_of Tryd.func15 rfl rfl rfl ?_
  refine WC.seq ?_
  refine WC.region ?_
  refine WL.assign (v := I64 (0#64)) rfl rfl ?_
  refine WL.assign (v := .bool (false)) rfl rfl ?_
  refine WL.nil ?_
  refine WC.seq ?_
  refine WC.region ?_
  refine WL.move (v := .int .u8 (10)) rfl rfl ?_
  refine WL.call ca27 (rfl) rfl (of_row10 _) ?_
  rintro _ wo5 ⟨rfl, e5⟩
  have E1 : Ext w wo5 := Mod.trans (Mod.refl _ _) (e5)
  refine WL.field1 rfl Tryd.underlying41 rfl ag2 rfl rfl rfl ?_
  refine WL.move (v := .int .u8 (10)) rfl rfl ?_
  refine WL.call ca27 (rfl) rfl (of_row10 _) ?_
  rintro _ wo8 ⟨rfl, e8⟩
  have E2 : Ext w wo8 := Mod.trans (E1) (e8)
  refine WL.field1 rfl Tryd.underlying41 rfl ag4 rfl rfl rfl ?_
  refine WL.assign (v := I64 (BitVec.ofInt 64 (0))) rfl rfl ?_
  refine WL.assign (v := .bool (true)) rfl rfl ?_
  refine WL.nil ?_
  refine WC.ret ?_
  exact ⟨_, Res.two (v := I64 (BitVec.ofInt 64 (0))) (v' := .bool (true)) rfl rfl rfl, rfl, E2⟩

theorem rkeeps10 (w : World) : CallsR Tryd.prog 16 #[.int .u8 (10)] w (fun v w' => v = .tuple #[I64 (keepsW 10).1, .bool (keepsW 10).2] ∧ w = w') := by
  refine callsR_of Tryd.func16 rfl rfl rfl ?_
  refine WC.seq ?_
  refine WC.region ?_
  refine WL.assign (v := I64 (0#64)) rfl rfl ?_
  refine WL.assign (v := .bool (false)) rfl rfl ?_
  refine WL.nil ?_
  refine WC.seq ?_
  refine WC.seq ?_
  refine WC.region ?_
  refine WL.move (v := .int .u8 (10)) rfl rfl ?_
  refine WL.nil ?_
  refine WC.block ?_
  refine WC.seq ?_
  refine WC.seq ?_
  refine WC.region ?_
  refine WL.bin rfl rfl rfl (BinR.eql) ?_
  refine WL.assign (v := .bool (false)) rfl rfl ?_
  refine WL.nil ?_
  refine WC.condF rfl ?_
  refine WC.seq ?_
  refine WC.region ?_
  refine WL.bin rfl rfl rfl (BinR.eql) ?_
  refine WL.assign (v := .bool (false)) rfl rfl ?_
  refine WL.nil ?_
  refine WC.condF rfl ?_
  refine WC.seq ?_
  refine WC.region ?_
  refine WL.bin rfl rfl rfl (BinR.eql) ?_
  refine WL.assign (v := .bool (false)) rfl rfl ?_
  refine WL.nil ?_
  refine WC.condF rfl ?_
  refine WC.seq ?_
  refine WC.region ?_
  refine WL.bin rfl rfl rfl (BinR.eql) ?_
  refine WL.assign (v := .bool (true)) rfl rfl ?_
  refine WL.nil ?_
  refine WC.condT rfl ?_
  refine WC.skip ?_
  refine WC.condT rfl ?_
  refine WC.seq ?_
  refine WC.region ?_
  refine WL.assign (v := I64 (0#64)) rfl rfl ?_
  refine WL.assign (v := .bool (true)) rfl rfl ?_
  refine WL.nil ?_
  refine WC.ret ?_
  exact ⟨_, Res.two (v := I64 (0#64)) (v' := .bool (true)) rfl rfl rfl, rfl, rfl⟩

theorem keeps11 (w : World) : CallsR Tryd.prog 15 #[.int .u8 (11)] w (fun v w' => v = .tuple #[I64 (keepsW 11).1, .bool (keepsW 11).2] ∧ Ext w w') := by
  refine callsR_of Tryd.func15 rfl rfl rfl ?_
  refine WC.seq ?_
  refine WC.region ?_
  refine WL.assign (v := I64 (0#64)) rfl rfl ?_
  refine WL.assign (v := .bool (false)) rfl rfl ?_
  refine WL.nil ?_
  refine WC.seq ?_
  refine WC.region ?_
  refine WL.move (v := .int .u8 (11)) rfl rfl ?_
  refine WL.call ca27 (rfl) rfl (of_row11 _) ?_
  rintro _ wo5 ⟨rfl, e5⟩
  have E1 : Ext w wo5 := Mod.trans (Mod.refl _ _) (e5)
  refine WL.field1 rfl Tryd.underlying41 rfl ag2 rfl rfl rfl ?_
  refine WL.move (v := .int .u8 (11)) rfl rfl ?_
  refine WL.call ca27 (rfl) rfl (of_row11 _) ?_
  rintro _ wo8 ⟨rfl, e8⟩
  have E2 : Ext w wo8 := Mod.trans (E1) (e8)
  refine WL.field1 rfl Tryd.underlying41 rfl ag4 rfl rfl rfl ?_
  refine WL.assign (v := I64 (BitVec.ofInt 64 (0))) rfl rfl ?_
  refine WL.assign (v := .bool (true)) rfl rfl ?_
  refine WL.nil ?_
  refine WC.ret ?_
  exact ⟨_, Res.two (v := I64 (BitVec.ofInt 64 (0))) (v' := .bool (true)) rfl rfl rfl, rfl, E2⟩

theorem rkeeps11 (w : World) : CallsR Tryd.prog 16 #[.int .u8 (11)] w (fun v w' => v = .tuple #[I64 (keepsW 11).1, .bool (keepsW 11).2] ∧ w = w') := by
  refine callsR_of Tryd.func16 rfl rfl rfl ?_
  refine WC.seq ?_
  refine WC.region ?_
  refine WL.assign (v := I64 (0#64)) rfl rfl ?_
  refine WL.assign (v := .bool (false)) rfl rfl ?_
  refine WL.nil ?_
  refine WC.seq ?_
  refine WC.seq ?_
  refine WC.region ?_
  refine WL.move (v := .int .u8 (11)) rfl rfl ?_
  refine WL.nil ?_
  refine WC.block ?_
  refine WC.seq ?_
  refine WC.seq ?_
  refine WC.region ?_
  refine WL.bin rfl rfl rfl (BinR.eql) ?_
  refine WL.assign (v := .bool (false)) rfl rfl ?_
  refine WL.nil ?_
  refine WC.condF rfl ?_
  refine WC.seq ?_
  refine WC.region ?_
  refine WL.bin rfl rfl rfl (BinR.eql) ?_
  refine WL.assign (v := .bool (false)) rfl rfl ?_
  refine WL.nil ?_
  refine WC.condF rfl ?_
  refine WC.seq ?_
  refine WC.region ?_
  refine WL.bin rfl rfl rfl (BinR.eql) ?_
  refine WL.assign (v := .bool (false)) rfl rfl ?_
  refine WL.nil ?_
  refine WC.condF rfl ?_
  refine WC.seq ?_
  refine WC.region ?_
  refine WL.bin rfl rfl rfl (BinR.eql) ?_
  refine WL.assign (v := .bool (false)) rfl rfl ?_
  refine WL.nil ?_
  refine WC.condF rfl ?_
  refine WC.seq ?_
  refine WC.region ?_
  refine WL.bin rfl rfl rfl (BinR.eql) ?_
  refine WL.assign (v := .bool (true)) rfl rfl ?_
  refine WL.nil ?_
  refine WC.condT rfl ?_
  refine WC.skip ?_
  refine WC.condT rfl ?_
  refine WC.seq ?_
  refine WC.region ?_
  refine WL.assign (v := I64 (0#64)) rfl rfl ?_
  refine WL.assign (v := .bool (true)) rfl rfl ?_
  refine WL.nil ?_
  refine WC.ret ?_
  exact ⟨_, Res.two (v := I64 (0#64)) (v' := .bool (true)) rfl rfl rfl, rfl, rfl⟩

theorem keeps12 (w : World) : CallsR Tryd.prog 15 #[.int .u8 (12)] w (fun v w' => v = .tuple #[I64 (keepsW 12).1, .bool (keepsW 12).2] ∧ Ext w w') := by
  refine callsR_of Tryd.func15 rfl rfl rfl ?_
  refine WC.seq ?_
  refine WC.region ?_
  refine WL.assign (v := I64 (0#64)) rfl rfl ?_
  refine WL.assign (v := .bool (false)) rfl rfl ?_
  refine WL.nil ?_
  refine WC.seq ?_
  refine WC.region ?_
  refine WL.move (v := .int .u8 (12)) rfl rfl ?_
  refine WL.call ca27 (rfl) rfl (of_row12 _) ?_
  rintro _ wo5 ⟨rfl, e5⟩
  have E1 : Ext w wo5 := Mod.trans (Mod.refl _ _) (e5)
  refine WL.field1 rfl Tryd.underlying41 rfl ag2 rfl rfl rfl ?_
  refine WL.move (v := .int .u8 (12)) rfl rfl ?_
  refine WL.call ca27 (rfl) rfl (of_row12 _) ?_
  rintro _ wo8 ⟨rfl, e8⟩
  have E2 : Ext w wo8 := Mod.trans (E1) (e8)
  refine WL.field1 rfl Tryd.underlying41 rfl ag4 rfl rfl rfl ?_
  refine WL.assign (v := I64 (BitVec.ofInt 64 (0))) rfl rfl ?_
  refine WL.assign (v := .bool (true)) rfl rfl ?_
  refine WL.nil ?_
  refine WC.ret ?_
  exact ⟨_, Res.two (v := I64 (BitVec.ofInt 64 (0))) (v' := .bool (true)) rfl rfl rfl, rfl, E2⟩

theorem rkeeps12 (w : World) : CallsR Tryd.prog 16 #[.int .u8 (12)] w (fun v w' => v = .tuple #[I64 (keepsW 12).1, .bool (keepsW 12).2] ∧ w = w') := by
  refine callsR_of Tryd.func16 rfl rfl rfl ?_
  refine WC.seq ?_
  refine WC.region ?_
  refine WL.assign (v := I64 (0#64)) rfl rfl ?_
  refine WL.assign (v := .bool (false)) rfl rfl ?_
  refine WL.nil ?_
  refine WC.seq ?_
  refine WC.seq ?_
  refine WC.region ?_
  refine WL.move (v := .int .u8 (12)) rfl rfl ?_
  refine WL.nil ?_
  refine WC.block ?_
  refine WC.seq ?_
  refine WC.seq ?_
  refine WC.region ?_
  refine WL.bin rfl rfl rfl (BinR.eql) ?_
  refine WL.assign (v := .bool (false)) rfl rfl ?_
  refine WL.nil ?_
  refine WC.condF rfl ?_
  refine WC.seq ?_
  refine WC.region ?_
  refine WL.bin rfl rfl rfl (BinR.eql) ?_
  refine WL.assign (v := .bool (false)) rfl rfl ?_
  refine WL.nil ?_
  refine WC.condF rfl ?_
  refine WC.seq ?_
  refine WC.region ?_
  refine WL.bin rfl rfl rfl (BinR.eql) ?_
  refine WL.assign (v := .bool (false)) rfl rfl ?_
  refine WL.nil ?_
  refine WC.condF rfl ?_
  refine WC.seq ?_
  refine WC.region ?_
  refine WL.bin rfl rfl rfl (BinR.eql) ?_
  refine WL.assign (v := .bool (false)) rfl rfl ?_
  refine WL.nil ?_
  refine WC.condF rfl ?_
  refine WC.seq ?_
  refine WC.region ?_
  refine WL.bin rfl rfl rfl (BinR.eql) ?_
  refine WL.assign (v := .bool (false)) rfl rfl ?_
  refine WL.nil ?_
  refine WC.condF rfl ?_
  refine WC.seq ?_
  refine WC.region ?_
  refine WL.bin rfl rfl rfl (BinR.eql) ?_
  refine WL.assign (v := .bool (true)) rfl rfl ?_
  refine WL.nil ?_
  refine WC.condT rfl ?_
  refine WC.skip ?_
  refine WC.condT rfl ?_
  refine WC.seq ?_
  refine WC.region ?_
  refine WL.assign (v := I64 (0#64)) rfl rfl ?_
  refine WL.assign (v := .bool (true)) rfl rfl ?_
  refine WL.nil ?_
  refine WC.ret ?_
  exact ⟨_, Res.two (v := I64 (0#64)) (v' := .bool (true)) rfl rfl rfl, rfl, rfl⟩

theorem keeps13 (w : World) : CallsR Tryd.prog 15 #[.int .u8 (13)] w (fun v w' => v = .tuple #[I64 (keepsW 13).1, .bool (keepsW 13).2] ∧ Ext w w') := by
  refine callsR_of Tryd.func15 rfl rfl rfl ?_
  refine WC.seq ?_
  refine WC.region ?_
  refine WL.assign (v := I64 (0#64)) rfl rfl ?_
  refine WL.assign (v := .bool (false)) rfl rfl ?_
  refine WL.nil ?_
  refine WC.seq ?_
  refine WC.region ?_
  refine WL.move (v := .int .u8 (13)) rfl rfl ?_
  refine WL.call ca27 (rfl) rfl (of_row13 _) ?_
  rintro _ wo5 ⟨rfl, e5⟩
  have E1 : Ext w wo5 := Mod.trans (Mod.refl _ _) (e5)
  refine WL.field1 rfl Tryd.underlying41 rfl ag2 rfl rfl rfl ?_
  refine WL.move (v := .int .u8 (13)) rfl rfl ?_
  refine WL.call ca27 (rfl) rfl (of_row13 _) ?_
  rintro _ wo8 ⟨rfl, e8⟩
  have E2 : Ext w wo8 := Mod.trans (E1) (e8)
  refine WL.field1 rfl Tryd.underlying41 rfl ag4 rfl rfl rfl ?_
  refine WL.assign (v := I64 (BitVec.ofInt 64 (0))) rfl rfl ?_
  refine WL.assign (v := .bool (true)) rfl rfl ?_
  refine WL.nil ?_
  refine WC.ret ?_
  exact ⟨_, Res.two (v := I64 (BitVec.ofInt 64 (0))) (v' := .bool (true)) rfl rfl rfl, rfl, E2⟩

theorem rkeeps13 (w : World) : CallsR Tryd.prog 16 #[.int .u8 (13)] w (fun v w' => v = .tuple #[I64 (keepsW 13).1, .bool (keepsW 13).2] ∧ w = w') := by
  refine callsR_of Tryd.func16 rfl rfl rfl ?_
  refine WC.seq ?_
  refine WC.region ?_
  refine WL.assign (v := I64 (0#64)) rfl rfl ?_
  refine WL.assign (v := .bool (false)) rfl rfl ?_
  refine WL.nil ?_
  refine WC.seq ?_
  refine WC.seq ?_
  refine WC.region ?_
  refine WL.move (v := .int .u8 (13)) rfl rfl ?_
  refine WL.nil ?_
  refine WC.block ?_
  refine WC.seq ?_
  refine WC.seq ?_
  refine WC.region ?_
  refine WL.bin rfl rfl rfl (BinR.eql) ?_
  refine WL.assign (v := .bool (false)) rfl rfl ?_
  refine WL.nil ?_
  refine WC.condF rfl ?_
  refine WC.seq ?_
  refine WC.region ?_
  refine WL.bin rfl rfl rfl (BinR.eql) ?_
  refine WL.assign (v := .bool (false)) rfl rfl ?_
  refine WL.nil ?_
  refine WC.condF rfl ?_
  refine WC.seq ?_
  refine WC.region ?_
  refine WL.bin rfl rfl rfl (BinR.eql) ?_
  refine WL.assign (v := .bool (false)) rfl rfl ?_
  refine WL.nil ?_
  refine WC.condF rfl ?_
  refine WC.seq ?_
  refine WC.region ?_
  refine WL.bin rfl rfl rfl (BinR.eql) ?_
  refine WL.assign (v := .bool (false)) rfl rfl ?_
  refine WL.nil ?_
  refine WC.condF rfl ?_
  refine WC.seq ?_
  refine WC.region ?_
  refine WL.bin rfl rfl rfl (BinR.eql) ?_
  refine WL.assign (v := .bool (false)) rfl rfl ?_
  refine WL.nil ?_
  refine WC.condF rfl ?_
  refine WC.seq ?_
  refine WC.region ?_
  refine WL.bin rfl rfl rfl (BinR.eql) ?_
  refine WL.assign (v := .bool (false)) rfl rfl ?_
  refine WL.nil ?_
  refine WC.condF rfl ?_
  refine WC.region ?_
  refine WL.bin rfl rfl rfl (BinR.eql) ?_
  refine WL.assign (v := .bool (true)) rfl rfl ?_
  refine WL.nil ?_
  refine WC.condT rfl ?_
  refine WC.seq ?_
  refine WC.region ?_
  refine WL.assign (v := I64 (0#64)) rfl rfl ?_
  refine WL.assign (v := .bool (true)) rfl rfl ?_
  refine WL.nil ?_
  refine WC.ret ?_
  exact ⟨_, Res.two (v := I64 (0#64)) (v' := .bool (true)) rfl rfl rfl, rfl, rfl⟩

theorem keeps14 (w : World) : CallsR Tryd.prog 15 #[.int .u8 (14)] w (fun v w' => v = .tuple #[I64 (keepsW 14).1, .bool (keepsW 14).2] ∧ Ext w w') := by
  refine callsR_of Tryd.func15 rfl rfl rfl ?_
  refine WC.seq ?_
  refine WC.region ?_
  refine WL.assign (v := I64 (0#64)) rfl rfl ?_
  refine WL.assign (v := .bool (false)) rfl rfl ?_
  refine WL.nil ?_
  refine WC.seq ?_
  refine WC.region ?_
  refine WL.move (v := .int .u8 (14)) rfl rfl ?_
  refine WL.call ca27 (rfl) rfl (of_row14 _) ?_
  rintro _ wo5 ⟨rfl, e5⟩
  have E1 : Ext w wo5 := Mod.trans (Mod.refl _ _) (e5)
  refine WL.field1 rfl Tryd.underlying41 rfl ag2 rfl rfl rfl ?_
  refine WL.move (v := .int .u8 (14)) rfl rfl ?_
  refine WL.call ca27 (rfl) rfl (of_row14 _) ?_
  rintro _ wo8 ⟨rfl, e8⟩
  have E2 : Ext w wo8 := Mod.trans (E1) (e8)
  refine WL.field1 rfl Tryd.underlying41 rfl ag4 rfl rfl rfl ?_
  refine WL.assign (v := I64 (BitVec.ofInt 64 (0))) rfl rfl ?_
  refine WL.assign (v := .bool (false)) rfl rfl ?_
  refine WL.nil ?_
  refine WC.ret ?_
  exact ⟨_, Res.two (v := I64 (BitVec.ofInt 64 (0))) (v' := .bool (false)) rfl rfl rfl, rfl, E2⟩

theorem rkeeps14 (w : World) : CallsR Tryd.prog 16 #[.int .u8 (14)] w (fun v w' => v = .tuple #[I64 (keepsW 14).1, .bool (keepsW 14).2] ∧ w = w') := by
  refine callsR_of Tryd.func16 rfl rfl rfl ?_
  refine WC.seq ?_
  refine WC.region ?_
  refine WL.assign (v := I64 (0#64)) rfl rfl ?_
  refine WL.assign (v := .bool (false)) rfl rfl ?_
  refine WL.nil ?_
  refine WC.seq ?_
  refine WC.seq ?_
  refine WC.region ?_
  refine WL.move (v := .int .u8 (14)) rfl rfl ?_
  refine WL.nil ?_
  refine WC.block ?_
  refine WC.seq ?_
  refine WC.seq ?_
  refine WC.region ?_
  refine WL.bin rfl rfl rfl (BinR.eql) ?_
  refine WL.assign (v := .bool (false)) rfl rfl ?_
  refine WL.nil ?_
  refine WC.condF rfl ?_
  refine WC.seq ?_
  refine WC.region ?_
  refine WL.bin rfl rfl rfl (BinR.eql) ?_
  refine WL.assign (v := .bool (false)) rfl rfl ?_
  refine WL.nil ?_
  refine WC.condF rfl ?_
  refine WC.seq ?_
  refine WC.region ?_
  refine WL.bin rfl rfl rfl (BinR.eql) ?_
  refine WL.assign (v := .bool (false)) rfl rfl ?_
  refine WL.nil ?_
  refine WC.condF rfl ?_
  refine WC.seq ?_
  refine WC.region ?_
  refine WL.bin rfl rfl rfl (BinR.eql) ?_
  refine WL.assign (v := .bool (false)) rfl rfl ?_
  refine WL.nil ?_
  refine WC.condF rfl ?_
  refine WC.seq ?_
  refine WC.region ?_
  refine WL.bin rfl rfl rfl (BinR.eql) ?_
  refine WL.assign (v := .bool (false)) rfl rfl ?_
  refine WL.nil ?_
  refine WC.condF rfl ?_
  refine WC.seq ?_
  refine WC.region ?_
  refine WL.bin rfl rfl rfl (BinR.eql) ?_
  refine WL.assign (v := .bool (false)) rfl rfl ?_
  refine WL.nil ?_
  refine WC.condF rfl ?_
  refine WC.region ?_
  refine WL.bin rfl rfl rfl (BinR.eql) ?_
  refine WL.assign (v := .bool (false)) rfl rfl ?_
  refine WL.nil ?_
  refine WC.condF rfl ?_
  refine WC.seq ?_
  refine WC.seq ?_
  refine WC.region ?_
  refine WL.bin rfl rfl rfl (BinR.eql) ?_
  refine WL.assign (v := .bool (false)) rfl rfl ?_
  refine WL.nil ?_
  refine WC.condF rfl ?_
  refine WC.seq ?_
  refine WC.region ?_
  refine WL.bin rfl rfl rfl (BinR.eql) ?_
  refine WL.assign (v := .bool (false)) rfl rfl ?_
  refine WL.nil ?_
  refine WC.condF rfl ?_
  refine WC.region ?_
  refine WL.bin rfl rfl rfl (BinR.eql) ?_
  refine WL.assign (v := .bool (false)) rfl rfl ?_
  refine WL.nil ?_
  refine WC.condF rfl ?_
  refine WC.seq ?_
  refine WC.region ?_
  refine WL.bin rfl rfl rfl (BinR.eql) ?_
  refine WL.assign (v := .bool (false)) rfl rfl ?_
  refine WL.nil ?_
  refine WC.condF rfl ?_
  refine WC.seq ?_
  refine WC.seq ?_
  refine WC.region ?_
  refine WL.bin rfl rfl rfl (BinR.eql) ?_
  refine WL.assign (v := .bool (false)) rfl rfl ?_
  refine WL.nil ?_
  refine WC.condF rfl ?_
  refine WC.region ?_
  refine WL.bin rfl rfl rfl (BinR.eql) ?_
  refine WL.assign (v := .bool (false)) rfl rfl ?_
  refine WL.nil ?_
  refine WC.condF rfl ?_
  refine WC.skip ?_
  refine WC.seq ?_
  refine WC.region ?_
  refine WL.assign (v := I64 (0#64)) rfl rfl ?_
  refine WL.assign (v := .bool (false)) rfl rfl ?_
  refine WL.nil ?_
  refine WC.ret ?_
  exact ⟨_, Res.two (v := I64 (0#64)) (v' := .bool (false)) rfl rfl rfl, rfl, rfl⟩

theorem keeps15 (w : World) : CallsR Tryd.prog 15 #[.int .u8 (15)] w (fun v w' => v = .tuple #[I64 (keepsW 15).1, .bool (keepsW 15).2] ∧ Ext w w') := by
  refine callsR_of Tryd.func15 rfl rfl rfl ?_
  refine WC.seq ?_
  refine WC.region ?_
  refine WL.assign (v := I64 (0#64)) rfl rfl ?_
  refine WL.assign (v := .bool (false)) rfl rfl ?_
  refine WL.nil ?_
  refine WC.seq ?_
  refine WC.region ?_
  refine WL.move (v := .int .u8 (15)) rfl rfl ?_
  refine WL.call ca27 (rfl) rfl (of_row15 _) ?_
  rintro _ wo5 ⟨rfl, e5⟩
  have E1 : Ext w wo5 := Mod.trans (Mod.refl _ _) (e5)
  refine WL.field1 rfl Tryd.underlying41 rfl ag2 rfl rfl rfl ?_
  refine WL.move (v := .int .u8 (15)) rfl rfl ?_
  refine WL.call ca27 (rfl) rfl (of_row15 _) ?_
  rintro _ wo8 ⟨rfl, e8⟩
  have E2 : Ext w wo8 := Mod.trans (E1) (e8)
  refine WL.field1 rfl Tryd.underlying41 rfl ag4 rfl rfl rfl ?_
  refine WL.assign (v := I64 (BitVec.ofInt 64 (0))) rfl rfl ?_
  refine WL.assign (v := .bool (false)) rfl rfl ?_
  refine WL.nil ?_
  refine WC.ret ?_
  exact ⟨_, Res.two (v := I64 (BitVec.ofInt 64 (0))) (v' := .bool (false)) rfl rfl rfl, rfl, E2⟩

theorem rkeeps15 (w : World) : CallsR Tryd.prog 16 #[.int .u8 (15)] w (fun v w' => v = .tuple #[I64 (keepsW 15).1, .bool (keepsW 15).2] ∧ w = w') := by
  refine callsR_of Tryd.func16 rfl rfl rfl ?_
  refine WC.seq ?_
  refine WC.region ?_
  refine WL.assign (v := I64 (0#64)) rfl rfl ?_
  refine WL.assign (v := .bool (false)) rfl rfl ?_
  refine WL.nil ?_
  refine WC.seq ?_
  refine WC.seq ?_
  refine WC.region ?_
  refine WL.move (v := .int .u8 (15)) rfl rfl ?_
  refine WL.nil ?_
  refine WC.block ?_
  refine WC.seq ?_
  refine WC.seq ?_
  refine WC.region ?_
  refine WL.bin rfl rfl rfl (BinR.eql) ?_
  refine WL.assign (v := .bool (false)) rfl rfl ?_
  refine WL.nil ?_
  refine WC.condF rfl ?_
  refine WC.seq ?_
  refine WC.region ?_
  refine WL.bin rfl rfl rfl (BinR.eql) ?_
  refine WL.assign (v := .bool (false)) rfl rfl ?_
  refine WL.nil ?_
  refine WC.condF rfl ?_
  refine WC.seq ?_
  refine WC.region ?_
  refine WL.bin rfl rfl rfl (BinR.eql) ?_
  refine WL.assign (v := .bool (false)) rfl rfl ?_
  refine WL.nil ?_
  refine WC.condF rfl ?_
  refine WC.seq ?_
  refine WC.region ?_
  refine WL.bin rfl rfl rfl (BinR.eql) ?_
  refine WL.assign (v := .bool (false)) rfl rfl ?_
  refine WL.nil ?_
  refine WC.condF rfl ?_
  refine WC.seq ?_
  refine WC.region ?_
  refine WL.bin rfl rfl rfl (BinR.eql) ?_
  refine WL.assign (v := .bool (false)) rfl rfl ?_
  refine WL.nil ?_
  refine WC.condF rfl ?_
  refine WC.seq ?_
  refine WC.region ?_
  refine WL.bin rfl rfl rfl (BinR.eql) ?_
  refine WL.assign (v := .bool (false)) rfl rfl ?_
  refine WL.nil ?_
  refine WC.condF rfl ?_
  refine WC.region ?_
  refine WL.bin rfl rfl rfl (BinR.eql) ?_
  refine WL.assign (v := .bool (false)) rfl rfl ?_
  refine WL.nil ?_
  refine WC.condF rfl ?_
  refine WC.seq ?_
  refine WC.seq ?_
  refine WC.region ?_
  refine WL.bin rfl rfl rfl (BinR.eql) ?_
  refine WL.assign (v := .bool (false)) rfl rfl ?_
  refine WL.nil ?_
  refine WC.condF rfl ?_
  refine WC.seq ?_
  refine WC.region ?_
  refine WL.bin rfl rfl rfl (BinR.eql) ?_
  refine WL.assign (v := .bool (false)) rfl rfl ?_
  refine WL.nil ?_
  refine WC.condF rfl ?_
  refine WC.region ?_
  refine WL.bin rfl rfl rfl (BinR.eql) ?_
  refine WL.assign (v := .bool (false)) rfl rfl ?_
  refine WL.nil ?_
  refine WC.condF rfl ?_
  refine WC.seq ?_
  refine WC.region ?_
  refine WL.bin rfl rfl rfl (BinR.eql) ?_
  refine WL.assign (v := .bool (false)) rfl rfl ?_
  refine WL.nil ?_
  refine WC.condF rfl ?_
  refine WC.seq ?_
  refine WC.seq ?_
  refine WC.region ?_
  refine WL.bin rfl rfl rfl (BinR.eql) ?_
  refine WL.assign (v := .bool (false)) rfl rfl ?_
  refine WL.nil ?_
  refine WC.condF rfl ?_
  refine WC.region ?_
  refine WL.bin rfl rfl rfl (BinR.eql) ?_
  refine WL.assign (v := .bool (false)) rfl rfl ?_
  refine WL.nil ?_
  refine WC.condF rfl ?_
  refine WC.skip ?_
  refine WC.seq ?_
  refine WC.region ?_
  refine WL.assign (v := I64 (0#64)) rfl rfl ?_
  refine WL.assign (v := .bool (false)) rfl rfl ?_
  refine WL.nil ?_
  refine WC.ret ?_
  exact ⟨_, Res.two (v := I64 (0#64)) (v' := .bool (false)) rfl rfl rfl, rfl, rfl⟩

theorem keeps16 (w : World) : CallsR Tryd.prog 15 #[.int .u8 (16)] w (fun v w' => v = .tuple #[I64 (keepsW 16).1, .bool (keepsW 16).2] ∧ Ext w w') := by
  refine callsR_of Tryd.func15 rfl rfl rfl ?_
  refine WC.seq ?_
  refine WC.region ?_
  refine WL.assign (v := I64 (0#64)) rfl rfl ?_
  refine WL.assign (v := .bool (false)) rfl rfl ?_
  refine WL.nil ?_
  refine WC.seq ?_
  refine WC.region ?_
  refine WL.move (v := .int .u8 (16)) rfl rfl ?_
  refine WL.call ca27 (rfl) rfl (of_row16 _) ?_
  rintro _ wo5 ⟨rfl, e5⟩
  have E1 : Ext w wo5 := Mod.trans (Mod.refl _ _) (e5)
  refine WL.field1 rfl Tryd.underlying41 rfl ag2 rfl rfl rfl ?_
  refine WL.move (v := .int .u8 (16)) rfl rfl ?_
  refine WL.call ca27 (rfl) rfl (of_row16 _) ?_
  rintro _ wo8 ⟨rfl, e8⟩
  have E2 : Ext w wo8 := Mod.trans (E1) (e8)
  refine WL.field1 rfl Tryd.underlying41 rfl ag4 rfl rfl rfl ?_
  refine WL.assign (v := I64 (BitVec.ofInt 64 (0))) rfl rfl ?_
  refine WL.assign (v := .bool (false)) rfl rfl ?_
  refine WL.nil ?_
  refine WC.ret ?_
  exact ⟨_, Res.two (v := I64 (BitVec.ofInt 64 (0))) (v' := .bool (false)) rfl rfl rfl, rfl, E2⟩

theorem rkeeps16 (w : World) : CallsR Tryd.prog 16 #[.int .u8 (16)] w (fun v w' => v = .tuple #[I64 (keepsW 16).1, .bool (keepsW 16).2] ∧ w = w') := by
  refine callsR_of Tryd.func16 rfl rfl rfl ?_
  refine WC.seq ?_
  refine WC.region ?_
  refine WL.assign (v := I64 (0#64)) rfl rfl ?_
  refine WL.assign (v := .bool (false)) rfl rfl ?_
  refine WL.nil ?_
  refine WC.seq ?_
  refine WC.seq ?_
  refine WC.region ?_
  refine WL.move (v := .int .u8 (16)) rfl rfl ?_
  refine WL.nil ?_
  refine WC.block ?_
  refine WC.seq ?_
  refine WC.seq ?_
  refine WC.region ?_
  refine WL.bin rfl rfl rfl (BinR.eql) ?_
  refine WL.assign (v := .bool (false)) rfl rfl ?_
  refine WL.nil ?_
  refine WC.condF rfl ?_
  refine WC.seq ?_
  refine WC.region ?_
  refine WL.bin rfl rfl rfl (BinR.eql) ?_
  refine WL.assign (v := .bool (false)) rfl rfl ?_
  refine WL.nil ?_
  refine WC.condF rfl ?_
  refine WC.seq ?_
  refine WC.region ?_
  refine WL.bin rfl rfl rfl (BinR.eql) ?_
  refine WL.assign (v := .bool (false)) rfl rfl ?_
  refine WL.nil ?_
  refine WC.condF rfl ?_
  refine WC.seq ?_
  refine WC.region ?_
  refine WL.bin rfl rfl rfl (BinR.eql) ?_
  refine WL.assign (v := .bool (false)) rfl rfl ?_
  refine WL.nil ?_
  refine WC.condF rfl ?_
  refine WC.seq ?_
  refine WC.region ?_
  refine WL.bin rfl rfl rfl (BinR.eql) ?_
  refine WL.assign (v := .bool (false)) rfl rfl ?_
  refine WL.nil ?_
  refine WC.condF rfl ?_
  refine WC.seq ?_
  refine WC.region ?_
  refine WL.bin rfl rfl rfl (BinR.eql) ?_
  refine WL.assign (v := .bool (false)) rfl rfl ?_
  refine WL.nil ?_
  refine WC.condF rfl ?_
  refine WC.region ?_
  refine WL.bin rfl rfl rfl (BinR.eql) ?_
  refine WL.assign (v := .bool (false)) rfl rfl ?_
  refine WL.nil ?_
  refine WC.condF rfl ?_
  refine WC.seq ?_
  refine WC.seq ?_
  refine WC.region ?_
  refine WL.bin rfl rfl rfl (BinR.eql) ?_
  refine WL.assign (v := .bool (false)) rfl rfl ?_
  refine WL.nil ?_
  refine WC.condF rfl ?_
  refine WC.seq ?_
  refine WC.region ?_
  refine WL.bin rfl rfl rfl (BinR.eql) ?_
  refine WL.assign (v := .bool (false)) rfl rfl ?_
  refine WL.nil ?_
  refine WC.condF rfl ?_
  refine WC.region ?_
  refine WL.bin rfl rfl rfl (BinR.eql) ?_
  refine WL.assign (v := .bool (false)) rfl rfl ?_
  refine WL.nil ?_
  refine WC.condF rfl ?_
  refine WC.seq ?_
  refine WC.region ?_
  refine WL.bin rfl rfl rfl (BinR.eql) ?_
  refine WL.assign (v := .bool (false)) rfl rfl ?_
  refine WL.nil ?_
  refine WC.condF rfl ?_
  refine WC.seq ?_
  refine WC.seq ?_
  refine WC.region ?_
  refine WL.bin rfl rfl rfl (BinR.eql) ?_
  refine WL.assign (v := .bool (false)) rfl rfl ?_
  refine WL.nil ?_
  refine WC.condF rfl ?_
  refine WC.region ?_
  refine WL.bin rfl rfl rfl (BinR.eql) ?_
  refine WL.assign (v := .bool (false)) rfl rfl ?_
  refine WL.nil ?_
  refine WC.condF rfl ?_
  refine WC.skip ?_
  refine WC.seq ?_
  refine WC.region ?_
  refine WL.assign (v := I64 (0#64)) rfl rfl ?_
  refine WL.assign (v := .bool (false)) rfl rfl ?_
  refine WL.nil ?_
  refine WC.ret ?_
  exact ⟨_, Res.two (v := I64 (0#64)) (v' := .bool (false)) rfl rfl rfl, rfl, rfl⟩

theorem keeps_none (n : Nat) (w : World) (hn : n = 0 ∨ 16 < n) (hn2 : n < 256) : CallsR Tryd.prog 15 #[.int .u8 (((n : Nat) : Int))] w (fun v w' => v = .tuple #[I64 (keepsW n).1, .bool (keepsW n).2] ∧ Ext w w') := by
  refine callsR_of Tryd.func15 rfl rfl rfl ?_
  refine WC.seq ?_
  refine WC.region ?_
  refine WL.assign (v := I64 (0#64)) rfl rfl ?_
  refine WL.assign (v := .bool (false)) rfl rfl ?_
  refine WL.nil ?_
  refine WC.seq ?_
  refine WC.region ?_
  refine WL.move (v := .int .u8 (((n : Nat) : Int))) rfl rfl ?_
  refine WL.call ca27 (rfl) rfl (of_none n _ hn hn2) ?_
  rintro _ wo5 ⟨rfl, e5⟩
  have E1 : Ext w wo5 := Mod.trans (Mod.refl _ _) (e5)
  refine WL.field1 rfl Tryd.underlying41 rfl ag2 rfl rfl rfl ?_
  refine WL.move (v := .int .u8 (((n : Nat) : Int))) rfl rfl ?_
  refine WL.call ca27 (rfl) rfl (of_none n _ hn hn2) ?_
  rintro _ wo8 ⟨rfl, e8⟩
  have E2 : Ext w wo8 := Mod.trans (E1) (e8)
  refine WL.field1 rfl Tryd.underlying41 rfl ag4 rfl rfl rfl ?_
  refine WL.assign (v := I64 (BitVec.ofInt 64 (0))) rfl rfl ?_
  refine WL.assign (v := .bool (false)) rfl rfl ?_
  refine WL.nil ?_
  refine WC.ret ?_
  exact ⟨_, Res.two (v := I64 (BitVec.ofInt 64 (0))) (v' := .bool (false)) rfl rfl rfl, by first | (rw [keepsW_none n hn]; rfl) | rw [keepsW_none n hn], E2⟩

theorem rkeeps_none (n : Nat) (w : World) (hn : n = 0 ∨ 16 < n) (hn2 : n < 256) : CallsR Tryd.prog 16 #[.int .u8 (((n : Nat) : Int))] w (fun v w' => v = .tuple #[I64 (keepsW n).1, .bool (keepsW n).2] ∧ w = w') := by
  refine callsR_of Tryd.func16 rfl rfl rfl ?_
  refine WC.seq ?_
  refine WC.region ?_
  refine WL.assign (v := I64 (0#64)) rfl rfl ?_
  refine WL.assign (v := .bool (false)) rfl rfl ?_
  refine WL.nil ?_
  refine WC.seq ?_
  refine WC.seq ?_
  refine WC.region ?_
  refine WL.move (v := .int .u8 (((n : Nat) : Int))) rfl rfl ?_
  refine WL.nil ?_
  refine WC.block ?_
  refine WC.seq ?_
  refine WC.seq ?_
  refine WC.region ?_
  refine WL.bin (v := .bool (false)) rfl rfl rfl (BinR.toB (BinR.eql) (beq_eq_false_iff_ne.2 (by omega))) ?_
  refine WL.assign (v := .bool (false)) rfl rfl ?_
  refine WL.nil ?_
  refine WC.condF rfl ?_
  refine WC.seq ?_
  refine WC.region ?_
  refine WL.bin (v := .bool (false)) rfl rfl rfl (BinR.toB (BinR.eql) (beq_eq_false_iff_ne.2 (by omega))) ?_
  refine WL.assign (v := .bool (false)) rfl rfl ?_
  refine WL.nil ?_
  refine WC.condF rfl ?_
  refine WC.seq ?_
  refine WC.region ?_
  refine WL.bin (v := .bool (false)) rfl rfl rfl (BinR.toB (BinR.eql) (beq_eq_false_iff_ne.2 (by omega))) ?_
  refine WL.assign (v := .bool (false)) rfl rfl ?_
  refine WL.nil ?_
  refine WC.condF rfl ?_
  refine WC.seq ?_
  refine WC.region ?_
  refine WL.bin (v := .bool (false)) rfl rfl rfl (BinR.toB (BinR.eql) (beq_eq_false_iff_ne.2 (by omega))) ?_
  refine WL.assign (v := .bool (false)) rfl rfl ?_
  refine WL.nil ?_
  refine WC.condF rfl ?_
  refine WC.seq ?_
  refine WC.region ?_
  refine WL.bin (v := .bool (false)) rfl rfl rfl (BinR.toB (BinR.eql) (beq_eq_false_iff_ne.2 (by omega))) ?_
  refine WL.assign (v := .bool (false)) rfl rfl ?_
  refine WL.nil ?_
  refine WC.condF rfl ?_
  refine WC.seq ?_
  refine WC.region ?_
  refine WL.bin (v := .bool (false)) rfl rfl rfl (BinR.toB (BinR.eql) (beq_eq_false_iff_ne.2 (by omega))) ?_
  refine WL.assign (v := .bool (false)) rfl rfl ?_
  refine WL.nil ?_
  refine WC.condF rfl ?_
  refine WC.region ?_
  refine WL.bin (v := .bool (false)) rfl rfl rfl (BinR.toB (BinR.eql) (beq_eq_false_iff_ne.2 (by omega))) ?_
  refine WL.assign (v := .bool (false)) rfl rfl ?_
  refine WL.nil ?_
  refine WC.condF rfl ?_
  refine WC.seq ?_
  refine WC.seq ?_
  refine WC.region ?_
  refine WL.bin (v := .bool (false)) rfl rfl rfl (BinR.toB (BinR.eql) (beq_eq_false_iff_ne.2 (by omega))) ?_
  refine WL.assign (v := .bool (false)) rfl rfl ?_
  refine WL.nil ?_
  refine WC.condF rfl ?_
  refine WC.seq ?_
  refine WC.region ?_
  refine WL.bin (v := .bool (false)) rfl rfl rfl (BinR.toB (BinR.eql) (beq_eq_false_iff_ne.2 (by omega))) ?_
  refine WL.assign (v := .bool (false)) rfl rfl ?_
  refine WL.nil ?_
  refine WC.condF rfl ?_
  refine WC.region ?_
  refine WL.bin (v := .bool (false)) rfl rfl rfl (BinR.toB (BinR.eql) (beq_eq_false_iff_ne.2 (by omega))) ?_
  refine WL.assign (v := .bool (false)) rfl rfl ?_
  refine WL.nil ?_
  refine WC.condF rfl ?_
  refine WC.seq ?_
  refine WC.region ?_
  refine WL.bin (v := .bool (false)) rfl rfl rfl (BinR.toB (BinR.eql) (beq_eq_false_iff_ne.2 (by omega))) ?_
  refine WL.assign (v := .bool (false)) rfl rfl ?_
  refine WL.nil ?_
  refine WC.condF rfl ?_
  refine WC.seq ?_
  refine WC.seq ?_
  refine WC.region ?_
  refine WL.bin (v := .bool (false)) rfl rfl rfl (BinR.toB (BinR.eql) (beq_eq_false_iff_ne.2 (by omega))) ?_
  refine WL.assign (v := .bool (false)) rfl rfl ?_
  refine WL.nil ?_
  refine WC.condF rfl ?_
  refine WC.region ?_
  refine WL.bin (v := .bool (false)) rfl rfl rfl (BinR.toB (BinR.eql) (beq_eq_false_iff_ne.2 (by omega))) ?_
  refine WL.assign (v := .bool (false)) rfl rfl ?_
  refine WL.nil ?_
  refine WC.condF rfl ?_
  refine WC.skip ?_
  refine WC.seq ?_
  refine WC.region ?_
  refine WL.assign (v := I64 (0#64)) rfl rfl ?_
  refine WL.assign (v := .bool (false)) rfl rfl ?_
  refine WL.nil ?_
  refine WC.ret ?_
  exact ⟨_, Res.two (v := I64 (0#64)) (v' := .bool (false)) rfl rfl rfl, by first | (rw [keepsW_none n hn]; rfl) | rw [keepsW_none n hn], rfl⟩

theorem keeps_spec (n : Nat)  (w : World) (hn2 : n < 256) : CallsR Tryd.prog 15 #[.int .u8 ((n : Nat) : Int)] w (fun v w' => v = .tuple #[I64 (keepsW n).1, .bool (keepsW n).2] ∧ Ext w w') := by
  by_cases hn : n = 0 ∨ 16 < n
  · exact keeps_none n  w hn hn2
  · match n, hn with
    | 0, hn => exact (hn (.inl rfl)).elim
    | 1, _ => exact keeps1  w
    | 2, _ => exact keeps2  w
    | 3, _ => exact keeps3  w
    | 4, _ => exact keeps4  w
    | 5, _ => exact keeps5  w
    | 6, _ => exact keeps6  w
    | 7, _ => exact keeps7  w
    | 8, _ => exact keeps8  w
    | 9, _ => exact keeps9  w
    | 10, _ => exact keeps10  w
    | 11, _ => exact keeps11  w
    | 12, _ => exact keeps12  w
    | 13, _ => exact keeps13  w
    | 14, _ => exact keeps14  w
    | 15, _ => exact keeps15  w
    | 16, _ => exact keeps16  w
    | n + 17, hn => exact (hn (.inr (by omega))).elim

theorem rkeeps_spec (n : Nat)  (w : World) (hn2 : n < 256) : CallsR Tryd.prog 16 #[.int .u8 ((n : Nat) : Int)] w (fun v w' => v = .tuple #[I64 (keepsW n).1, .bool (keepsW n).2] ∧ w = w') := by
  by_cases hn : n = 0 ∨ 16 < n
  · exact rkeeps_none n  w hn hn2
  · match n, hn with
    | 0, hn => exact (hn (.inl rfl)).elim
    | 1, _ => exact rkeeps1  w
    | 2, _ => exact rkeeps2  w
    | 3, _ => exact rkeeps3  w
    | 4, _ => exact rkeeps4  w
    | 5, _ => exact rkeeps5  w
    | 6, _ => exact rkeeps6  w
    | 7, _ => exact rkeeps7  w
    | 8, _ => exact rkeeps8  w
    | 9, _ => exact rkeeps9  w
    | 10, _ => exact rkeeps10  w
    | 11, _ => exact rkeeps11  w
    | 12, _ => exact rkeeps12  w
    | 13, _ => exact rkeeps13  w
    | 14, _ => exact rkeeps14  w
    | 15, _ => exact rkeeps15  w
    | 16, _ => exact rkeeps16  w
    | n + 17, hn => exact (hn (.inr (by omega))).elim

theorem rknown_zero (w : World) : CallsR Tryd.prog 14 #[.int .u8 (0)] w (fun v w' => v = .bool false ∧ w = w') := by
  refine callsR_of Tryd.func14 rfl rfl rfl ?_
  refine WC.seq ?_
  refine WC.region ?_
  refine WL.assign (v := .bool (false)) rfl rfl ?_
  refine WL.nil ?_
  refine WC.seq ?_
  refine WC.region ?_
  refine WL.move (v := .int .u8 (0)) rfl rfl ?_
  refine WL.bin rfl rfl rfl (BinR.geq) ?_
  refine WL.move (v := .bool (false)) rfl rfl ?_
  refine WL.guardF (b' := false) (rfl) rfl rfl ?_
  refine WL.guardF (b' := false) (rfl) rfl rfl ?_
  refine WL.pick (b := false) rfl rfl rfl ?_
  refine WL.assign (v := .bool (false)) rfl rfl ?_
  refine WL.nil ?_
  refine WC.ret ?_
  exact ⟨_, Res.one (v := .bool (false)) rfl rfl, rfl, rfl⟩

theorem rknown_gt (n : Nat) (w : World) (hn : 16 < n) (hn2 : n < 256) : CallsR Tryd.prog 14 #[.int .u8 (((n : Nat) : Int))] w (fun v w' => v = .bool false ∧ w = w') := by
  refine callsR_of Tryd.func14 rfl rfl rfl ?_
  refine WC.seq ?_
  refine WC.region ?_
  refine WL.assign (v := .bool (false)) rfl rfl ?_
  refine WL.nil ?_
  refine WC.seq ?_
  refine WC.region ?_
  refine WL.move (v := .int .u8 (((n : Nat) : Int))) rfl rfl ?_
  refine WL.bin (v := .bool (true)) rfl rfl rfl (BinR.toB (BinR.geq) (decide_eq_true (by omega))) ?_
  refine WL.move (v := .bool (true)) rfl rfl ?_
  refine WL.guardT (rfl) ?_
  refine WL.move (v := .int .u8 (((n : Nat) : Int))) rfl rfl ?_
  refine WL.guardT (rfl) ?_
  refine WL.bin (v := .bool (false)) rfl rfl rfl (BinR.toB (BinR.leq) (decide_eq_false (by omega))) ?_
  refine WL.pick (b := true) rfl rfl rfl ?_
  refine WL.assign (v := .bool (false)) rfl rfl ?_
  refine WL.nil ?_
  refine WC.ret ?_
  exact ⟨_, Res.one (v := .bool (false)) rfl rfl, rfl, rfl⟩

theorem rknown_none (n : Nat) (w : World) (hn : n = 0 ∨ 16 < n) (hn2 : n < 256) : CallsR Tryd.prog 14 #[.int .u8 ((n : Nat) : Int)] w (fun v w' => v = .bool (knownW n) ∧ w = w') := by
  rw [knownW_none n hn]
  rcases hn with rfl | hn
  · exact rknown_zero w
  · exact rknown_gt n w hn hn2

theorem rknown_spec (n : Nat)  (w : World) (hn2 : n < 256) : CallsR Tryd.prog 14 #[.int .u8 ((n : Nat) : Int)] w (fun v w' => v = .bool (knownW n) ∧ w = w') := by
  by_cases hn : n = 0 ∨ 16 < n
  · exact rknown_none n  w hn hn2
  · match n, hn with
    | 0, hn => exact (hn (.inl rfl)).elim
    | 1, _ => exact rknown1  w
    | 2, _ => exact rknown2  w
    | 3, _ => exact rknown3  w
    | 4, _ => exact rknown4  w
    | 5, _ => exact rknown5  w
    | 6, _ => exact rknown6  w
    | 7, _ => exact rknown7  w
    | 8, _ => exact rknown8  w
    | 9, _ => exact rknown9  w
    | 10, _ => exact rknown10  w
    | 11, _ => exact rknown11  w
    | 12, _ => exact rknown12  w
    | 13, _ => exact rknown13  w
    | 14, _ => exact rknown14  w
    | 15, _ => exact rknown15  w
    | 16, _ => exact rknown16  w
    | n + 17, hn => exact (hn (.inr (by omega))).elim
end Go.Proofs.W
