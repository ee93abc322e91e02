import Derived.Test.YtgjhmdnbpnpkaaaDoorUxSl
import Derived.Test.YtgjhmdnbpnpkaaaDoorWordLaws
import Derived.Test.YtgjhmdnbpnpkaaaDoorRows
import Derived.Test.YtgjhmdnbpnpkaaaDoorWtX3
set_option linter.unusedSimpArgs false
set_option linter.unusedVariables false
namespace Go.Proofs.W
open Go Go.Ux Go.Ux.Word Go.Proofs
theorem ca17 : callable Tryd.prog 17 = true := by kernel_rfl
theorem ca15 : callable Tryd.prog 15 = true := by kernel_rfl
theorem ca23 : callable Tryd.prog 23 = true := by kernel_rfl
theorem ca13 : callable Tryd.prog 13 = true := by kernel_rfl
theorem ca14 : callable Tryd.prog 14 = true := by kernel_rfl
theorem ca11 : callable Tryd.prog 11 = true := by kernel_rfl
theorem ca16 : callable Tryd.prog 16 = true := by kernel_rfl
theorem ca18 : callable Tryd.prog 18 = true := by kernel_rfl
theorem ca19 : callable Tryd.prog 19 = true := by kernel_rfl
theorem ca20 : callable Tryd.prog 20 = true := by kernel_rfl
theorem ca21 : callable Tryd.prog 21 = true := by kernel_rfl
theorem ca22 : callable Tryd.prog 22 = true := by kernel_rfl
theorem ca24 : callable Tryd.prog 24 = true := by kernel_rfl

theorem power8 (w : World) (ht : Tab w) : CallsR Tryd.prog 17 #[I64 8#64] w (fun v w' => v = .tuple #[I64 3#64, .bool true] ∧ w = w') :=
  (power_spec 8#64 w ht).mono fun v w' h => by rw [show powW 8#64 = (3#64, true) from by decide] at h; exact h
theorem keeps3' (w : World) : CallsR Tryd.prog 15 #[.int .u8 3] w (fun v w' => v = .tuple #[I64 1#64, .bool true] ∧ Ext w w') := keeps_spec 3 w (by decide)

theorem works_spec (w : World) (ht : Tab w) : CallsR Tryd.prog 11 #[] w (fun v w' => v = .bool true ∧ Ext w w') := by
  refine callsR_of Tryd.func11 rfl rfl rfl ?_
  refine WC.seq ?_
  refine WC.region ?_
  refine WL.assign (v := .bool (false)) rfl rfl ?_
  refine WL.nil ?_
  refine WC.seq ?_
  refine WC.region ?_
  refine WL.call ca17 (rfl) rfl (power8 _ (ht.ext (Mod.refl _ _))) ?_
  rintro _ _ ⟨rfl, rfl⟩
  refine WL.move (v := .tuple #[I64 (3#64), .bool (true)]) rfl rfl ?_
  refine WL.extract rfl rfl rfl ?_
  refine WL.extract rfl rfl rfl ?_
  refine WL.assign (v := I64 (3#64)) rfl rfl ?_
  refine WL.assign (v := .bool (true)) rfl rfl ?_
  refine WL.nil ?_
  refine WC.seq ?_
  refine WC.region ?_
  refine WL.call ca15 (rfl) rfl (keeps3' _) ?_
  rintro _ wd10 ⟨rfl, ed10⟩
  have E1 : Ext w wd10 := Mod.trans (Mod.refl _ _) (ed10)
  refine WL.move (v := .tuple #[I64 (1#64), .bool (true)]) rfl rfl ?_
  refine WL.extract rfl rfl rfl ?_
  refine WL.extract rfl rfl rfl ?_
  refine WL.assign (v := I64 (1#64)) rfl rfl ?_
  refine WL.assign (v := .bool (true)) rfl rfl ?_
  refine WL.nil ?_
  refine WC.seq ?_
  refine WC.region ?_
  refine WL.call ca10 (argsL3 rfl (cI64 _ (by decide)) rfl) rfl (do_spec 4 (BitVec.ofInt 64 (-7)) (2#64) _ (by decide)) ?_
  rintro _ wd13 ⟨rfl, ed13⟩
  have E2 : Ext w wd13 := Mod.trans (E1) (ed13)
  refine WL.bin (v := .bool (true)) rfl (vy := I64 (BitVec.ofInt 64 (-3))) (cI64 _ (by decide)) rfl (BinR.toB (BinR.eql64) (by decide)) ?_
  refine WL.move (v := .bool (true)) rfl rfl ?_
  refine WL.guardT (rfl) ?_
  refine WL.call ca10 (argsL3 rfl (cI64 _ (by decide)) rfl) rfl (do_spec 5 (BitVec.ofInt 64 (-7)) (2#64) _ (by decide)) ?_
  rintro _ wd16 ⟨rfl, ed16⟩
  have E3 : Ext w wd16 := Mod.trans (E2) (ed16)
  refine WL.guardT (rfl) ?_
  refine WL.bin (v := .bool (true)) rfl (vy := I64 (BitVec.ofInt 64 (-1))) (cI64 _ (by decide)) rfl (BinR.toB (BinR.eql64) (by decide)) ?_
  refine WL.pick (b := true) rfl rfl rfl ?_
  refine WL.move (v := .bool (true)) rfl rfl ?_
  refine WL.guardT (rfl) ?_
  refine WL.call ca10 (rfl) rfl (do_spec 4 (5#64) (0#64) _ (by decide)) ?_
  rintro _ wd20 ⟨rfl, ed20⟩
  have E4 : Ext w wd20 := Mod.trans (E3) (ed20)
  refine WL.guardT (rfl) ?_
  refine WL.bin (v := .bool (true)) rfl (vy := I64 (BitVec.ofInt 64 (-1))) (cI64 _ (by decide)) rfl (BinR.toB (BinR.eql64) (by decide)) ?_
  refine WL.pick (b := true) rfl rfl rfl ?_
  refine WL.move (v := .bool (true)) rfl rfl ?_
  refine WL.guardT (rfl) ?_
  refine WL.call ca10 (rfl) rfl (do_spec 5 (5#64) (0#64) _ (by decide)) ?_
  rintro _ wd24 ⟨rfl, ed24⟩
  have E5 : Ext w wd24 := Mod.trans (E4) (ed24)
  refine WL.guardT (rfl) ?_
  refine WL.bin (v := .bool (true)) rfl (vy := I64 (5#64)) rfl rfl (BinR.toB (BinR.eql64) (by decide)) ?_
  refine WL.pick (b := true) rfl rfl rfl ?_
  refine WL.move (v := .bool (true)) rfl rfl ?_
  refine WL.guardT (rfl) ?_
  refine WL.call ca10 (rfl) rfl (do_spec 11 (1#64) (65#64) _ (by decide)) ?_
  rintro _ wd28 ⟨rfl, ed28⟩
  have E6 : Ext w wd28 := Mod.trans (E5) (ed28)
  refine WL.guardT (rfl) ?_
  refine WL.bin (v := .bool (true)) rfl (vy := I64 (2#64)) rfl rfl (BinR.toB (BinR.eql64) (by decide)) ?_
  refine WL.pick (b := true) rfl rfl rfl ?_
  refine WL.move (v := .bool (true)) rfl rfl ?_
  refine WL.guardT (rfl) ?_
  refine WL.call ca10 (argsL3 rfl (cI64 _ (by decide)) rfl) rfl (do_spec 13 (BitVec.ofInt 64 (-8)) (1#64) _ (by decide)) ?_
  rintro _ wd32 ⟨rfl, ed32⟩
  have E7 : Ext w wd32 := Mod.trans (E6) (ed32)
  refine WL.guardT (rfl) ?_
  refine WL.bin (v := .bool (true)) rfl (vy := I64 (BitVec.ofInt 64 (-4))) (cI64 _ (by decide)) rfl (BinR.toB (BinR.eql64) (by decide)) ?_
  refine WL.pick (b := true) rfl rfl rfl ?_
  refine WL.move (v := .bool (true)) rfl rfl ?_
  refine WL.guardT (rfl) ?_
  refine WL.call ca10 (argsL3 rfl (cI64 _ (by decide)) rfl) rfl (do_spec 12 (BitVec.ofInt 64 (-1)) (63#64) _ (by decide)) ?_
  rintro _ wd36 ⟨rfl, ed36⟩
  have E8 : Ext w wd36 := Mod.trans (E7) (ed36)
  refine WL.guardT (rfl) ?_
  refine WL.bin (v := .bool (true)) rfl (vy := I64 (1#64)) rfl rfl (BinR.toB (BinR.eql64) (by decide)) ?_
  refine WL.pick (b := true) rfl rfl rfl ?_
  refine WL.move (v := .bool (true)) rfl rfl ?_
  refine WL.guardT (rfl) ?_
  refine WL.call ca10 (argsL3 rfl (cI64 _ (by decide)) rfl) rfl (do_spec 15 (BitVec.ofInt 64 (-1)) (1#64) _ (by decide)) ?_
  rintro _ wd40 ⟨rfl, ed40⟩
  have E9 : Ext w wd40 := Mod.trans (E8) (ed40)
  refine WL.guardT (rfl) ?_
  refine WL.bin (v := .bool (true)) rfl (vy := I64 (0#64)) rfl rfl (BinR.toB (BinR.eql64) (by decide)) ?_
  refine WL.pick (b := true) rfl rfl rfl ?_
  refine WL.move (v := .bool (true)) rfl rfl ?_
  refine WL.guardT (rfl) ?_
  refine WL.move (v := I64 (3#64)) rfl rfl ?_
  refine WL.guardT (rfl) ?_
  refine WL.bin (v := .bool (true)) rfl (vy := I64 (3#64)) rfl rfl (BinR.toB (BinR.eql64) (by decide)) ?_
  refine WL.pick (b := true) rfl rfl rfl ?_
  refine WL.move (v := .bool (true)) rfl rfl ?_
  refine WL.guardT (rfl) ?_
  refine WL.move (v := .bool (true)) rfl rfl ?_
  refine WL.pick (b := true) rfl rfl rfl ?_
  refine WL.move (v := .bool (true)) rfl rfl ?_
  refine WL.guardT (rfl) ?_
  refine WL.move (v := I64 (1#64)) rfl rfl ?_
  refine WL.guardT (rfl) ?_
  refine WL.bin (v := .bool (true)) rfl (vy := I64 (1#64)) rfl rfl (BinR.toB (BinR.eql64) (by decide)) ?_
  refine WL.pick (b := true) rfl rfl rfl ?_
  refine WL.move (v := .bool (true)) rfl rfl ?_
  refine WL.guardT (rfl) ?_
  refine WL.move (v := .bool (true)) rfl rfl ?_
  refine WL.pick (b := true) rfl rfl rfl ?_
  refine WL.move (v := .bool (true)) rfl rfl ?_
  refine WL.guardT (rfl) ?_
  refine WL.call ca23 (argsL4 (cI64 _ (by decide)) (cI64 _ (by decide)) rfl rfl) rfl (high_spec (BitVec.ofInt 64 (-1)) (BitVec.ofInt 64 (-1)) false false _) ?_
  rintro _ _ ⟨rfl, rfl⟩
  refine WL.guardT (rfl) ?_
  refine WL.bin (v := .bool (true)) rfl (vy := I64 (BitVec.ofInt 64 (-2))) (cI64 _ (by decide)) rfl (BinR.toB (BinR.eql64) (by decide)) ?_
  refine WL.pick (b := true) rfl rfl rfl ?_
  refine WL.assign (v := .bool (true)) rfl rfl ?_
  refine WL.nil ?_
  refine WC.ret ?_
  exact ⟨_, Res.one (v := .bool (true)) rfl rfl, rfl, E9⟩

theorem wordDo_spec (n : Nat) (x y : BitVec 64) (w : World) (hn2 : n < 256) (ht : Tab w) : CallsR Tryd.prog 5 #[.int .u8 (((n : Nat) : Int)), I64 (x), I64 (y)] w (fun v w' => v = .bool true ∧ Ext w w') := by
  refine callsR_of Tryd.func5 rfl rfl rfl ?_
  refine WC.seq ?_
  refine WC.region ?_
  refine WL.assign (v := .bool (false)) rfl rfl ?_
  refine WL.nil ?_
  refine WC.seq ?_
  refine WC.region ?_
  refine WL.move (v := .int .u8 (((n : Nat) : Int))) rfl rfl ?_
  refine WL.move (v := I64 (x)) rfl rfl ?_
  refine WL.move (v := I64 (y)) rfl rfl ?_
  refine WL.call ca10 (rfl) rfl (do_spec n (x) (y) _ hn2) ?_
  rintro _ wd10 ⟨rfl, ed10⟩
  have E1 : Ext w wd10 := Mod.trans (Mod.refl _ _) (ed10)
  refine WL.move (v := .int .u8 (((n : Nat) : Int))) rfl rfl ?_
  refine WL.move (v := I64 (x)) rfl rfl ?_
  refine WL.move (v := I64 (y)) rfl rfl ?_
  refine WL.call ca12 (rfl) rfl (refDo_spec n (x) (y) _) ?_
  rintro _ _ ⟨rfl, rfl⟩
  refine WL.bin (v := .bool (true)) rfl rfl rfl (BinR.toB (BinR.eql64) (beq_self_eq_true _)) ?_
  refine WL.move (v := .bool (true)) rfl rfl ?_
  refine WL.guardT (rfl) ?_
  refine WL.move (v := .int .u8 (((n : Nat) : Int))) rfl rfl ?_
  refine WL.guardT (rfl) ?_
  refine WL.call ca13 (rfl) rfl (known_spec n _ hn2) ?_
  rintro _ wd18 ⟨rfl, ed18⟩
  have E2 : Ext w wd18 := Mod.trans (E1) (ed18)
  refine WL.guardT (rfl) ?_
  refine WL.move (v := .int .u8 (((n : Nat) : Int))) rfl rfl ?_
  refine WL.guardT (rfl) ?_
  refine WL.call ca14 (rfl) rfl (rknown_spec n _ hn2) ?_
  rintro _ _ ⟨rfl, rfl⟩
  refine WL.guardT (rfl) ?_
  refine WL.bin (v := .bool (true)) rfl rfl rfl (BinR.toB (BinR.eqlB Tryd.underlying4) (beq_self_eq_true _)) ?_
  refine WL.pick (b := true) rfl rfl rfl ?_
  refine WL.move (v := .bool (true)) rfl rfl ?_
  refine WL.guardT (rfl) ?_
  refine WL.call ca11 (rfl) rfl (works_spec _ (ht.ext (E2))) ?_
  rintro _ wd24 ⟨rfl, ed24⟩
  have E3 : Ext w wd24 := Mod.trans (E2) (ed24)
  refine WL.pick (b := true) rfl rfl rfl ?_
  refine WL.assign (v := .bool (true)) rfl rfl ?_
  refine WL.nil ?_
  refine WC.ret ?_
  exact ⟨_, Res.one (v := .bool (true)) rfl rfl, rfl, E3⟩

theorem wordFacts_spec (n : Nat) (x y : BitVec 64) (a b : Bool) (w : World) (hn2 : n < 256) (ht : Tab w) : CallsR Tryd.prog 6 #[.int .u8 (((n : Nat) : Int)), I64 (x), I64 (y), .bool (a), .bool (b)] w (fun v w' => v = .bool true ∧ Ext w w') := by
  refine callsR_of Tryd.func6 rfl rfl rfl ?_
  refine WC.seq ?_
  refine WC.region ?_
  refine WL.assign (v := .bool (false)) rfl rfl ?_
  refine WL.nil ?_
  refine WC.seq ?_
  refine WC.region ?_
  refine WL.move (v := .int .u8 (((n : Nat) : Int))) rfl rfl ?_
  refine WL.call ca15 (rfl) rfl (keeps_spec n _ hn2) ?_
  rintro _ wd21 ⟨rfl, ed21⟩
  have E1 : Ext w wd21 := Mod.trans (Mod.refl _ _) (ed21)
  refine WL.move (v := .tuple #[I64 ((keepsW n).1), .bool ((keepsW n).2)]) rfl rfl ?_
  refine WL.extract rfl rfl rfl ?_
  refine WL.extract rfl rfl rfl ?_
  refine WL.assign (v := I64 ((keepsW n).1)) rfl rfl ?_
  refine WL.assign (v := .bool ((keepsW n).2)) rfl rfl ?_
  refine WL.nil ?_
  refine WC.seq ?_
  refine WC.region ?_
  refine WL.move (v := .int .u8 (((n : Nat) : Int))) rfl rfl ?_
  refine WL.call ca16 (rfl) rfl (rkeeps_spec n _ hn2) ?_
  rintro _ _ ⟨rfl, rfl⟩
  refine WL.move (v := .tuple #[I64 ((keepsW n).1), .bool ((keepsW n).2)]) rfl rfl ?_
  refine WL.extract rfl rfl rfl ?_
  refine WL.extract rfl rfl rfl ?_
  refine WL.assign (v := I64 ((keepsW n).1)) rfl rfl ?_
  refine WL.assign (v := .bool ((keepsW n).2)) rfl rfl ?_
  refine WL.nil ?_
  refine WC.seq ?_
  refine WC.region ?_
  refine WL.move (v := I64 (x)) rfl rfl ?_
  refine WL.call ca17 (rfl) rfl (power_spec (x) _ (ht.ext (E1))) ?_
  rintro _ _ ⟨rfl, rfl⟩
  refine WL.move (v := .tuple #[I64 ((powW (x)).1), .bool ((powW (x)).2)]) rfl rfl ?_
  refine WL.extract rfl rfl rfl ?_
  refine WL.extract rfl rfl rfl ?_
  refine WL.assign (v := I64 ((powW (x)).1)) rfl rfl ?_
  refine WL.assign (v := .bool ((powW (x)).2)) rfl rfl ?_
  refine WL.nil ?_
  refine WC.seq ?_
  refine WC.region ?_
  refine WL.move (v := I64 (x)) rfl rfl ?_
  refine WL.call ca18 (rfl) rfl (rpower_spec (x) _) ?_
  rintro _ _ ⟨rfl, rfl⟩
  refine WL.move (v := .tuple #[I64 ((powW (x)).1), .bool ((powW (x)).2)]) rfl rfl ?_
  refine WL.extract rfl rfl rfl ?_
  refine WL.extract rfl rfl rfl ?_
  refine WL.assign (v := I64 ((powW (x)).1)) rfl rfl ?_
  refine WL.assign (v := .bool ((powW (x)).2)) rfl rfl ?_
  refine WL.nil ?_
  refine WC.seq ?_
  refine WC.region ?_
  refine WL.move (v := .int .u8 (((n : Nat) : Int))) rfl rfl ?_
  refine WL.call ca19 (rfl) rfl (swaps_spec n _ hn2) ?_
  rintro _ wd40 ⟨rfl, ed40⟩
  have E2 : Ext w wd40 := Mod.trans (E1) (ed40)
  refine WL.move (v := .int .u8 (((n : Nat) : Int))) rfl rfl ?_
  refine WL.call ca20 (rfl) rfl (rswaps_spec n _ hn2) ?_
  rintro _ _ ⟨rfl, rfl⟩
  refine WL.bin (v := .bool (true)) rfl rfl rfl (BinR.toB (BinR.eqlB Tryd.underlying4) (beq_self_eq_true _)) ?_
  refine WL.move (v := .bool (true)) rfl rfl ?_
  refine WL.guardT (rfl) ?_
  refine WL.move (v := .int .u8 (((n : Nat) : Int))) rfl rfl ?_
  refine WL.guardT (rfl) ?_
  refine WL.call ca21 (rfl) rfl (groups_spec n _ hn2) ?_
  rintro _ wd46 ⟨rfl, ed46⟩
  have E3 : Ext w wd46 := Mod.trans (E2) (ed46)
  refine WL.guardT (rfl) ?_
  refine WL.move (v := .int .u8 (((n : Nat) : Int))) rfl rfl ?_
  refine WL.guardT (rfl) ?_
  refine WL.call ca22 (rfl) rfl (rgroups_spec n _ hn2) ?_
  rintro _ _ ⟨rfl, rfl⟩
  refine WL.guardT (rfl) ?_
  refine WL.bin (v := .bool (true)) rfl rfl rfl (BinR.toB (BinR.eqlB Tryd.underlying4) (beq_self_eq_true _)) ?_
  refine WL.pick (b := true) rfl rfl rfl ?_
  refine WL.move (v := .bool (true)) rfl rfl ?_
  refine WL.guardT (rfl) ?_
  refine WL.move (v := I64 ((keepsW n).1)) rfl rfl ?_
  refine WL.guardT (rfl) ?_
  refine WL.move (v := I64 ((keepsW n).1)) rfl rfl ?_
  refine WL.guardT (rfl) ?_
  refine WL.bin (v := .bool (true)) rfl rfl rfl (BinR.toB (BinR.eql64) (beq_self_eq_true _)) ?_
  refine WL.pick (b := true) rfl rfl rfl ?_
  refine WL.move (v := .bool (true)) rfl rfl ?_
  refine WL.guardT (rfl) ?_
  refine WL.move (v := .bool ((keepsW n).2)) rfl rfl ?_
  refine WL.guardT (rfl) ?_
  refine WL.move (v := .bool ((keepsW n).2)) rfl rfl ?_
  refine WL.guardT (rfl) ?_
  refine WL.bin (v := .bool (true)) rfl rfl rfl (BinR.toB (BinR.eqlB Tryd.underlying4) (beq_self_eq_true _)) ?_
  refine WL.pick (b := true) rfl rfl rfl ?_
  refine WL.move (v := .bool (true)) rfl rfl ?_
  refine WL.guardT (rfl) ?_
  refine WL.move (v := I64 ((powW (x)).1)) rfl rfl ?_
  refine WL.guardT (rfl) ?_
  refine WL.move (v := I64 ((powW (x)).1)) rfl rfl ?_
  refine WL.guardT (rfl) ?_
  refine WL.bin (v := .bool (true)) rfl rfl rfl (BinR.toB (BinR.eql64) (beq_self_eq_true _)) ?_
  refine WL.pick (b := true) rfl rfl rfl ?_
  refine WL.move (v := .bool (true)) rfl rfl ?_
  refine WL.guardT (rfl) ?_
  refine WL.move (v := .bool ((powW (x)).2)) rfl rfl ?_
  refine WL.guardT (rfl) ?_
  refine WL.move (v := .bool ((powW (x)).2)) rfl rfl ?_
  refine WL.guardT (rfl) ?_
  refine WL.bin (v := .bool (true)) rfl rfl rfl (BinR.toB (BinR.eqlB Tryd.underlying4) (beq_self_eq_true _)) ?_
  refine WL.pick (b := true) rfl rfl rfl ?_
  refine WL.move (v := .bool (true)) rfl rfl ?_
  refine WL.guardT (rfl) ?_
  refine WL.move (v := I64 (x)) rfl rfl ?_
  refine WL.guardT (rfl) ?_
  refine WL.move (v := I64 (y)) rfl rfl ?_
  refine WL.guardT (rfl) ?_
  refine WL.move (v := .bool (a)) rfl rfl ?_
  refine WL.guardT (rfl) ?_
  refine WL.move (v := .bool (b)) rfl rfl ?_
  refine WL.guardT (rfl) ?_
  refine WL.call ca23 (rfl) rfl (high_spec (x) (y) a b _) ?_
  rintro _ _ ⟨rfl, rfl⟩
  refine WL.guardT (rfl) ?_
  refine WL.move (v := I64 (x)) rfl rfl ?_
  refine WL.guardT (rfl) ?_
  refine WL.move (v := I64 (y)) rfl rfl ?_
  refine WL.guardT (rfl) ?_
  refine WL.move (v := .bool (a)) rfl rfl ?_
  refine WL.guardT (rfl) ?_
  refine WL.move (v := .bool (b)) rfl rfl ?_
  refine WL.guardT (rfl) ?_
  refine WL.call ca24 (rfl) rfl (rhigh_spec (x) (y) a b _) ?_
  rintro _ _ ⟨rfl, rfl⟩
  refine WL.guardT (rfl) ?_
  refine WL.bin (v := .bool (true)) rfl rfl rfl (BinR.toB (BinR.eql64) (beq_self_eq_true _)) ?_
  refine WL.pick (b := true) rfl rfl rfl ?_
  refine WL.move (v := .bool (true)) rfl rfl ?_
  refine WL.guardT (rfl) ?_
  refine WL.call ca11 (rfl) rfl (works_spec _ (ht.ext (E3))) ?_
  rintro _ wd85 ⟨rfl, ed85⟩
  have E4 : Ext w wd85 := Mod.trans (E3) (ed85)
  refine WL.pick (b := true) rfl rfl rfl ?_
  refine WL.assign (v := .bool (true)) rfl rfl ?_
  refine WL.nil ?_
  refine WC.ret ?_
  exact ⟨_, Res.one (v := .bool (true)) rfl rfl, rfl, E4⟩
end Go.Proofs.W
