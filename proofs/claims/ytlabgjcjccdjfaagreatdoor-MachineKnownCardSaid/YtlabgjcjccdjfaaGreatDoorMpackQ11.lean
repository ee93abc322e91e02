/- Steps of the proof, packed by program: McO8 McO9 McRS McP1 McP2 McP3. -/
import Derived.Test.YtlabgjcjccdjfaaGreatDoorRows
import Derived.Test.YtlabgjcjccdjfaaGreatDoorMpackQ02
import Derived.Test.YtlabgjcjccdjfaaGreatDoorMpackQ10
set_option linter.unusedVariables false
set_option linter.unusedSimpArgs false
set_option linter.unnecessarySimpa false
set_option maxRecDepth 100000
section
set_option linter.unusedSimpArgs false
set_option linter.unusedVariables false
namespace Go.Proofs.S
open Go Go.Ux Go.Ux.Mach Go.Proofs
open Tryz
theorem fo70_7 : fieldOff prog 70 7 = some 38 := by kernel_rfl
theorem sz4 : sizeT prog 4 = some 1 := by kernel_rfl
theorem fo70_8 : fieldOff prog 70 8 = some 39 := by kernel_rfl
open Go.Ux.Image
theorem trap_q (T : Nat → Nat) (b : Nat) (M : MS) (ws : List (BitVec 32)) (w : World) (h : RR T w b M ws)  : CallsR prog 39 #[ptr b 0] w (fun v w' => TurnR T w b { M with fin := some true } ws w') := by
 obtain ⟨cv, dv, sv, iv, ev, hb, ht⟩ := h
 refine Co func39 G G ?_
 refine Sr (Me (ptr b 0) (WL.nilCheck G G (Fa G fo70_7 (WL.storeB (v := .bool true) G G G sz4 hb (Nat.le_of_ble_eq_true G) ?_))))
 intro ws1 ms1 bs1 zs1
 have E1 : Mod (fun k => T k = 1) w ws1 := (ms1.imp (fun i _ e => by subst e; exact ht.tb))
 refine Ni (Rg (Me (ptr b 0) (WL.nilCheck G G (Fa G fo70_8 (WL.storeB (v := .bool true) G G G sz4 bs1 (Nat.le_of_ble_eq_true G) ?_)))))
 intro ws2 ms2 bs2 zs2
 have E2 : Mod (fun k => T k = 1) w ws2 := Mod.trans E1 (ms2.imp (fun i _ e => by subst e; exact ht.tb))
 refine Ni ?_
 exact ⟨_, Res.zero G, TurnR.own ⟨cv, dv, sv, iv, ev, bs2, (ht.own E2).regs M.x M.pc M.steps (some true)⟩ (Mod.fp E2)⟩
def putR (M : MS) (rd : BitVec 8) (y : BitVec 64) : MS := { M with x := if BitVec.ult 0#8 rd = true then updR M.x rd.toNat y else M.x }
theorem put_q (T : Nat → Nat) (b : Nat) (M : MS) (ws : List (BitVec 32)) (w : World) (h : RR T w b M ws) (rd : BitVec 8) (y : BitVec 64) (hr : rd.toNat < 32) : CallsR prog 47 #[ptr b 0, U8 rd, U64 y] w (fun v w' => TurnR T w b (putR M rd y) ws w') := by
 have hM0 := h
 obtain ⟨cv, dv, sv, iv, ev, hb, ht⟩ := h
 refine Co func47 G G ?_
 refine Sr (Me (U8 rd) (Bn (vy := U8 0#8) G G BinR.gtrU8 (Ni ?_)))
 refine WC.cond G (fun hc7 => ?_) (fun hc7 => ?_)
 ·refine Rg (Me (ptr b 0) (Me (U8 rd) (Me (U64 y) (WL.nilCheck G G (Fa G fo70_4 (WL.indexArr1 (i := rd.toNat) ar68 sz39 G G hr G (WL.storeB (o := 4 + rd.toNat) (v := U64 y) G G G sz39 hb (show 4 + rd.toNat < 41 by omega) ?_)))))))
  intro wz mz bz zz
  have bz2 : Blk wz b (RCells cv dv sv iv ev { M with x := updR M.x rd.toNat y }) 70 := by have h := refCells_set cv dv sv iv M.x M.pc ev M.fin.isSome (M.fin == some true) (I64 M.steps) hr y; have bq := bz; rw [show (RCells cv dv sv iv ev M).setIfInBounds (4 + rd.toNat) (U64 y) = _ from h] at bq; exact bq
  have E1 : Mod (fun k => T k = 1) w wz := (mz.imp (fun i _ e => by subst e; exact ht.tb))
  refine Ni ?_
  have hfin : TurnR T w b (putR M rd y) ws wz := by
   unfold putR; rw [hc7]
   exact TurnR.own ⟨cv, dv, sv, iv, ev, bz2, (ht.own E1).regs (updR M.x rd.toNat y) M.pc M.steps M.fin⟩ (Mod.fp E1)
  exact ⟨_, Res.zero G, hfin⟩
 ·refine WC.skip ?_
  have hfin : TurnR T w b (putR M rd y) ws w := by
   unfold putR; rw [hc7]
   exact TurnR.refl hM0
  exact ⟨_, Res.zero G, hfin⟩
theorem storeR_no (T : Nat → Nat) (b : Nat) (M : MS) (ws : List (BitVec 32)) (w : World) (h : RR T w b M ws) (addr q : BitVec 64) (size : Nat) (hz : size = 1 ∨ size = 2 ∨ size = 4 ∨ size = 8) (hW : whereM M.n addr size = none) : Cx 45 #[ptr b 0, U64 addr, IN size, U64 q] w (.bool false) := by
 obtain ⟨cv, dv, sv, iv, ev, hb, ht⟩ := h
 refine Co func45 G G ?_
 refine Sr (Ae (.bool false) (Ni (Sr (Me (ptr b 0) (Me (U64 addr) (Me (IN size) (Ca (where_r addr size b cv dv sv iv M.x M.pc ev M.fin.isSome (M.fin == some true) (I64 M.steps) M.n M.d (fun _ => 0#8) _ hb ht.data.sl ht.n_le hz) ?_)))))))
 rintro _ ww ⟨rfl, eww⟩
 rw [whereR_none hz hW]
 have E1 : Ext w ww := eww
 refine Me (.tuple #[IN 0, IN 0]) (Et G G (Et G G (Ae (IN 0) (Ae (IN 0) (Ni (Sq (Sr (Ae (IN 0) (Ni (Bk ?_))))))))))
 refine WC.loop (fun k f w_ => f 2 = IN size ∧ f 9 = IN 0 ∧ f 11 = IN 0 ∧ (Ext w w_)) 0 ?_ ?_
 ·exact ⟨G, G, G, E1⟩
 rintro k f1 wr ⟨h2_1, h9_1, h11_1, hE⟩
 refine Sq (Sr (Mv (IN 0) h11_1 (Mv (IN size) h2_1 (Bp G G BinR.lss (Me (.bool true) (Gr (Mv (IN 0) h9_1 (Gr (Bf G G BinR.gtr (by decide) (Pt G (Ni (Cf G (WC.exit (Sr (Mv (IN 0) h9_1 (Bf G G BinR.gtr (by decide) (Ae (.bool false) (Ni (WC.ret ?_)))))))))))))))))))
 exact ⟨_, Ro G G, G, hE⟩
theorem storeR_true (T : Nat → Nat) (b : Nat) (M : MS) (ws : List (BitVec 32)) (w : World) (h : RR T w b M ws) (addr q : BitVec 64) (size : Nat) (hz : size = 1 ∨ size = 2 ∨ size = 4 ∨ size = 8) (o : Nat) (hW : whereM M.n addr size = some (true, o)) : CallsR prog 45 #[ptr b 0, U64 addr, IN size, U64 q] w (fun v w' => v = .bool true ∧ TurnR T w b (storeM M true o size q) ws w') := by
 obtain ⟨cv, dv, sv, iv, ev, hb, ht⟩ := h
 have hle : o + size ≤ M.n := whereM_le hW
 obtain ⟨g, cap, hsl, _, _⟩ := ht.data.at (by omega)
 have hav : ¬ At dv b := fun e => by have := ht.td b e; rw [ht.tb] at this; cases this
 have hn9 := ht.n_le
 refine Co func45 G G ?_
 refine Sr (Ae (.bool false) (Ni (Sr (Me (ptr b 0) (Me (U64 addr) (Me (IN size) (Ca (where_r addr size b cv dv sv iv M.x M.pc ev M.fin.isSome (M.fin == some true) (I64 M.steps) M.n M.d (fun _ => 0#8) _ hb ht.data.sl ht.n_le hz) ?_)))))))
 rintro _ ww ⟨rfl, eww⟩
 rw [whereR_some hz hW]
 have E1 : Mod (At dv) w ww := (Mod.ext eww)
 refine Me (.tuple #[IN 1, IN o]) (Et G G (Et G G (Ae (IN 1) (Ae (IN o) (Ni (Sq (Sr (Ae (IN 0) (Ni (Bk ?_))))))))))
 refine WC.loop (fun k f w_ => ∃ j, (k + j = size) ∧ f 0 = ptr b 0 ∧ f 2 = IN size ∧ f 3 = U64 q ∧ f 9 = IN 1 ∧ f 10 = IN o ∧ f 11 = IN j ∧ (Mod (At dv) w w_) ∧ (Ux.Own w_ 1 dv M.n (bsV (storeB M.d o q j) M.n)) ∧ (Blk w_ b (RCells cv dv sv iv ev M) 70)) size ?_ ?_
 have B2 := hb.ext eww
 ·exact ⟨0, by omega, G, G, G, G, G, G, E1, (ht.data.ext eww), B2⟩
 rintro ka f1 wr ⟨j, hk, h0_1, h2_1, h3_1, h9_1, h10_1, h11_1, hE, hO, hbx⟩
 refine Sq (Sr (Mv (IN j) h11_1 (Mv (IN size) h2_1 (Bn G G BinR.lss (Me (.bool (decide (((j : Nat) : Int) < ((size : Nat) : Int)))) ?_)))))
 rcases Bool.eq_false_or_eq_true (decide (((j : Nat) : Int) < ((size : Nat) : Int))) with hg22 | hg22
 ·have hj : j < size := of_decide_eq_true (by have := of_decide_eq_true hg22; exact decide_eq_true (by omega))
  refine Gy hg22 (Mv (IN 1) h9_1 (Gy hg22 (Bt G G BinR.gtr (by decide) (Qt hg22 G (Ni (Ct G (WC.skip (Sq (Bk (Sr (Mv (IN 1) h9_1 (Bt G G BinR.eql (by decide) (Ni (Ct G (WC.drawL (fun w_ => Ext wr w_) 13 14 G mixed ?_)))))))))))))))
  intro wd_6 ed_6
  have R4 : Ext wr wd_6 := ed_6
  have E5 : Mod (At dv) w wd_6 := Mt hE (Mod.ext ed_6)
  refine Ti 0 (ptr b 0) G G (Mv (ptr b 0) h0_1 Ok) R4 (Ti 1 (ptr b 0) G G (WL.nilCheck G G Ok) R4 (Ti 2 (ptr b 1) G G (Fa G fo70_1 Ok) R4 (Tl 3 dv G G (fun _ hS => Le ((hbx.ext hS).cell (j := 1) G) Ok) R4 (Ti 4 (IN o) G G (Mv (IN o) h10_1 Ok) R4 (Ti 5 (IN j) G G (Mv (IN j) h11_1 Ok) R4 (Ti 6 (IN ((o + j))) G G (Bn G G (BinR.addN (by omega)) Ok) R4 (Ti 7 (U64 q) G G (Mv (U64 q) h3_1 Ok) R4 (Ti 8 (IN j) G G (Mv (IN j) h11_1 Ok) R4 (Ti 9 (IN ((8 * j))) G G (Bn G G (BinR.mulN (a := 8) (b := j) (by omega)) Ok) R4 (Ti 10 (U64 ((q >>> ((8 * j))))) G G (Bn G G BinR.shrU64 Ok) R4 (Ti 11 (U8 (((q >>> ((8 * j)))).setWidth 8)) G G (Cv G (ConvR.u64u8 y39 y5) Ok) R4 (Ti 12 (ptr g (0 + ((o + j)) * 1)) G G (WL.indexAddr (i := (o + j)) (b := g) (o := 0) el45 sz5 (Eq.trans G hsl) G (by omega) G Ok) R4 (WAL.one (i := 13) (m' := 16383) (by kernel_rfl) G G (WL.storeOwn (i := 0 + (o + j) * 1) (u := U8 (((q >>> ((8 * j)))).setWidth 8)) G G G sz5 (hO.ext ed_6) hsl (by omega) ?_))))))))))))))
  intro ws_ os ms
  have os2 : Ux.Own ws_ 1 dv M.n (bsV (storeB M.d o q (j + 1)) M.n) := by rw [bsV_set, Nat.mul_one, Nat.zero_add] at os; exact os
  have E20 : Mod (At dv) w ws_ := Mt E5 ms
  refine WL.behindL (by kernel_rfl) (WAL.done (by kernel_rfl) (Rg (Mv (IN j) h11_1 (Bn G G (BinR.succN (by omega)) (Ae (IN (j + 1)) (Ni ?_))))))
  have B21 := (hbx.ext ed_6).mod ms hav
  exact ⟨ka - 1, by omega, (j + 1), by omega, h0_1, h2_1, h3_1, h9_1, h10_1, G, E20, os2, B21⟩
 ·have hj : j = size := by have := of_decide_eq_false hg22; omega
  refine Gz hg22 (Gz hg22 (Qf hg22 G (Ni (Cf G (WC.exit (Sr (Mv (IN 1) h9_1 (Bt G G BinR.gtr (by decide) (Ae (.bool true) (Ni (WC.ret ?_)))))))))))
  have htn : TurnR T w b (storeM M true o size q) ws wr := turnR_area ht hb true hE (by rw [← hj]; exact hO)
  exact ⟨_, Ro G G, G, htn⟩
theorem storeR_false (T : Nat → Nat) (b : Nat) (M : MS) (ws : List (BitVec 32)) (w : World) (h : RR T w b M ws) (addr q : BitVec 64) (size : Nat) (hz : size = 1 ∨ size = 2 ∨ size = 4 ∨ size = 8) (o : Nat) (hW : whereM M.n addr size = some (false, o)) : CallsR prog 45 #[ptr b 0, U64 addr, IN size, U64 q] w (fun v w' => v = .bool true ∧ TurnR T w b (storeM M false o size q) ws w') := by
 obtain ⟨cv, dv, sv, iv, ev, hb, ht⟩ := h
 have hle : o + size ≤ 65536 := whereM_le hW
 obtain ⟨g, cap, hsl, _, _⟩ := ht.stk.at (by omega)
 have hav : ¬ At sv b := fun e => by have := ht.ts b e; rw [ht.tb] at this; cases this
 have hn9 := ht.n_le
 refine Co func45 G G ?_
 refine Sr (Ae (.bool false) (Ni (Sr (Me (ptr b 0) (Me (U64 addr) (Me (IN size) (Ca (where_r addr size b cv dv sv iv M.x M.pc ev M.fin.isSome (M.fin == some true) (I64 M.steps) M.n M.d (fun _ => 0#8) _ hb ht.data.sl ht.n_le hz) ?_)))))))
 rintro _ ww ⟨rfl, eww⟩
 rw [whereR_some hz hW]
 have E1 : Mod (At sv) w ww := (Mod.ext eww)
 refine Me (.tuple #[IN 2, IN o]) (Et G G (Et G G (Ae (IN 2) (Ae (IN o) (Ni (Sq (Sr (Ae (IN 0) (Ni (Bk ?_))))))))))
 refine WC.loop (fun k f w_ => ∃ j, (k + j = size) ∧ f 0 = ptr b 0 ∧ f 2 = IN size ∧ f 3 = U64 q ∧ f 9 = IN 2 ∧ f 10 = IN o ∧ f 11 = IN j ∧ (Mod (At sv) w w_) ∧ (Ux.Own w_ 1 sv 65536 (bsV (storeB M.s o q j) 65536)) ∧ (Blk w_ b (RCells cv dv sv iv ev M) 70)) size ?_ ?_
 have B2 := hb.ext eww
 ·exact ⟨0, by omega, G, G, G, G, G, G, E1, (ht.stk.ext eww), B2⟩
 rintro ka f1 wr ⟨j, hk, h0_1, h2_1, h3_1, h9_1, h10_1, h11_1, hE, hO, hbx⟩
 refine Sq (Sr (Mv (IN j) h11_1 (Mv (IN size) h2_1 (Bn G G BinR.lss (Me (.bool (decide (((j : Nat) : Int) < ((size : Nat) : Int)))) ?_)))))
 rcases Bool.eq_false_or_eq_true (decide (((j : Nat) : Int) < ((size : Nat) : Int))) with hg22 | hg22
 ·have hj : j < size := of_decide_eq_true (by have := of_decide_eq_true hg22; exact decide_eq_true (by omega))
  refine Gy hg22 (Mv (IN 2) h9_1 (Gy hg22 (Bt G G BinR.gtr (by decide) (Qt hg22 G (Ni (Ct G (WC.skip (Sq (Bk (Sr (Mv (IN 2) h9_1 (Bf G G BinR.eql (by decide) (Ni (Cf G (WC.drawL (fun w_ => Ext wr w_) 13 14 G mixed ?_)))))))))))))))
  intro wd_7 ed_7
  have R4 : Ext wr wd_7 := ed_7
  have E5 : Mod (At sv) w wd_7 := Mt hE (Mod.ext ed_7)
  refine Ti 0 (ptr b 0) G G (Mv (ptr b 0) h0_1 Ok) R4 (Ti 1 (ptr b 0) G G (WL.nilCheck G G Ok) R4 (Ti 2 (ptr b 2) G G (Fa G fo70_2 Ok) R4 (Tl 3 sv G G (fun _ hS => Le ((hbx.ext hS).cell (j := 2) G) Ok) R4 (Ti 4 (IN o) G G (Mv (IN o) h10_1 Ok) R4 (Ti 5 (IN j) G G (Mv (IN j) h11_1 Ok) R4 (Ti 6 (IN ((o + j))) G G (Bn G G (BinR.addN (by omega)) Ok) R4 (Ti 7 (U64 q) G G (Mv (U64 q) h3_1 Ok) R4 (Ti 8 (IN j) G G (Mv (IN j) h11_1 Ok) R4 (Ti 9 (IN ((8 * j))) G G (Bn G G (BinR.mulN (a := 8) (b := j) (by omega)) Ok) R4 (Ti 10 (U64 ((q >>> ((8 * j))))) G G (Bn G G BinR.shrU64 Ok) R4 (Ti 11 (U8 (((q >>> ((8 * j)))).setWidth 8)) G G (Cv G (ConvR.u64u8 y39 y5) Ok) R4 (Ti 12 (ptr g (0 + ((o + j)) * 1)) G G (WL.indexAddr (i := (o + j)) (b := g) (o := 0) el45 sz5 (Eq.trans G hsl) G (by omega) G Ok) R4 (WAL.one (i := 13) (m' := 16383) (by kernel_rfl) G G (WL.storeOwn (i := 0 + (o + j) * 1) (u := U8 (((q >>> ((8 * j)))).setWidth 8)) G G G sz5 (hO.ext ed_7) hsl (by omega) ?_))))))))))))))
  intro ws_ os ms
  have os2 : Ux.Own ws_ 1 sv 65536 (bsV (storeB M.s o q (j + 1)) 65536) := by rw [bsV_set, Nat.mul_one, Nat.zero_add] at os; exact os
  have E20 : Mod (At sv) w ws_ := Mt E5 ms
  refine WL.behindL (by kernel_rfl) (WAL.done (by kernel_rfl) (Rg (Mv (IN j) h11_1 (Bn G G (BinR.succN (by omega)) (Ae (IN (j + 1)) (Ni ?_))))))
  have B21 := (hbx.ext ed_7).mod ms hav
  exact ⟨ka - 1, by omega, (j + 1), by omega, h0_1, h2_1, h3_1, h9_1, h10_1, G, E20, os2, B21⟩
 ·have hj : j = size := by have := of_decide_eq_false hg22; omega
  refine Gz hg22 (Gz hg22 (Qf hg22 G (Ni (Cf G (WC.exit (Sr (Mv (IN 2) h9_1 (Bt G G BinR.gtr (by decide) (Ae (.bool true) (Ni (WC.ret ?_)))))))))))
  have htn : TurnR T w b (storeM M false o size q) ws wr := turnR_area ht hb false hE (by rw [← hj]; exact hO)
  exact ⟨_, Ro G G, G, htn⟩
end Go.Proofs.S
end
section
set_option linter.unusedSimpArgs false
set_option linter.unusedVariables false
namespace Go.Proofs.S
open Go Go.Ux Go.Ux.Mach Go.Proofs
open Tryz
theorem fo70_6 : fieldOff prog 70 6 = some 37 := by kernel_rfl
theorem bld46_62 (n : BitVec 64) : ∀ w : World, (Instr.build 38 #[(0, .int .u8 2), (1, I64 n)]).run prog w = .ok (.agg #[.int .u8 2, I64 n]) w := fun _ => by kernel_rfl
theorem bls46_63 (n : BitVec 64) : ∀ w : World, (Instr.buildSlice 34 1 #[(0, .agg #[U8 2#8, I64 n])]).run prog w = .ok (Sv w.heap.size 1 1) (w.alloc (.cells #[U8 2#8, I64 n] 38)) := fun _ => by kernel_rfl
theorem bld46_75 (n : BitVec 64) : ∀ w : World, (Instr.build 38 #[(0, .int .u8 3), (1, I64 n)]).run prog w = .ok (.agg #[.int .u8 3, I64 n]) w := fun _ => by kernel_rfl
theorem bls46_76 (n : BitVec 64) : ∀ w : World, (Instr.buildSlice 34 1 #[(0, .agg #[U8 3#8, I64 n])]).run prog w = .ok (Sv w.heap.size 1 1) (w.alloc (.cells #[U8 3#8, I64 n] 38)) := fun _ => by kernel_rfl
theorem bld46_91 (n : BitVec 64) : ∀ w : World, (Instr.build 38 #[(0, .int .u8 4), (1, I64 n)]).run prog w = .ok (.agg #[.int .u8 4, I64 n]) w := fun _ => by kernel_rfl
theorem bls46_92 (n : BitVec 64) : ∀ w : World, (Instr.buildSlice 34 1 #[(0, .agg #[U8 4#8, I64 n])]).run prog w = .ok (Sv w.heap.size 1 1) (w.alloc (.cells #[U8 4#8, I64 n] 38)) := fun _ => by kernel_rfl
theorem bld46_49 (n : BitVec 64) : ∀ w : World, (Instr.build 38 #[(0, .int .u8 1), (1, I64 n)]).run prog w = .ok (.agg #[.int .u8 1, I64 n]) w := fun _ => by kernel_rfl
theorem bls46_50 (n : BitVec 64) : ∀ w : World, (Instr.buildSlice 34 1 #[(0, .agg #[U8 1#8, I64 n])]).run prog w = .ok (Sv w.heap.size 1 1) (w.alloc (.cells #[U8 1#8, I64 n] 38)) := fun _ => by kernel_rfl
def callsR (M : MS) : MS := { (callsM M).1 with fin := match (callsM M).2 with | some false => some false | _ => M.fin }
theorem callsR_2 (T : Nat → Nat) (b : Nat) (M : MS) (ws : List (BitVec 32)) (w : World) (h : RR T w b M ws) (he : M.events.length < 8796093022208) (hfin : M.fin = none) (h17_1 : (M.x 17 == 1#64) = false) (h17 : (M.x 17 == 2#64) = true) : CallsR prog 46 #[ptr b 0] w (fun v w' => v = .bool true ∧ TurnR T w b (callsR M) ws w') := by
 obtain ⟨cv, dv, sv, iv, ev, hb, ht⟩ := h
 have hb0 : Blk w b (refCells cv dv sv iv M.x M.pc ev false false (I64 M.steps)) 70 := by have h0 := hb; unfold RCells at h0; rw [hfin] at h0; exact h0
 refine Co func46 G G ?_
 refine Sr (Ae (.bool false) (Ni (Sr (Me (ptr b 0) (WL.nilCheck G G (Fa G fo70_4 (WL.indexArr (i := 10) ar68 sz39 G G (by omega) G (Le (hb0.cell (j := 14) G) (Cv G (ConvR.u64i64 y39 y2) (Ae (I64 (M.x 10)) (Ni (Sq (Sr (Me (ptr b 0) (WL.nilCheck G G (Fa G fo70_4 (WL.indexArr (i := 17) ar68 sz39 G G (by omega) G (Le (hb0.cell (j := 21) G) (Ni (Bk ?_))))))))))))))))))))
 refine Sr (Bf (vy := U64 1#64) G G BinR.eqlU64 h17_1 (Ae (.bool false) (Ni (Cf G (Sr (Bt (vy := U64 2#64) G G BinR.eqlU64 h17 (Ae (.bool true) (Ni (Ct G (Rg (Me (ptr b 0) (Me (ptr b 0) (WL.nilCheck G G (Fa G fo70_6 (Le (hb0.cell (j := 37) G) (Me (I64 (M.x 10)) (WL.build (v := .agg #[.int .u8 2, I64 (M.x 10)]) (vs := [(0, .int .u8 2), (1, I64 (M.x 10))]) G (bld46_62 (M.x 10)) G (WL.buildSlice (vs := [(0, .agg #[.int .u8 2, I64 (M.x 10)])]) G (bls46_63 (M.x 10)) G ?_))))))))))))))))))
 intro b63 w63 n63
 have E1 : Mod (fun k => T k = 1 ∨ T k = 7) w w63 := (Mod.ext n63.ext)
 have O2 := ht.evs.ext n63.ext
 refine WL.append (k := M.events.length) (m := 1) (xs := evV M.events) (news := [U8 2#8, I64 (M.x 10)]) ap34 G G G O2 ((Sl.of1 n63.blk.cells G).src y34 (List.all_eq_true.1 G)) (by omega) (by omega) G ?_
 intro v64 w64 o64 m64 l64
 have F3 : LocV w ev v64 := LocV.trans (LocV.refl _ _) l64 (Mod.size E1)
 have B5 := hb0.ext n63.ext
 have N4 : v64.ownBlock ≠ some b := LocV.ne l64 B5.lt (fun e => by have := ht.te b e; rw [ht.tb] at this; cases this)
 have E6 : Mod (fun k => T k = 1 ∨ T k = 7) w w64 := Mt E1 (m64.imp (fun i _ e => .inr (ht.te i e)))
 refine WL.nilCheck G G (Fa G fo70_6 ?_)
 have B7 := B5.mod m64 ((fun e => by have := ht.te b e; rw [ht.tb] at this; cases this))
 refine WL.storeB (v := v64) G G o64.sl.one sz34 B7 (Nat.le_of_ble_eq_true G) ?_
 intro ws8 ms8 bs8 zs8
 have E8 : Mod (fun k => T k = 1 ∨ T k = 7) w ws8 := Mod.trans E6 (ms8.imp (fun i _ e => by subst e; exact .inl ht.tb))
 refine Ni (Sr (Ae (.bool true) (Ni (WC.ret ?_))))
 have e : callsR M = { M with events := M.events ++ [(2#8, M.x 10)] } := by unfold callsR callsM; simp only [h17_1, h17, Bool.false_eq_true, if_false, if_true]
 have O9 := o64.mod ms8 (fun g hg e => N4 (hg.trans (congrArg some e)))
 have htn : TurnR T w b (callsR M) ws ws8 := by rw [e]; exact turnR_ev (M := M) (l := M.events ++ [(2#8, M.x 10)]) ht E8 (by rw [evV_snoc]; simpa using O9) F3 (by simp) (by unfold RCells; rw [hfin]; exact bs8)
 exact ⟨_, Ro G G, G, htn⟩
theorem callsR_3 (T : Nat → Nat) (b : Nat) (M : MS) (ws : List (BitVec 32)) (w : World) (h : RR T w b M ws) (he : M.events.length < 8796093022208) (hfin : M.fin = none) (h17_1 : (M.x 17 == 1#64) = false) (h17_2 : (M.x 17 == 2#64) = false) (h17 : (M.x 17 == 3#64) = true) : CallsR prog 46 #[ptr b 0] w (fun v w' => v = .bool true ∧ TurnR T w b (callsR M) ws w') := by
 obtain ⟨cv, dv, sv, iv, ev, hb, ht⟩ := h
 have hb0 : Blk w b (refCells cv dv sv iv M.x M.pc ev false false (I64 M.steps)) 70 := by have h0 := hb; unfold RCells at h0; rw [hfin] at h0; exact h0
 refine Co func46 G G ?_
 refine Sr (Ae (.bool false) (Ni (Sr (Me (ptr b 0) (WL.nilCheck G G (Fa G fo70_4 (WL.indexArr (i := 10) ar68 sz39 G G (by omega) G (Le (hb0.cell (j := 14) G) (Cv G (ConvR.u64i64 y39 y2) (Ae (I64 (M.x 10)) (Ni (Sq (Sr (Me (ptr b 0) (WL.nilCheck G G (Fa G fo70_4 (WL.indexArr (i := 17) ar68 sz39 G G (by omega) G (Le (hb0.cell (j := 21) G) (Ni (Bk ?_))))))))))))))))))))
 refine Sr (Bf (vy := U64 1#64) G G BinR.eqlU64 h17_1 (Ae (.bool false) (Ni (Cf G (Sr (Bf (vy := U64 2#64) G G BinR.eqlU64 h17_2 (Ae (.bool false) (Ni (Cf G (Sr (Bt (vy := U64 3#64) G G BinR.eqlU64 h17 (Ae (.bool true) (Ni (Ct G (Sr (Me (ptr b 0) (Me (ptr b 0) (WL.nilCheck G G (Fa G fo70_6 ?_)))))))))))))))))))
 refine Le (hb0.cell (j := 37) G) (Me (I64 (M.x 10)) (WL.build (v := .agg #[.int .u8 3, I64 (M.x 10)]) (vs := [(0, .int .u8 3), (1, I64 (M.x 10))]) G (bld46_75 (M.x 10)) G (WL.buildSlice (vs := [(0, .agg #[.int .u8 3, I64 (M.x 10)])]) G (bls46_76 (M.x 10)) G ?_)))
 intro b76 w76 n76
 have E1 : Mod (fun k => T k = 1 ∨ T k = 7) w w76 := (Mod.ext n76.ext)
 have O2 := ht.evs.ext n76.ext
 refine WL.append (k := M.events.length) (m := 1) (xs := evV M.events) (news := [U8 3#8, I64 (M.x 10)]) ap34 G G G O2 ((Sl.of1 n76.blk.cells G).src y34 (List.all_eq_true.1 G)) (by omega) (by omega) G ?_
 intro v77 w77 o77 m77 l77
 have F3 : LocV w ev v77 := LocV.trans (LocV.refl _ _) l77 (Mod.size E1)
 have B5 := hb0.ext n76.ext
 have N4 : v77.ownBlock ≠ some b := LocV.ne l77 B5.lt (fun e => by have := ht.te b e; rw [ht.tb] at this; cases this)
 have E6 : Mod (fun k => T k = 1 ∨ T k = 7) w w77 := Mt E1 (m77.imp (fun i _ e => .inr (ht.te i e)))
 refine WL.nilCheck G G (Fa G fo70_6 ?_)
 have B7 := B5.mod m77 ((fun e => by have := ht.te b e; rw [ht.tb] at this; cases this))
 refine WL.storeB (v := v77) G G o77.sl.one sz34 B7 (Nat.le_of_ble_eq_true G) ?_
 intro ws8 ms8 bs8 zs8
 have E8 : Mod (fun k => T k = 1 ∨ T k = 7) w ws8 := Mod.trans E6 (ms8.imp (fun i _ e => by subst e; exact .inl ht.tb))
 refine Ni (Rg (Me (ptr b 0) (WL.nilCheck G G (Fa G fo70_7 (WL.storeB (v := .bool true) G G G sz4 bs8 (Nat.le_of_ble_eq_true G) ?_)))))
 intro ws9 ms9 bs9 zs9
 have E9 : Mod (fun k => T k = 1 ∨ T k = 7) w ws9 := Mod.trans E8 (ms9.imp (fun i _ e => by subst e; exact .inl ht.tb))
 refine Ni (Sr (Ae (.bool true) (Ni (WC.ret ?_))))
 have e : callsR M = { { M with fin := some false } with events := M.events ++ [(3#8, M.x 10)] } := by unfold callsR callsM; simp only [h17_1, h17_2, h17, Bool.false_eq_true, if_false, if_true]
 have O10 := (o77.mod ms8 (fun g hg e => N4 (hg.trans (congrArg some e)))).mod ms9 (fun g hg e => N4 (hg.trans (congrArg some e)))
 have htn : TurnR T w b (callsR M) ws ws9 := by rw [e]; exact turnR_ev (M := { M with fin := some false }) (l := M.events ++ [(3#8, M.x 10)]) (ht.regs M.x M.pc M.steps (some false)) E9 (by rw [evV_snoc]; simpa using O10) F3 (by simp) bs9
 exact ⟨_, Ro G G, G, htn⟩
theorem callsR_4 (T : Nat → Nat) (b : Nat) (M : MS) (ws : List (BitVec 32)) (w : World) (h : RR T w b M ws) (he : M.events.length < 8796093022208) (hfin : M.fin = none) (h17_1 : (M.x 17 == 1#64) = false) (h17_2 : (M.x 17 == 2#64) = false) (h17_3 : (M.x 17 == 3#64) = false) (h17 : (M.x 17 == 4#64) = true) : CallsR prog 46 #[ptr b 0] w (fun v w' => v = .bool true ∧ TurnR T w b (callsR M) ws w') := by
 obtain ⟨cv, dv, sv, iv, ev, hb, ht⟩ := h
 have hb0 : Blk w b (refCells cv dv sv iv M.x M.pc ev false false (I64 M.steps)) 70 := by have h0 := hb; unfold RCells at h0; rw [hfin] at h0; exact h0
 refine Co func46 G G ?_
 refine Sr (Ae (.bool false) (Ni (Sr (Me (ptr b 0) (WL.nilCheck G G (Fa G fo70_4 (WL.indexArr (i := 10) ar68 sz39 G G (by omega) G (Le (hb0.cell (j := 14) G) (Cv G (ConvR.u64i64 y39 y2) (Ae (I64 (M.x 10)) (Ni (Sq (Sr (Me (ptr b 0) (WL.nilCheck G G (Fa G fo70_4 (WL.indexArr (i := 17) ar68 sz39 G G (by omega) G (Le (hb0.cell (j := 21) G) (Ni (Bk ?_))))))))))))))))))))
 refine Sr (Bf (vy := U64 1#64) G G BinR.eqlU64 h17_1 (Ae (.bool false) (Ni (Cf G (Sr (Bf (vy := U64 2#64) G G BinR.eqlU64 h17_2 (Ae (.bool false) (Ni (Cf G (Sr (Bf (vy := U64 3#64) G G BinR.eqlU64 h17_3 (Ae (.bool false) (Ni (Cf G (Sr (Bt (vy := U64 4#64) G G BinR.eqlU64 h17 (Ae (.bool true) (Ni (Ct G ?_)))))))))))))))))))
 refine Sr (Me (ptr b 0) (Me (ptr b 0) (WL.nilCheck G G (Fa G fo70_6 (Le (hb0.cell (j := 37) G) (Me (I64 (M.x 10)) (WL.build (v := .agg #[.int .u8 4, I64 (M.x 10)]) (vs := [(0, .int .u8 4), (1, I64 (M.x 10))]) G (bld46_91 (M.x 10)) G (WL.buildSlice (vs := [(0, .agg #[.int .u8 4, I64 (M.x 10)])]) G (bls46_92 (M.x 10)) G ?_))))))))
 intro b92 w92 n92
 have E1 : Mod (fun k => T k = 1 ∨ T k = 7) w w92 := (Mod.ext n92.ext)
 have O2 := ht.evs.ext n92.ext
 refine WL.append (k := M.events.length) (m := 1) (xs := evV M.events) (news := [U8 4#8, I64 (M.x 10)]) ap34 G G G O2 ((Sl.of1 n92.blk.cells G).src y34 (List.all_eq_true.1 G)) (by omega) (by omega) G ?_
 intro v93 w93 o93 m93 l93
 have F3 : LocV w ev v93 := LocV.trans (LocV.refl _ _) l93 (Mod.size E1)
 have B5 := hb0.ext n92.ext
 have N4 : v93.ownBlock ≠ some b := LocV.ne l93 B5.lt (fun e => by have := ht.te b e; rw [ht.tb] at this; cases this)
 have E6 : Mod (fun k => T k = 1 ∨ T k = 7) w w93 := Mt E1 (m93.imp (fun i _ e => .inr (ht.te i e)))
 refine WL.nilCheck G G (Fa G fo70_6 ?_)
 have B7 := B5.mod m93 ((fun e => by have := ht.te b e; rw [ht.tb] at this; cases this))
 refine WL.storeB (v := v93) G G o93.sl.one sz34 B7 (Nat.le_of_ble_eq_true G) ?_
 intro ws8 ms8 bs8 zs8
 have E8 : Mod (fun k => T k = 1 ∨ T k = 7) w ws8 := Mod.trans E6 (ms8.imp (fun i _ e => by subst e; exact .inl ht.tb))
 refine Ni (Rg (Me (ptr b 0) (WL.nilCheck G G (Fa G fo70_7 (WL.storeB (v := .bool true) G G G sz4 bs8 (Nat.le_of_ble_eq_true G) ?_)))))
 intro ws9 ms9 bs9 zs9
 have E9 : Mod (fun k => T k = 1 ∨ T k = 7) w ws9 := Mod.trans E8 (ms9.imp (fun i _ e => by subst e; exact .inl ht.tb))
 refine Ni (Sr (Ae (.bool true) (Ni (WC.ret ?_))))
 have e : callsR M = { { M with fin := some false } with events := M.events ++ [(4#8, M.x 10)] } := by unfold callsR callsM; simp only [h17_1, h17_2, h17_3, h17, Bool.false_eq_true, if_false, if_true]
 have O10 := (o93.mod ms8 (fun g hg e => N4 (hg.trans (congrArg some e)))).mod ms9 (fun g hg e => N4 (hg.trans (congrArg some e)))
 have htn : TurnR T w b (callsR M) ws ws9 := by rw [e]; exact turnR_ev (M := { M with fin := some false }) (l := M.events ++ [(4#8, M.x 10)]) (ht.regs M.x M.pc M.steps (some false)) E9 (by rw [evV_snoc]; simpa using O10) F3 (by simp) bs9
 exact ⟨_, Ro G G, G, htn⟩
theorem callsR_5 (T : Nat → Nat) (b : Nat) (M : MS) (ws : List (BitVec 32)) (w : World) (h : RR T w b M ws) (he : M.events.length < 8796093022208) (hfin : M.fin = none) (h17_1 : (M.x 17 == 1#64) = false) (h17_2 : (M.x 17 == 2#64) = false) (h17_3 : (M.x 17 == 3#64) = false) (h17_4 : (M.x 17 == 4#64) = false) : CallsR prog 46 #[ptr b 0] w (fun v w' => v = .bool false ∧ TurnR T w b (callsR M) ws w') := by
 have hM0 := h
 obtain ⟨cv, dv, sv, iv, ev, hb, ht⟩ := h
 have hb0 : Blk w b (refCells cv dv sv iv M.x M.pc ev false false (I64 M.steps)) 70 := by have h0 := hb; unfold RCells at h0; rw [hfin] at h0; exact h0
 refine Co func46 G G ?_
 refine Sr (Ae (.bool false) (Ni (Sr (Me (ptr b 0) (WL.nilCheck G G (Fa G fo70_4 (WL.indexArr (i := 10) ar68 sz39 G G (by omega) G (Le (hb0.cell (j := 14) G) (Cv G (ConvR.u64i64 y39 y2) (Ae (I64 (M.x 10)) (Ni (Sq (Sr (Me (ptr b 0) (WL.nilCheck G G (Fa G fo70_4 (WL.indexArr (i := 17) ar68 sz39 G G (by omega) G (Le (hb0.cell (j := 21) G) (Ni (Bk ?_))))))))))))))))))))
 refine Sr (Bf (vy := U64 1#64) G G BinR.eqlU64 h17_1 (Ae (.bool false) (Ni (Cf G (Sr (Bf (vy := U64 2#64) G G BinR.eqlU64 h17_2 (Ae (.bool false) (Ni (Cf G (Sr (Bf (vy := U64 3#64) G G BinR.eqlU64 h17_3 (Ae (.bool false) (Ni (Cf G (Sr (Bf (vy := U64 4#64) G G BinR.eqlU64 h17_4 (Ae (.bool false) (Ni (Cf G ?_)))))))))))))))))))
 refine Sr (Ae (.bool false) (Ni (WC.ret ?_)))
 have e : callsR M = M := by unfold callsR callsM; simp only [h17_1, h17_2, h17_3, h17_4, Bool.false_eq_true, if_false, if_true]
 have htn : TurnR T w b (callsR M) ws w := by rw [e]; exact TurnR.ext (TurnR.refl hM0) (Mod.refl _ _)
 exact ⟨_, Ro G G, G, htn⟩
theorem callsR_1a (T : Nat → Nat) (b : Nat) (M : MS) (ws : List (BitVec 32)) (w : World) (h : RR T w b M ws) (he : M.events.length < 8796093022208) (hfin : M.fin = none)  (h17 : (M.x 17 == 1#64) = true) (hin : M.input = []) : CallsR prog 46 #[ptr b 0] w (fun v w' => v = .bool true ∧ TurnR T w b (callsR M) ws w') := by
 obtain ⟨cv, dv, sv, iv, ev, hb, ht⟩ := h
 have hb0 : Blk w b (refCells cv dv sv iv M.x M.pc ev false false (I64 M.steps)) 70 := by have h0 := hb; unfold RCells at h0; rw [hfin] at h0; exact h0
 refine Co func46 G G ?_
 refine Sr (Ae (.bool false) (Ni (Sr (Me (ptr b 0) (WL.nilCheck G G (Fa G fo70_4 (WL.indexArr (i := 10) ar68 sz39 G G (by omega) G (Le (hb0.cell (j := 14) G) (Cv G (ConvR.u64i64 y39 y2) (Ae (I64 (M.x 10)) (Ni (Sq (Sr (Me (ptr b 0) (WL.nilCheck G G (Fa G fo70_4 (WL.indexArr (i := 17) ar68 sz39 G G (by omega) G (Le (hb0.cell (j := 21) G) (Ni (Bk ?_))))))))))))))))))))
 refine Sr (Bt (vy := U64 1#64) G G BinR.eqlU64 h17 (Ae (.bool true) (Ni (Ct G (Sr (Ae (I64 0#64) (Ni (Sq (Sr (Me (ptr b 0) (WL.nilCheck G G (Fa G fo70_3 (Le (hb0.cell (j := 3) G) (WL.lenSl (sz := 1) (m := M.input.length) (xs := M.input.map I64) el26 G ht.input G (Bn G G BinR.gtr (Ni (Cf (congrArg Value.bool (by rw [hin]; rfl)) (WC.skip (Sr ?_)))))))))))))))))))
 refine Me (ptr b 0) (Me (I64 0#64) (Cv G (ConvR.i64u64 y2 y39) (WL.nilCheck G G (Fa G fo70_4 (WL.indexArr (i := 10) ar68 sz39 G G (by omega) G (WL.storeB (v := U64 0#64) G G G sz39 hb0 (Nat.le_of_ble_eq_true G) ?_))))))
 intro ws1 ms1 bs1 zs1
 have E1 : Mod (fun k => T k = 1 ∨ T k = 7) w ws1 := (ms1.imp (fun i _ e => by subst e; exact .inl ht.tb))
 refine Ni (Rg (Me (ptr b 0) (Me (ptr b 0) (WL.nilCheck G G (Fa G fo70_6 (Le (bs1.cell (j := 37) G) (Me (I64 0#64) (WL.build (v := .agg #[.int .u8 1, I64 0#64]) (vs := [(0, .int .u8 1), (1, I64 0#64)]) G (bld46_49 0#64) G (WL.buildSlice (vs := [(0, .agg #[.int .u8 1, I64 0#64])]) G (bls46_50 0#64) G ?_)))))))))
 intro b50 w50 n50
 have E2 : Mod (fun k => T k = 1 ∨ T k = 7) w w50 := Mt E1 (Mod.ext n50.ext)
 have O3 := (ht.evs.mod ms1 (fun g hg e => (fun e => by have := ht.te b e; rw [ht.tb] at this; cases this) (hg.trans (congrArg some e)))).ext n50.ext
 refine WL.append (k := M.events.length) (m := 1) (xs := evV M.events) (news := [U8 1#8, I64 0#64]) ap34 G G G O3 ((Sl.of1 n50.blk.cells G).src y34 (List.all_eq_true.1 G)) (by omega) (by omega) G ?_
 intro v51 w51 o51 m51 l51
 have F4 : LocV w ev v51 := LocV.trans (LocV.refl _ _) l51 (Mod.size E2)
 have B6 := bs1.ext n50.ext
 have N5 : v51.ownBlock ≠ some b := LocV.ne l51 B6.lt (fun e => by have := ht.te b e; rw [ht.tb] at this; cases this)
 have E7 : Mod (fun k => T k = 1 ∨ T k = 7) w w51 := Mt E2 (m51.imp (fun i _ e => .inr (ht.te i e)))
 refine WL.nilCheck G G (Fa G fo70_6 ?_)
 have B8 := B6.mod m51 ((fun e => by have := ht.te b e; rw [ht.tb] at this; cases this))
 refine WL.storeB (v := v51) G G o51.sl.one sz34 B8 (Nat.le_of_ble_eq_true G) ?_
 intro ws9 ms9 bs9 zs9
 have E9 : Mod (fun k => T k = 1 ∨ T k = 7) w ws9 := Mod.trans E7 (ms9.imp (fun i _ e => by subst e; exact .inl ht.tb))
 refine Ni (Sr (Ae (.bool true) (Ni (WC.ret ?_))))
 have e : callsR M = { { M with input := [], x := updR M.x 10 0#64 } with events := M.events ++ [(1#8, 0#64)] } := by unfold callsR callsM; simp only [h17, if_true, hin, List.headD_cons, List.headD_nil, List.tail_cons, List.tail_nil]
 have O10 := o51.mod ms9 (fun g hg e => N5 (hg.trans (congrArg some e)))
 have htn : TurnR T w b (callsR M) ws ws9 := by rw [e]; exact turnR_ev (M := { M with input := [], x := updR M.x 10 0#64 }) (l := M.events ++ [(1#8, 0#64)]) ((ht.regs (updR M.x 10 0#64) M.pc M.steps M.fin).inp (by have hi := ht.input; rw [hin] at hi; exact hi) rfl (fun h => absurd h (by decide))) E9 (by rw [evV_snoc]; simpa using O10) F4 (by simp) (by unfold RCells; dsimp only; rw [hfin]; exact bs9)
 exact ⟨_, Ro G G, G, htn⟩
theorem callsR_1b (T : Nat → Nat) (b : Nat) (M : MS) (ws : List (BitVec 32)) (w : World) (h : RR T w b M ws) (he : M.events.length < 8796093022208) (hfin : M.fin = none)  (h17 : (M.x 17 == 1#64) = true) (n : BitVec 64) (r : List (BitVec 64)) (hin : M.input = n :: r) : CallsR prog 46 #[ptr b 0] w (fun v w' => v = .bool true ∧ TurnR T w b (callsR M) ws w') := by
 obtain ⟨cv, dv, sv, iv, ev, hb, ht⟩ := h
 have hb0 : Blk w b (refCells cv dv sv iv M.x M.pc ev false false (I64 M.steps)) 70 := by have h0 := hb; unfold RCells at h0; rw [hfin] at h0; exact h0
 obtain ⟨gi, oi, ci, hiv, hic⟩ := ht.input.at (by rw [hin]; exact Nat.succ_pos _)
 have hcin : w.cell? ⟨gi, oi, none⟩ = some (I64 n) := hic 0 (I64 n) (by rw [hin]; rfl)
 have hgi : ¬ (T gi = 1 ∨ T gi = 7) := by have := ht.ti (by rw [hin]; exact Nat.succ_pos _) gi (by rw [hiv]; rfl); omega
 refine Co func46 G G ?_
 refine Sr (Ae (.bool false) (Ni (Sr (Me (ptr b 0) (WL.nilCheck G G (Fa G fo70_4 (WL.indexArr (i := 10) ar68 sz39 G G (by omega) G (Le (hb0.cell (j := 14) G) (Cv G (ConvR.u64i64 y39 y2) (Ae (I64 (M.x 10)) (Ni (Sq (Sr (Me (ptr b 0) (WL.nilCheck G G (Fa G fo70_4 (WL.indexArr (i := 17) ar68 sz39 G G (by omega) G (Le (hb0.cell (j := 21) G) (Ni (Bk ?_))))))))))))))))))))
 refine Sr (Bt (vy := U64 1#64) G G BinR.eqlU64 h17 (Ae (.bool true) (Ni (Ct G (Sr (Ae (I64 0#64) (Ni (Sq (Sr (Me (ptr b 0) (WL.nilCheck G G (Fa G fo70_3 (Le (hb0.cell (j := 3) G) (WL.lenSl (sz := 1) (m := M.input.length) (xs := M.input.map I64) el26 G ht.input G (Bn G G BinR.gtr (Ni (Ct (congrArg Value.bool (by rw [hin]; exact decide_eq_true (by simp only [List.length_cons]; omega))) (Sr (Me (ptr b 0) ?_)))))))))))))))))))
 refine WL.nilCheck G G (Fa G fo70_3 (Le (hb0.cell (j := 3) G) (WL.indexAddr (i := 0) (b := gi) (o := oi) el26 sz2 (Eq.trans G hiv) G (by rw [hin]; exact Nat.succ_pos _) G (Lx G hcin (Ae (I64 n) (Ni (Rg (Me (ptr b 0) (Me (ptr b 0) (WL.nilCheck G G (Fa G fo70_3 (Le (hb0.cell (j := 3) G) (WL.sliceFromV (sz := 1) (m := M.input.length) (xs := M.input.map I64) (j := 1) el26 sz2 G G (by rw [hin]; exact Nat.succ_pos _) ht.input G (WL.nilCheck G G (Fa G fo70_3 (WL.storeB (v := (sliceV iv 1 1)) G G ((ht.input.from (j := 1) (by rw [hin]; exact Nat.succ_pos _)).1).one sz26 hb0 (Nat.le_of_ble_eq_true G) ?_))))))))))))))))
 intro ws1 ms1 bs1 zs1
 have E1 : Mod (fun k => T k = 1 ∨ T k = 7) w ws1 := (ms1.imp (fun i _ e => by subst e; exact .inl ht.tb))
 refine Ni (Sr (Me (ptr b 0) (Me (I64 n) (Cv G (ConvR.i64u64 y2 y39) (WL.nilCheck G G (Fa G fo70_4 (WL.indexArr (i := 10) ar68 sz39 G G (by omega) G (WL.storeB (v := U64 n) G G G sz39 bs1 (Nat.le_of_ble_eq_true G) ?_))))))))
 intro ws2 ms2 bs2 zs2
 have E2 : Mod (fun k => T k = 1 ∨ T k = 7) w ws2 := Mod.trans E1 (ms2.imp (fun i _ e => by subst e; exact .inl ht.tb))
 refine Ni (Rg (Me (ptr b 0) (Me (ptr b 0) (WL.nilCheck G G (Fa G fo70_6 (Le (bs2.cell (j := 37) G) (Me (I64 n) (WL.build (v := .agg #[.int .u8 1, I64 n]) (vs := [(0, .int .u8 1), (1, I64 n)]) G (bld46_49 n) G (WL.buildSlice (vs := [(0, .agg #[.int .u8 1, I64 n])]) G (bls46_50 n) G ?_)))))))))
 intro b50 w50 n50
 have E3 : Mod (fun k => T k = 1 ∨ T k = 7) w w50 := Mt E2 (Mod.ext n50.ext)
 have O4 := ((ht.evs.mod ms1 (fun g hg e => (fun e => by have := ht.te b e; rw [ht.tb] at this; cases this) (hg.trans (congrArg some e)))).mod ms2 (fun g hg e => (fun e => by have := ht.te b e; rw [ht.tb] at this; cases this) (hg.trans (congrArg some e)))).ext n50.ext
 refine WL.append (k := M.events.length) (m := 1) (xs := evV M.events) (news := [U8 1#8, I64 n]) ap34 G G G O4 ((Sl.of1 n50.blk.cells G).src y34 (List.all_eq_true.1 G)) (by omega) (by omega) G ?_
 intro v51 w51 o51 m51 l51
 have F5 : LocV w ev v51 := LocV.trans (LocV.refl _ _) l51 (Mod.size E3)
 have B7 := bs2.ext n50.ext
 have N6 : v51.ownBlock ≠ some b := LocV.ne l51 B7.lt (fun e => by have := ht.te b e; rw [ht.tb] at this; cases this)
 have E8 : Mod (fun k => T k = 1 ∨ T k = 7) w w51 := Mt E3 (m51.imp (fun i _ e => .inr (ht.te i e)))
 refine WL.nilCheck G G (Fa G fo70_6 ?_)
 have B9 := B7.mod m51 ((fun e => by have := ht.te b e; rw [ht.tb] at this; cases this))
 refine WL.storeB (v := v51) G G o51.sl.one sz34 B9 (Nat.le_of_ble_eq_true G) ?_
 intro ws10 ms10 bs10 zs10
 have E10 : Mod (fun k => T k = 1 ∨ T k = 7) w ws10 := Mod.trans E8 (ms10.imp (fun i _ e => by subst e; exact .inl ht.tb))
 refine Ni (Sr (Ae (.bool true) (Ni (WC.ret ?_))))
 have e : callsR M = { { M with input := r, x := updR M.x 10 n } with events := M.events ++ [(1#8, n)] } := by unfold callsR callsM; simp only [h17, if_true, hin, List.headD_cons, List.headD_nil, List.tail_cons, List.tail_nil]
 have O11 := o51.mod ms10 (fun g hg e => N6 (hg.trans (congrArg some e)))
 have htn : TurnR T w b (callsR M) ws ws10 := by rw [e]; exact turnR_ev (M := { M with input := r, x := updR M.x 10 n }) (l := M.events ++ [(1#8, n)]) ((ht.regs (updR M.x 10 n) M.pc M.steps M.fin).inp (by have hi := ht.input.from (j := 1) (by rw [hin]; exact Nat.succ_pos _); rw [hin] at hi; simpa using hi.1) ((ht.input.from (j := 1) (by rw [hin]; exact Nat.succ_pos _)).2) (fun _ => by rw [hin]; exact Nat.succ_pos _)) E10 (by rw [evV_snoc]; simpa using O11) F5 (by simp) (by unfold RCells; dsimp only; rw [hfin]; exact bs10)
 exact ⟨_, Ro G G, G, htn⟩
theorem callsR_spec (T : Nat → Nat) (b : Nat) (M : MS) (ws : List (BitVec 32)) (w : World) (h : RR T w b M ws) (he : M.events.length < 8796093022208) (hfin : M.fin = none) : CallsR prog 46 #[ptr b 0] w (fun v w' => v = .bool (!((callsM M).2 == some true)) ∧ TurnR T w b (callsR M) ws w') := by
 rcases Bool.eq_false_or_eq_true (M.x 17 == 1#64) with h1 | h1
 ·have e : (callsM M).2 = none := by unfold callsM; simp only [h1, if_true]
  rw [e]
  rcases hin : M.input with _ | ⟨n, r⟩
  ·exact callsR_1a T b M ws w h he hfin h1 hin
  ·exact callsR_1b T b M ws w h he hfin h1 n r hin
 rcases Bool.eq_false_or_eq_true (M.x 17 == 2#64) with h2 | h2
 ·have e : (callsM M).2 = none := by unfold callsM; simp only [h1, h2, Bool.false_eq_true, if_false, if_true]
  rw [e]; exact callsR_2 T b M ws w h he hfin h1 h2
 rcases Bool.eq_false_or_eq_true (M.x 17 == 3#64) with h3 | h3
 ·have e : (callsM M).2 = some false := by unfold callsM; simp only [h1, h2, h3, Bool.false_eq_true, if_false, if_true]
  rw [e]; exact callsR_3 T b M ws w h he hfin h1 h2 h3
 rcases Bool.eq_false_or_eq_true (M.x 17 == 4#64) with h4 | h4
 ·have e : (callsM M).2 = some false := by unfold callsM; simp only [h1, h2, h3, h4, Bool.false_eq_true, if_false, if_true]
  rw [e]; exact callsR_4 T b M ws w h he hfin h1 h2 h3 h4
 ·have e : (callsM M).2 = some true := by unfold callsM; simp only [h1, h2, h3, h4, Bool.false_eq_true, if_false]
  rw [e]; exact callsR_5 T b M ws w h he hfin h1 h2 h3 h4
end Go.Proofs.S
end
section
namespace Go.Proofs.S
open Go Go.Ux Go.Ux.Mach Go.Proofs Go.Proofs.M Go.Ux.Image
open Go.Proofs.N (doM loadsM)
set_option linter.unusedVariables false
theorem signedQ_int (y : BitVec 64) (b : Nat) (hb : b = 12 ∨ b = 13 ∨ b = 21 ∨ b = 32) (h : y.toNat < 2 ^ b) : (signedQ y b).toInt = if (2 : Int) ^ (b - 1) ≤ (y.toNat : Int) then (y.toNat : Int) - 2 ^ b else (y.toNat : Int) := by
 have c : ∀ s : Bool, (bif s then y - 1#64 <<< b else y).toInt = bif s then (y - 1#64 <<< b).toInt else y.toInt := fun s => by cases s <;> rfl
 unfold signedQ
 rw [c]
 have hy : y.toInt = (y.toNat : Int) := by rw [BitVec.toInt_eq_toNat_cond]; rcases hb with rfl | rfl | rfl | rfl <;> (split <;> omega)
 have h1 : (1#64 <<< (b - 1)).toInt = 2 ^ (b - 1) := by rcases hb with rfl | rfl | rfl | rfl <;> decide
 have h2 : (y - 1#64 <<< b).toNat = (18446744073709551616 - 2 ^ b + y.toNat) % 18446744073709551616 := by rw [BitVec.toNat_sub]; rcases hb with rfl | rfl | rfl | rfl <;> rfl
 have hs : BitVec.sle (1#64 <<< (b - 1)) y = decide ((2 : Int) ^ (b - 1) ≤ (y.toNat : Int)) := by unfold BitVec.sle; rw [h1, hy]
 rw [hs, hy, BitVec.toInt_eq_toNat_cond, h2]
 by_cases hc : (2 : Int) ^ (b - 1) ≤ (y.toNat : Int)
 ·rw [decide_eq_true hc, if_pos hc]
  simp only [cond_true]
  rcases hb with rfl | rfl | rfl | rfl <;> (split <;> omega)
 ·rw [decide_eq_false hc, if_neg hc]; rfl
theorem low_zero (n : BitVec 64) (k : Nat) (hk : k < 64) (h : n.toNat % 2 ^ k = 0) : (n &&& BitVec.ofNat 64 (2 ^ k - 1)) = 0#64 := by
 apply BitVec.eq_of_toNat_eq
 rw [and_low _ _ hk, h]; rfl
theorem fits_sgn (f : RvForm) (y : BitVec 64) (b k : Nat) (hb : b = 12 ∨ b = 13 ∨ b = 21 ∨ b = 32) (hk : k < b) (h : y.toNat < 2 ^ b) (hy : y.toNat % 2 ^ k = 0) (lo hi : BitVec 64) (hlo : lo.toInt = -(2 : Int) ^ (b - 1)) (hhi : hi.toInt = (2 : Int) ^ (b - 1))
  (hf : fitsF f (signedQ y b) = (BitVec.sle lo (signedQ y b) && BitVec.slt (signedQ y b) hi && ((signedQ y b &&& BitVec.ofNat 64 (2 ^ k - 1)) == 0#64))) : fitsF f (signedQ y b) = true := by
 have hz := signedQ_int y b hb h
 rw [hf, low_zero]
 ·simp only [BitVec.sle, BitVec.slt, hlo, hhi, Bool.and_eq_true, decide_eq_true_eq]
  refine ⟨⟨?_, ?_⟩, by decide⟩ <;> (rw [hz]; rcases hb with rfl | rfl | rfl | rfl <;> (split <;> omega))
 ·omega
 ·have := nat_of_int hz
  have e : (2 : Nat) ^ b = 2 ^ (b - k) * 2 ^ k := by rw [← Nat.pow_add]; congr 1; omega
  by_cases hc : (2 : Int) ^ (b - 1) ≤ (y.toNat : Int)
  ·rw [if_pos hc] at this
   have hneg : (y.toNat : Int) - 2 ^ b < 0 := by rcases hb with rfl | rfl | rfl | rfl <;> omega
   rw [if_pos hneg] at this
   have e2 : (signedQ y b).toNat = y.toNat + (18446744073709551616 - 2 ^ b) := by rcases hb with rfl | rfl | rfl | rfl <;> omega
   have e3 : (18446744073709551616 - 2 ^ b) % 2 ^ k = 0 := by
    have : (18446744073709551616 : Nat) = 2 ^ (64 - b) * 2 ^ b := by rw [← Nat.pow_add]; rw [show 64 - b + b = 64 by omega]
    have h6 : (18446744073709551616 : Nat) - 2 ^ b = (2 ^ (64 - b) - 1) * 2 ^ b := by rw [this, Nat.sub_mul, Nat.one_mul]
    rw [h6, e, ← Nat.mul_assoc]; exact Nat.mul_mod_left _ _
   rw [e2, Nat.add_mod, hy, e3]; rfl
  ·rw [if_neg hc] at this
   have h0 : ¬ ((y.toNat : Int) < 0) := by omega
   rw [if_neg h0] at this
   have e2 : (signedQ y b).toNat = y.toNat := by omega
   rw [e2]; exact hy
set_option maxHeartbeats 4000000 in
theorem fits_num (x : BitVec 32) (k : FK) : fitsF (formOf k) (number (formOf k) x) = true := by
 have hq := number_eq x k
 rw [← hq]
 cases k
 ·show fitsF (formOf .R) (numberQ x (fch .R)) = true
  rw [show numberQ x (fch _) = 0#64 from rfl]; rfl
 ·exact fits_sgn (formOf .I) ((fieldQ x 20 12).setWidth 64) 12 0 (.inl G) (by decide) (by rw [sw64]; exact fld_lt x 20 12 (by decide)) (Nat.mod_one _) (BitVec.ofInt 64 (-2048)) (BitVec.ofInt 64 2048) (by decide) (by decide) (by kernel_rfl)
 ·show fitsF (formOf .H) ((fieldQ x 20 6).setWidth 64) = true
  have h := fld_lt x 20 6 (by decide)
  have e := sw64 (fieldQ x 20 6)
  generalize (fieldQ x 20 6).setWidth 64 = n at *
  show (BitVec.sle 0#64 n && BitVec.slt n 64#64 && ((n &&& 0#64) == 0#64)) = true
  have hn : n.toInt = (n.toNat : Int) := by rw [BitVec.toInt_eq_toNat_cond]; split <;> omega
  have h0 : (0#64).toInt = 0 := rfl
  have h64 : (64#64).toInt = 64 := rfl
  simp only [BitVec.sle, BitVec.slt, hn, h0, h64, BitVec.and_zero, Bool.and_eq_true, decide_eq_true_eq]
  exact ⟨⟨by omega, by omega⟩, by decide⟩
 ·show fitsF (formOf .W) ((fieldQ x 20 5).setWidth 64) = true
  have h := fld_lt x 20 5 (by decide)
  have e := sw64 (fieldQ x 20 5)
  generalize (fieldQ x 20 5).setWidth 64 = n at *
  show (BitVec.sle 0#64 n && BitVec.slt n 32#64 && ((n &&& 0#64) == 0#64)) = true
  have hn : n.toInt = (n.toNat : Int) := by rw [BitVec.toInt_eq_toNat_cond]; split <;> omega
  have h0 : (0#64).toInt = 0 := rfl
  have h32 : (32#64).toInt = 32 := rfl
  simp only [BitVec.sle, BitVec.slt, hn, h0, h32, BitVec.and_zero, Bool.and_eq_true, decide_eq_true_eq]
  exact ⟨⟨by omega, by omega⟩, by decide⟩
 ·obtain ⟨h1, h2⟩ := num_S (fieldQ x 25 7) (fieldQ x 7 5) (fld_lt x 25 7 (by decide)) (fld_lt x 7 5 (by decide))
  exact fits_sgn (formOf .S) ((fieldQ x 25 7 <<< 5 ||| fieldQ x 7 5).setWidth 64) 12 0 (.inl G) (by decide) h2 (Nat.mod_one _) (BitVec.ofInt 64 (-2048)) (BitVec.ofInt 64 2048) (by decide) (by decide) (by kernel_rfl)
 ·obtain ⟨h1, h2⟩ := num_B (fieldQ x 31 1) (fieldQ x 7 1) (fieldQ x 25 6) (fieldQ x 8 4) (fld_lt x 31 1 (by decide)) (fld_lt x 7 1 (by decide)) (fld_lt x 25 6 (by decide)) (fld_lt x 8 4 (by decide))
  refine fits_sgn (formOf .B) ((fieldQ x 31 1 <<< 12 ||| fieldQ x 7 1 <<< 11 ||| fieldQ x 25 6 <<< 5 ||| fieldQ x 8 4 <<< 1).setWidth 64) 13 1 (.inr (.inl G)) (by decide) h2 ?_ (BitVec.ofInt 64 (-4096)) (BitVec.ofInt 64 4096) (by decide) (by decide) (by kernel_rfl)
  rw [h1, BitVec.toNat_shiftLeft, Nat.shiftLeft_eq]; omega
 ·have h := fld_lt x 12 20 (by decide)
  have h2 : ((fieldQ x 12 20).setWidth 64 <<< 12).toNat < 2 ^ 32 := by rw [sl64 _ 12 (by rw [sw64]; omega), sw64]; omega
  refine fits_sgn (formOf .U) ((fieldQ x 12 20).setWidth 64 <<< 12) 32 12 (.inr (.inr (.inr G))) (by decide) h2 ?_ (BitVec.ofInt 64 (-2147483648)) (BitVec.ofInt 64 2147483648) (by decide) (by decide) (by kernel_rfl)
  rw [BitVec.toNat_shiftLeft, Nat.shiftLeft_eq]; omega
 ·obtain ⟨h1, h2⟩ := num_J (fieldQ x 31 1) (fieldQ x 12 8) (fieldQ x 20 1) (fieldQ x 21 10) (fld_lt x 31 1 (by decide)) (fld_lt x 12 8 (by decide)) (fld_lt x 20 1 (by decide)) (fld_lt x 21 10 (by decide))
  refine fits_sgn (formOf .J) ((fieldQ x 31 1 <<< 20 ||| fieldQ x 12 8 <<< 12 ||| fieldQ x 20 1 <<< 11 ||| fieldQ x 21 10 <<< 1).setWidth 64) 21 1 (.inr (.inr (.inl G))) (by decide) h2 ?_ (BitVec.ofInt 64 (-1048576)) (BitVec.ofInt 64 1048576) (by decide) (by decide) (by kernel_rfl)
  rw [h1, BitVec.toNat_shiftLeft, Nat.shiftLeft_eq]; omega
 ·show fitsF (formOf .E) (numberQ x (fch .E)) = true
  rw [show numberQ x (fch _) = 0#64 from rfl]; rfl
 ·show fitsF (formOf .Z) (numberQ x (fch .Z)) = true
  rw [show numberQ x (fch _) = 0#64 from rfl]; rfl
theorem num_none (x : BitVec 32) (k : FK) (h : (formOf k).imm.length = 0) : number (formOf k) x = 0#64 := by
 cases k <;> first | (exfalso; revert h; decide) | kernel_rfl
theorem may_reg (has : Bool) (q : Nat) (x : BitVec 32) : mayF has (decReg has (q, 5) x) = true := by
 have h := decReg_lt has q x
 unfold mayF
 have h1 : BitVec.ult (decReg has (q, 5) x) 32#8 = true := by unfold BitVec.ult; exact decide_eq_true (by show _ < 32; exact h)
 rw [h1]
 cases has
 ·rfl
 ·rfl
theorem enc_dec {x : BitVec 32} {i : Nat} (h0 : 1 ≤ i) (h : i < 66) : (encodeR (decodeAt i x)).2 = 0 := by
 have ho : (decodeAt i x).op.toNat = i := by show (BitVec.ofNat 8 i).toNat = i; rw [BitVec.toNat_ofNat]; omega
 have hb : encBad (decodeAt i x) = false := by
  unfold encBad
  rw [ho]
  have h1 : mayF (formOf (rvAt i).k).rd (decodeAt i x).rd = true := may_reg _ 7 x
  have h2 : mayF (formOf (rvAt i).k).rs1 (decodeAt i x).rs1 = true := may_reg _ 15 x
  have h3 : mayF (formOf (rvAt i).k).rs2 (decodeAt i x).rs2 = true := may_reg _ 20 x
  rw [h1, h2, h3]
  rcases hl : (((((formOf (rvAt i).k).imm.length : Nat) : Int) == (0 : Int))) with _ | _
  ·rfl
  ·have : (formOf (rvAt i).k).imm.length = 0 := by simpa using hl
   have hz : (decodeAt i x).imm = 0#64 := num_none x (rvAt i).k this
   rw [hz]; rfl
 have hf : fitsF (formOf (rvAt (decodeAt i x).op.toNat).k) (decodeAt i x).imm = true := by rw [ho]; exact fits_num x _
 unfold encodeR
 rw [if_neg (by rw [ho]; omega), hb, hf]; rfl
theorem writes_dec {x : BitVec 32} {i : Nat} (h0 : 1 ≤ i) (h : i < 66) : writesF (decodeAt i x) = !((decodeAt i x).rd == 0#8) := by
 have ho : (decodeAt i x).op.toNat = i := by show (BitVec.ofNat 8 i).toNat = i; rw [BitVec.toNat_ofNat]; omega
 rw [writes_of (enc_dec h0 h), ho]
 have e : (decodeAt i x).rd = decReg (formOf (rvAt i).k).rd (7, 5) x := rfl
 rw [e]
 cases (formOf (rvAt i).k).rd <;> rfl
def c0 (i : Nat) : BitVec 8 := ((rvAt i).name.getD 0 0).toBitVec
def cL (i : Nat) : BitVec 8 := ((rvAt i).name.getD ((rvAt i).name.length - 1) 0).toBitVec
theorem say_loads : ((List.range 66).all fun i => !(decide (0 < (loadsM i).1)) || ((c0 i == 108#8) && (sizeQ (rvAt i).name == (loadsM i).1) && ((cL i != 117#8) == (loadsM i).2))) = true := by kernel_rfl
theorem say_stores : ((List.range 66).all fun i => !(decide (18 ≤ i ∧ i ≤ 21)) || ((c0 i == 115#8) && !(c0 i == 108#8) && (sizeQ (rvAt i).name == 2 ^ (i - 18)))) = true := by kernel_rfl
theorem say_else : ((List.range 66).all fun i => decide (0 < (loadsM i).1) || decide (18 ≤ i ∧ i ≤ 21) || i == 64 || i == 65 || i == 0 || ((sizeQ (rvAt i).name == 0) && !(c0 i == 101#8))) = true := by kernel_rfl
theorem say_call : (c0 64 == 108#8) = false ∧ (c0 64 == 115#8) = false ∧ (c0 64 == 101#8) = true := by decide
theorem say_fence : ((List.range 66).all fun i => ((rvAt i).name == [102, 101, 110, 99, 101]) == (i == 63)) = true := by kernel_rfl
theorem say_break : ((List.range 66).all fun i => ((rvAt i).name == [101, 98, 114, 101, 97, 107]) == (i == 65)) = true := by kernel_rfl
theorem say_long : ((List.range 66).all fun i => i == 0 || decide (0 < (rvAt i).name.length)) = true := by kernel_rfl
theorem loads_size {i : Nat} (h : 0 < (loadsM i).1) : (loadsM i).1 = 1 ∨ (loadsM i).1 = 2 ∨ (loadsM i).1 = 4 ∨ (loadsM i).1 = 8 := by
 unfold loadsM at h ⊢
 split at h <;> first | (exfalso; revert h; decide) | decide
end Go.Proofs.S
end
section
set_option linter.unusedSimpArgs false
set_option linter.unusedVariables false
namespace Go.Proofs.S
open Go Go.Ux Go.Ux.Mach Go.Proofs
open Tryz
theorem fo70_5 : fieldOff prog 70 5 = some 36 := by kernel_rfl
open Go.Ux.Image
noncomputable def mid26 : Code := match Tryz.f26.body with
 | some c => codeFrom 12 c
 | none => .skip
noncomputable def tail26 : Code := match Tryz.f26.body with
 | some c => codeFrom 13 c
 | none => .skip
abbrev Fin26 (S : Value → World → Prop) : Exit → Fr → World → Prop := Ux.Fin prog Tryz.f26 165 S
def putQ (M : MS) (nm : List UInt8) (rd : BitVec 8) (v nx : BitVec 64) : MS := { putR M (if (nm == [102, 101, 110, 99, 101]) = true then 0#8 else rd) v with pc := nx }
theorem loadRR_some (T : Nat → Nat) (b : Nat) (M : MS) (ws : List (BitVec 32)) (w : World) (h : RR T w b M ws) (addr : BitVec 64) (z : Nat) (k : Bool) (o : Nat) (hz : z = 1 ∨ z = 2 ∨ z = 4 ∨ z = 8) (hW : whereM M.n addr z = some (k, o)) :
  CallsR prog 24 #[ptr b 0, U64 addr, IN z] w (fun v w' => v = .tuple #[U64 (loadB (if k then M.d else M.s) o z), .bool true] ∧ Ext w w') := by
 obtain ⟨cv, dv, sv, iv, ev, hb, ht⟩ := h
 have h1 := whereR_some hz hW
 have h2 := whereM_le hW
 cases k
 ·have := load_r2 addr z o b cv dv sv iv M.x M.pc ev M.fin.isSome (M.fin == some true) (I64 M.steps) M.n M.d M.s w hb ht.data.sl ht.n_le ht.stk.sl hz h1 h2
  rw [loadT_eq] at this; exact this
 ·have := load_r1 addr z o b cv dv sv iv M.x M.pc ev M.fin.isSome (M.fin == some true) (I64 M.steps) M.n M.d M.s w hb ht.data.sl ht.n_le ht.stk.sl hz h1 h2
  rw [loadT_eq] at this; exact this
theorem loadRR_none (T : Nat → Nat) (b : Nat) (M : MS) (ws : List (BitVec 32)) (w : World) (h : RR T w b M ws) (addr : BitVec 64) (z : Nat) (hz : z = 1 ∨ z = 2 ∨ z = 4 ∨ z = 8) (hW : whereM M.n addr z = none) :
  CallsR prog 24 #[ptr b 0, U64 addr, IN z] w (fun v w' => v = .tuple #[U64 0#64, .bool false] ∧ Ext w w') := by
 obtain ⟨cv, dv, sv, iv, ev, hb, ht⟩ := h
 exact load_r0 addr z b cv dv sv iv M.x M.pc ev M.fin.isSome (M.fin == some true) (I64 M.steps) M.n M.d (fun _ => 0#8) w hb ht.data.sl ht.n_le hz (whereR_none hz hW)
theorem storeRR_some (T : Nat → Nat) (b : Nat) (M : MS) (ws : List (BitVec 32)) (w : World) (h : RR T w b M ws) (addr q : BitVec 64) (z : Nat) (k : Bool) (o : Nat) (hz : z = 1 ∨ z = 2 ∨ z = 4 ∨ z = 8) (hW : whereM M.n addr z = some (k, o)) :
  CallsR prog 45 #[ptr b 0, U64 addr, IN z, U64 q] w (fun v w' => v = .bool true ∧ TurnR T w b (storeM M k o z q) ws w') := by
 cases k
 ·exact storeR_false T b M ws w h addr q z hz o hW
 ·exact storeR_true T b M ws w h addr q z hz o hW
theorem tailR_ok (T : Nat → Nat) (b : Nat) (M : MS) (ws : List (BitVec 32)) (nm : List UInt8) (y nx : BitVec 64) (rd : BitVec 8) (S : Value → World → Prop) (f : Fr) (w : World) (hM : RR T w b M ws) (f0 : f 0 = ptr b 0) (f6 : f 6 = St nm) (f9 : f 9 = U64 y) (f10 : f 10 = U64 nx) (f12 : f 12 = U8 rd) (f11 : f 11 = .bool true) (hr : rd.toNat < 32) (hS : ∀ w', TurnR T w b (putQ M nm rd y nx) ws w' → S (.bool true) w') : WC prog tail26 165 f w (Fin26 S) := by
 refine Sq (Sr (Mv (St nm) f6 (Bn (vy := St [102, 101, 110, 99, 101]) G G BinR.eqlS (Ni ?_))))
 refine WC.cond G (fun hc152 => ?_) (fun hc152 => ?_)
 ·refine Rg (Ae (U8 0#8) (Ni (Sq (Sr (Mv (.bool true) f11 (WL.un G G UnR.not (Ni (Cf G (WC.skip (Sr (Mv (ptr b 0) f0 (Me (U8 0#8) (Mv (U64 y) f9 (Ca (put_q T b M ws _ hM 0#8 y (by decide)) ?_))))))))))))))
  rintro v160 w1 ⟨T1, hR1, mp1, hs1⟩
  obtain ⟨M1, hM1⟩ : ∃ M1, M1 = putR M 0#8 y := ⟨_, rfl⟩
  rw [← hM1] at hR1
  obtain ⟨cv, dv, sv, iv, ev, hb, ht⟩ := hR1
  refine Ni (Sr (Mv (ptr b 0) f0 (Mv (U64 nx) f10 (WL.nilCheck G G (Fa G fo70_5 (WL.storeB (v := U64 nx) G G G sz39 hb (Nat.le_of_ble_eq_true G) ?_))))))
  intro ws1 ms1 bs1 zs1
  have E1 : Mod (fun k => T1 k = 1) w1 ws1 := (ms1.imp (fun i _ e => by subst e; exact ht.tb))
  refine Ni (Sr (Ae (.bool true) (Ni (WC.ret ?_))))
  have htn : TurnR T w b (putQ M nm rd y nx) ws ws1 := by
   have hq : putQ M nm rd y nx = { M1 with pc := nx } := by unfold putQ; rw [hM1, hc152]; rfl
   rw [hq]; exact TurnR.trans mp1 hs1 (TurnR.own ⟨cv, dv, sv, iv, ev, bs1, (ht.own E1).regs M1.x nx M1.steps M1.fin⟩ (Mod.fp E1))
  exact ⟨_, Ro G G, hS _ htn⟩
 ·refine WC.skip (Sq (Sr (Mv (.bool true) f11 (WL.un G G UnR.not (Ni (Cf G (WC.skip (Sr (Mv (ptr b 0) f0 (Mv (U8 rd) f12 (Mv (U64 y) f9 (Ca (put_q T b M ws _ hM rd y hr) ?_))))))))))))
  rintro v160 w1 ⟨T1, hR1, mp1, hs1⟩
  obtain ⟨M1, hM1⟩ : ∃ M1, M1 = putR M rd y := ⟨_, rfl⟩
  rw [← hM1] at hR1
  obtain ⟨cv, dv, sv, iv, ev, hb, ht⟩ := hR1
  refine Ni (Sr (Mv (ptr b 0) f0 (Mv (U64 nx) f10 (WL.nilCheck G G (Fa G fo70_5 (WL.storeB (v := U64 nx) G G G sz39 hb (Nat.le_of_ble_eq_true G) ?_))))))
  intro ws2 ms2 bs2 zs2
  have E2 : Mod (fun k => T1 k = 1) w1 ws2 := (ms2.imp (fun i _ e => by subst e; exact ht.tb))
  refine Ni (Sr (Ae (.bool true) (Ni (WC.ret ?_))))
  have htn : TurnR T w b (putQ M nm rd y nx) ws ws2 := by
   have hq : putQ M nm rd y nx = { M1 with pc := nx } := by unfold putQ; rw [hM1, hc152]; rfl
   rw [hq]; exact TurnR.trans mp1 hs1 (TurnR.own ⟨cv, dv, sv, iv, ev, bs2, (ht.own E2).regs M1.x nx M1.steps M1.fin⟩ (Mod.fp E2))
  exact ⟨_, Ro G G, hS _ htn⟩
theorem tailR_no (T : Nat → Nat) (b : Nat) (M : MS) (ws : List (BitVec 32)) (nm : List UInt8) (y nx : BitVec 64) (rd : BitVec 8) (S : Value → World → Prop) (f : Fr) (w : World) (hM : RR T w b M ws) (f0 : f 0 = ptr b 0) (f6 : f 6 = St nm) (f9 : f 9 = U64 y) (f10 : f 10 = U64 nx) (f12 : f 12 = U8 rd) (f11 : f 11 = .bool false) (hS : ∀ w', TurnR T w b { M with fin := some true } ws w' → S (.bool true) w') : WC prog tail26 165 f w (Fin26 S) := by
 refine Sq (Sr (Mv (St nm) f6 (Bn (vy := St [102, 101, 110, 99, 101]) G G BinR.eqlS (Ni ?_))))
 refine WC.cond G (fun hc152 => ?_) (fun hc152 => ?_)
 ·refine Rg (Ae (U8 0#8) (Ni (Sq (Sr (Mv (.bool false) f11 (WL.un G G UnR.not (Ni (Ct G (Sr (Mv (ptr b 0) f0 (Ca (trap_q T b M ws _ hM) ?_)))))))))))
  rintro v155 w1 htn
  refine Ni (Sr (Ae (.bool true) (Ni (WC.ret ?_))))
  exact ⟨_, Ro G G, hS _ htn⟩
 ·refine WC.skip (Sq (Sr (Mv (.bool false) f11 (WL.un G G UnR.not (Ni (Ct G (Sr (Mv (ptr b 0) f0 (Ca (trap_q T b M ws _ hM) ?_)))))))))
  rintro v155 w1 htn
  refine Ni (Sr (Ae (.bool true) (Ni (WC.ret ?_))))
  exact ⟨_, Ro G G, hS _ htn⟩
theorem TurnR.pre {T : Nat → Nat} {w w1 w' : World} {b : Nat} {M : MS} {ws : List (BitVec 32)} (m : Ext w w1) (h : TurnR T w1 b M ws w') : TurnR T w b M ws w' := TurnR.trans (Mod.ext m) (fun _ h => .inl h) h
theorem mid_l0 (T : Nat → Nat) (b b4 : Nat) (M : MS) (ws : List (BitVec 32)) (a : RvInst) (nm : List UInt8) (p q y nx : BitVec 64) (S : Value → World → Prop) (f : Fr) (w : World) (hM : RR T w b M ws) (f0 : f 0 = ptr b 0) (f4 : f 4 = ptr b4 0) (f6 : f 6 = St nm) (f7 : f 7 = U64 p) (f8 : f 8 = U64 q) (f9 : f 9 = U64 y) (f10 : f 10 = U64 nx) (f11 : f 11 = .bool true) (f12 : f 12 = U8 a.rd) (h4 : Blk w b4 #[U8 a.op, U8 a.rd, U8 a.rs1, U8 a.rs2, I64 a.imm] 104) (hl0 : 0 < nm.length) (hr : a.rd.toNat < 32) (k1 : ((nm.getD 0 0).toBitVec == 108#8) = true) (k2 : ((nm.getD 0 0).toBitVec == 115#8) = false) (k3 : ((nm.getD 0 0).toBitVec == 101#8) = false) (z : Nat) (hz : sizeQ nm = z) (h0 : z = 0) (hS : ∀ w', TurnR T w b (putQ M nm a.rd y nx) ws w' → S (.bool true) w') : WC prog mid26 165 f w (Fin26 S) := by
 refine Sq (Sr (Mv (St nm) f6 (WL.indexSt (i := 0) y9 G G hl0 G (Ni (Bk (Sr (Bt (vy := U8 108#8) G G BinR.eqlU8 k1 (Ae (.bool true) (Ni (Ct G (Sr (Mv (St nm) f6 (Ca (size_q nm _) ?_)))))))))))))
 rintro _ wz108 ⟨rfl, ez108⟩
 rw [hz]
 have E1 : Ext w wz108 := ez108
 refine Bo G G BinR.gtr (Ni (Cf G (WC.skip ?_)))
 exact tailR_ok T b M ws nm _ nx a.rd S _ _ (hM.ext E1) f0 f6 f9 f10 f12 f11 hr (fun w2 h => hS w2 (TurnR.pre E1 h))
theorem mid_s0 (T : Nat → Nat) (b b4 : Nat) (M : MS) (ws : List (BitVec 32)) (a : RvInst) (nm : List UInt8) (p q y nx : BitVec 64) (S : Value → World → Prop) (f : Fr) (w : World) (hM : RR T w b M ws) (f0 : f 0 = ptr b 0) (f4 : f 4 = ptr b4 0) (f6 : f 6 = St nm) (f7 : f 7 = U64 p) (f8 : f 8 = U64 q) (f9 : f 9 = U64 y) (f10 : f 10 = U64 nx) (f11 : f 11 = .bool true) (f12 : f 12 = U8 a.rd) (h4 : Blk w b4 #[U8 a.op, U8 a.rd, U8 a.rs1, U8 a.rs2, I64 a.imm] 104) (hl0 : 0 < nm.length) (hr : a.rd.toNat < 32) (k1 : ((nm.getD 0 0).toBitVec == 108#8) = false) (k2 : ((nm.getD 0 0).toBitVec == 115#8) = true) (k3 : ((nm.getD 0 0).toBitVec == 101#8) = false) (z : Nat) (hz : sizeQ nm = z) (h0 : z = 0) (hS : ∀ w', TurnR T w b (putQ M nm a.rd y nx) ws w' → S (.bool true) w') : WC prog mid26 165 f w (Fin26 S) := by
 refine Sq (Sr (Mv (St nm) f6 (WL.indexSt (i := 0) y9 G G hl0 G (Ni (Bk (Sr (Bf (vy := U8 108#8) G G BinR.eqlU8 k1 (Ae (.bool false) (Ni (Cf G (Sr (Bt (vy := U8 115#8) G G BinR.eqlU8 k2 (Ae (.bool true) (Ni (Ct G (Sr (Mv (St nm) f6 (Ca (size_q nm _) ?_))))))))))))))))))
 rintro _ wz135 ⟨rfl, ez135⟩
 rw [hz]
 have E1 : Ext w wz135 := ez135
 refine Bo G G BinR.gtr (Ni (Cf G (WC.skip ?_)))
 exact tailR_ok T b M ws nm _ nx a.rd S _ _ (hM.ext E1) f0 f6 f9 f10 f12 f11 hr (fun w2 h => hS w2 (TurnR.pre E1 h))
theorem mid_o0 (T : Nat → Nat) (b b4 : Nat) (M : MS) (ws : List (BitVec 32)) (a : RvInst) (nm : List UInt8) (p q y nx : BitVec 64) (S : Value → World → Prop) (f : Fr) (w : World) (hM : RR T w b M ws) (f0 : f 0 = ptr b 0) (f4 : f 4 = ptr b4 0) (f6 : f 6 = St nm) (f7 : f 7 = U64 p) (f8 : f 8 = U64 q) (f9 : f 9 = U64 y) (f10 : f 10 = U64 nx) (f11 : f 11 = .bool true) (f12 : f 12 = U8 a.rd) (h4 : Blk w b4 #[U8 a.op, U8 a.rd, U8 a.rs1, U8 a.rs2, I64 a.imm] 104) (hl0 : 0 < nm.length) (hr : a.rd.toNat < 32) (k1 : ((nm.getD 0 0).toBitVec == 108#8) = false) (k2 : ((nm.getD 0 0).toBitVec == 115#8) = false) (k3 : ((nm.getD 0 0).toBitVec == 101#8) = false) (hS : ∀ w', TurnR T w b (putQ M nm a.rd y nx) ws w' → S (.bool true) w') : WC prog mid26 165 f w (Fin26 S) := by
 refine Sq (Sr (Mv (St nm) f6 (WL.indexSt (i := 0) y9 G G hl0 G (Ni (Bk (Sr (Bf (vy := U8 108#8) G G BinR.eqlU8 k1 (Ae (.bool false) (Ni (Cf G (Sr (Bf (vy := U8 115#8) G G BinR.eqlU8 k2 (Ae (.bool false) (Ni (Cf G (Sr (Bf (vy := U8 101#8) G G BinR.eqlU8 k3 (Ae (.bool false) (Ni ?_)))))))))))))))))))
 refine Cf G (WC.skip ?_)
 exact tailR_ok T b M ws nm _ nx a.rd S _ _ hM f0 f6 f9 f10 f12 f11 hr hS
theorem mid_load_true (T : Nat → Nat) (b b4 : Nat) (M : MS) (ws : List (BitVec 32)) (a : RvInst) (nm : List UInt8) (p q y nx : BitVec 64) (S : Value → World → Prop) (f : Fr) (w : World) (hM : RR T w b M ws) (f0 : f 0 = ptr b 0) (f4 : f 4 = ptr b4 0) (f6 : f 6 = St nm) (f7 : f 7 = U64 p) (f8 : f 8 = U64 q) (f9 : f 9 = U64 y) (f10 : f 10 = U64 nx) (f11 : f 11 = .bool true) (f12 : f 12 = U8 a.rd) (h4 : Blk w b4 #[U8 a.op, U8 a.rd, U8 a.rs1, U8 a.rs2, I64 a.imm] 104) (hl0 : 0 < nm.length) (hr : a.rd.toNat < 32) (k1 : ((nm.getD 0 0).toBitVec == 108#8) = true) (k2 : ((nm.getD 0 0).toBitVec == 115#8) = false) (k3 : ((nm.getD 0 0).toBitVec == 101#8) = false) (z : Nat) (hz : sizeQ nm = z) (hzz : z = 1 ∨ z = 2 ∨ z = 4 ∨ z = 8) (hl9 : nm.length ≤ 1000) (hsg : ((nm.getD (nm.length - 1) 0).toBitVec != 117#8) = true) (k : Bool) (o : Nat) (hW : whereM M.n (p + a.imm) z = some (k, o)) (hS : ∀ w', TurnR T w b (putQ M nm a.rd (loadV M.d M.s k o z true) nx) ws w' → S (.bool true) w') : WC prog mid26 165 f w (Fin26 S) := by
 refine Sq (Sr (Mv (St nm) f6 (WL.indexSt (i := 0) y9 G G hl0 G (Ni (Bk (Sr (Bt (vy := U8 108#8) G G BinR.eqlU8 k1 (Ae (.bool true) (Ni (Ct G (Sr (Mv (St nm) f6 (Ca (size_q nm _) ?_)))))))))))))
 rintro _ wz108 ⟨rfl, ez108⟩
 rw [hz]
 have E1 : Ext w wz108 := ez108
 refine Bp G G BinR.gtr (Ni (Ct G (Sq (WC.draw (fun w_ => Ext wz108 w_) 14 G mixed ?_))))
 intro wd_20 ed_20
 have R2 : Ext wz108 wd_20 := ed_20
 have E3 := Mt E1 ed_20
 refine Tp 0 (ptr b 0) G G (Mv (ptr b 0) f0 Ok) R2 (Tp 1 (U64 p) G G (Mv (U64 p) f7 Ok) R2 (Tp 2 (ptr b4 4) G G (Fa f4 fo104_4 Ok) R2 (Tk 3 (I64 a.imm) G G (fun _ hS => Le (((h4.ext ez108).ext hS).cell (j := 4) G) Ok) R2 (Tp 4 (U64 a.imm) G G (Cv G (ConvR.i64u64 y2 y39) Ok) R2 (Tp 5 (U64 ((p + a.imm))) G G (Bn G G BinR.addU64 Ok) R2 (Tp 6 (St nm) G G (Mv (St nm) f6 Ok) R2 (WA.one (i := 7) (m' := 255) (by kernel_rfl) G G (Ca (size_q nm _) ?_))))))))
 rintro _ wz118 ⟨rfl, ez118⟩
 rw [hz]
 have R12 := Mt R2 ez118
 have E13 := Mt E3 ez118
 refine WL.behind R12 (WA.one (i := 8) (m' := 511) (by kernel_rfl) G G (Ca (loadRR_some T b M ws _ (hM.ext E13) (p + a.imm) z k o hzz hW) ?_))
 rintro _ wl ⟨rfl, el⟩
 have R14 := Mt R12 el
 have E15 := Mt E13 el
 refine WL.behind R14 (Tm 9 (.tuple #[U64 ((loadB (if k then M.d else M.s) o z)), .bool true]) G G R14 (Tm 10 (U64 ((loadB (if k then M.d else M.s) o z))) G G R14 (Tm 11 (.bool true) G G R14 (Tm 12 (U64 ((loadB (if k then M.d else M.s) o z))) G G R14 (Tm 13 (.bool true) G G R14 (WA.done (by kernel_rfl) (Sr (Mv (St nm) f6 (Mv (St nm) f6 (WL.lenSt y9 G G (Bn G G (BinR.subN (b := 1) (by omega) (by omega)) (WL.indexSt (i := nm.length - 1) y9 G G (by omega) G (Bt (vy := U8 117#8) G G BinR.neqU8 hsg (Ni (Ct G (Rg (Me (U64 ((loadB (if k then M.d else M.s) o z))) (Mv (St nm) f6 (Ca (size_q nm _) ?_)))))))))))))))))))
 rintro _ wz130 ⟨rfl, ez130⟩
 rw [hz]
 have E21 := Mt E15 ez130
 refine Ca (wide_q ((loadB (if k then M.d else M.s) o z)) z _ (by omega)) ?_
 rintro _ ww ⟨rfl, eww⟩
 have E22 := Mt E21 eww
 refine Ae (U64 ((signW ((loadB (if k then M.d else M.s) o z)) (8 * z)))) (Ni ?_)
 exact tailR_ok T b M ws nm _ nx a.rd S _ _ (hM.ext E22) f0 f6 G f10 f12 G hr (fun w2 h => hS w2 (TurnR.pre E22 h))
theorem mid_load_false (T : Nat → Nat) (b b4 : Nat) (M : MS) (ws : List (BitVec 32)) (a : RvInst) (nm : List UInt8) (p q y nx : BitVec 64) (S : Value → World → Prop) (f : Fr) (w : World) (hM : RR T w b M ws) (f0 : f 0 = ptr b 0) (f4 : f 4 = ptr b4 0) (f6 : f 6 = St nm) (f7 : f 7 = U64 p) (f8 : f 8 = U64 q) (f9 : f 9 = U64 y) (f10 : f 10 = U64 nx) (f11 : f 11 = .bool true) (f12 : f 12 = U8 a.rd) (h4 : Blk w b4 #[U8 a.op, U8 a.rd, U8 a.rs1, U8 a.rs2, I64 a.imm] 104) (hl0 : 0 < nm.length) (hr : a.rd.toNat < 32) (k1 : ((nm.getD 0 0).toBitVec == 108#8) = true) (k2 : ((nm.getD 0 0).toBitVec == 115#8) = false) (k3 : ((nm.getD 0 0).toBitVec == 101#8) = false) (z : Nat) (hz : sizeQ nm = z) (hzz : z = 1 ∨ z = 2 ∨ z = 4 ∨ z = 8) (hl9 : nm.length ≤ 1000) (hsg : ((nm.getD (nm.length - 1) 0).toBitVec != 117#8) = false) (k : Bool) (o : Nat) (hW : whereM M.n (p + a.imm) z = some (k, o)) (hS : ∀ w', TurnR T w b (putQ M nm a.rd (loadV M.d M.s k o z false) nx) ws w' → S (.bool true) w') : WC prog mid26 165 f w (Fin26 S) := by
 refine Sq (Sr (Mv (St nm) f6 (WL.indexSt (i := 0) y9 G G hl0 G (Ni (Bk (Sr (Bt (vy := U8 108#8) G G BinR.eqlU8 k1 (Ae (.bool true) (Ni (Ct G (Sr (Mv (St nm) f6 (Ca (size_q nm _) ?_)))))))))))))
 rintro _ wz108 ⟨rfl, ez108⟩
 rw [hz]
 have E1 : Ext w wz108 := ez108
 refine Bp G G BinR.gtr (Ni (Ct G (Sq (WC.draw (fun w_ => Ext wz108 w_) 14 G mixed ?_))))
 intro wd_20 ed_20
 have R2 : Ext wz108 wd_20 := ed_20
 have E3 := Mt E1 ed_20
 refine Tp 0 (ptr b 0) G G (Mv (ptr b 0) f0 Ok) R2 (Tp 1 (U64 p) G G (Mv (U64 p) f7 Ok) R2 (Tp 2 (ptr b4 4) G G (Fa f4 fo104_4 Ok) R2 (Tk 3 (I64 a.imm) G G (fun _ hS => Le (((h4.ext ez108).ext hS).cell (j := 4) G) Ok) R2 (Tp 4 (U64 a.imm) G G (Cv G (ConvR.i64u64 y2 y39) Ok) R2 (Tp 5 (U64 ((p + a.imm))) G G (Bn G G BinR.addU64 Ok) R2 (Tp 6 (St nm) G G (Mv (St nm) f6 Ok) R2 (WA.one (i := 7) (m' := 255) (by kernel_rfl) G G (Ca (size_q nm _) ?_))))))))
 rintro _ wz118 ⟨rfl, ez118⟩
 rw [hz]
 have R12 := Mt R2 ez118
 have E13 := Mt E3 ez118
 refine WL.behind R12 (WA.one (i := 8) (m' := 511) (by kernel_rfl) G G (Ca (loadRR_some T b M ws _ (hM.ext E13) (p + a.imm) z k o hzz hW) ?_))
 rintro _ wl ⟨rfl, el⟩
 have R14 := Mt R12 el
 have E15 := Mt E13 el
 refine WL.behind R14 (Tm 9 (.tuple #[U64 ((loadB (if k then M.d else M.s) o z)), .bool true]) G G R14 (Tm 10 (U64 ((loadB (if k then M.d else M.s) o z))) G G R14 (Tm 11 (.bool true) G G R14 (Tm 12 (U64 ((loadB (if k then M.d else M.s) o z))) G G R14 (Tm 13 (.bool true) G G R14 (WA.done (by kernel_rfl) (Sr (Mv (St nm) f6 (Mv (St nm) f6 (WL.lenSt y9 G G (Bn G G (BinR.subN (b := 1) (by omega) (by omega)) (WL.indexSt (i := nm.length - 1) y9 G G (by omega) G (Bf (vy := U8 117#8) G G BinR.neqU8 hsg (Ni (Cf G (WC.skip ?_))))))))))))))))
 exact tailR_ok T b M ws nm _ nx a.rd S _ _ (hM.ext E15) f0 f6 G f10 f12 G hr (fun w2 h => hS w2 (TurnR.pre E15 h))
theorem mid_loadno (T : Nat → Nat) (b b4 : Nat) (M : MS) (ws : List (BitVec 32)) (a : RvInst) (nm : List UInt8) (p q y nx : BitVec 64) (S : Value → World → Prop) (f : Fr) (w : World) (hM : RR T w b M ws) (f0 : f 0 = ptr b 0) (f4 : f 4 = ptr b4 0) (f6 : f 6 = St nm) (f7 : f 7 = U64 p) (f8 : f 8 = U64 q) (f9 : f 9 = U64 y) (f10 : f 10 = U64 nx) (f11 : f 11 = .bool true) (f12 : f 12 = U8 a.rd) (h4 : Blk w b4 #[U8 a.op, U8 a.rd, U8 a.rs1, U8 a.rs2, I64 a.imm] 104) (hl0 : 0 < nm.length) (hr : a.rd.toNat < 32) (k1 : ((nm.getD 0 0).toBitVec == 108#8) = true) (k2 : ((nm.getD 0 0).toBitVec == 115#8) = false) (k3 : ((nm.getD 0 0).toBitVec == 101#8) = false) (z : Nat) (hz : sizeQ nm = z) (hzz : z = 1 ∨ z = 2 ∨ z = 4 ∨ z = 8) (hl9 : nm.length ≤ 1000) (hW : whereM M.n (p + a.imm) z = none) (hS : ∀ w', TurnR T w b ({ M with fin := some true }) ws w' → S (.bool true) w') : WC prog mid26 165 f w (Fin26 S) := by
 refine Sq (Sr (Mv (St nm) f6 (WL.indexSt (i := 0) y9 G G hl0 G (Ni (Bk (Sr (Bt (vy := U8 108#8) G G BinR.eqlU8 k1 (Ae (.bool true) (Ni (Ct G (Sr (Mv (St nm) f6 (Ca (size_q nm _) ?_)))))))))))))
 rintro _ wz108 ⟨rfl, ez108⟩
 rw [hz]
 have E1 : Ext w wz108 := ez108
 refine Bp G G BinR.gtr (Ni (Ct G (Sq (WC.draw (fun w_ => Ext wz108 w_) 14 G mixed ?_))))
 intro wd_20 ed_20
 have R2 : Ext wz108 wd_20 := ed_20
 have E3 := Mt E1 ed_20
 refine Tp 0 (ptr b 0) G G (Mv (ptr b 0) f0 Ok) R2 (Tp 1 (U64 p) G G (Mv (U64 p) f7 Ok) R2 (Tp 2 (ptr b4 4) G G (Fa f4 fo104_4 Ok) R2 (Tk 3 (I64 a.imm) G G (fun _ hS => Le (((h4.ext ez108).ext hS).cell (j := 4) G) Ok) R2 (Tp 4 (U64 a.imm) G G (Cv G (ConvR.i64u64 y2 y39) Ok) R2 (Tp 5 (U64 ((p + a.imm))) G G (Bn G G BinR.addU64 Ok) R2 (Tp 6 (St nm) G G (Mv (St nm) f6 Ok) R2 (WA.one (i := 7) (m' := 255) (by kernel_rfl) G G (Ca (size_q nm _) ?_))))))))
 rintro _ wz118 ⟨rfl, ez118⟩
 rw [hz]
 have R12 := Mt R2 ez118
 have E13 := Mt E3 ez118
 refine WL.behind R12 (WA.one (i := 8) (m' := 511) (by kernel_rfl) G G (Ca (loadRR_none T b M ws _ (hM.ext E13) (p + a.imm) z hzz hW) ?_))
 rintro _ wl ⟨rfl, el⟩
 have R14 := Mt R12 el
 have E15 := Mt E13 el
 refine WL.behind R14 (Tm 9 (.tuple #[U64 0#64, .bool false]) G G R14 (Tm 10 (U64 0#64) G G R14 (Tm 11 (.bool false) G G R14 (Tm 12 (U64 0#64) G G R14 (Tm 13 (.bool false) G G R14 (WA.done (by kernel_rfl) (Sr (Mv (St nm) f6 (Mv (St nm) f6 (WL.lenSt y9 G G (Bn G G (BinR.subN (b := 1) (by omega) (by omega)) (WL.indexSt (i := nm.length - 1) y9 G G (by omega) G (Bn (vy := U8 117#8) G G BinR.neqU8 (Ni ?_))))))))))))))
 refine WC.cond G (fun hc127 => ?_) (fun hc127 => ?_)
 ·refine Rg (Me (U64 0#64) (Mv (St nm) f6 (Ca (size_q nm _) ?_)))
  rintro _ wz130 ⟨rfl, ez130⟩
  rw [hz]
  have E21 := Mt E15 ez130
  refine Ca (wide_q 0#64 z _ (by omega)) ?_
  rintro _ ww ⟨rfl, eww⟩
  have E22 := Mt E21 eww
  refine Ae (U64 ((signW 0#64 (8 * z)))) (Ni ?_)
  exact tailR_no T b M ws nm _ nx a.rd S _ _ (hM.ext E22) f0 f6 G f10 f12 G (fun w2 h => hS w2 (TurnR.pre E22 h))
 ·refine WC.skip ?_
  exact tailR_no T b M ws nm _ nx a.rd S _ _ (hM.ext E15) f0 f6 G f10 f12 G (fun w2 h => hS w2 (TurnR.pre E15 h))
theorem mid_store (T : Nat → Nat) (b b4 : Nat) (M : MS) (ws : List (BitVec 32)) (a : RvInst) (nm : List UInt8) (p q y nx : BitVec 64) (S : Value → World → Prop) (f : Fr) (w : World) (hM : RR T w b M ws) (f0 : f 0 = ptr b 0) (f4 : f 4 = ptr b4 0) (f6 : f 6 = St nm) (f7 : f 7 = U64 p) (f8 : f 8 = U64 q) (f9 : f 9 = U64 y) (f10 : f 10 = U64 nx) (f11 : f 11 = .bool true) (f12 : f 12 = U8 a.rd) (h4 : Blk w b4 #[U8 a.op, U8 a.rd, U8 a.rs1, U8 a.rs2, I64 a.imm] 104) (hl0 : 0 < nm.length) (hr : a.rd.toNat < 32) (k1 : ((nm.getD 0 0).toBitVec == 108#8) = false) (k2 : ((nm.getD 0 0).toBitVec == 115#8) = true) (k3 : ((nm.getD 0 0).toBitVec == 101#8) = false) (t4 : T b4 = 0) (z : Nat) (hz : sizeQ nm = z) (hzz : z = 1 ∨ z = 2 ∨ z = 4 ∨ z = 8) (k : Bool) (o : Nat) (hW : whereM M.n (p + a.imm) z = some (k, o)) (hS : ∀ w', TurnR T w b (putQ (storeM M k o z q) nm a.rd y nx) ws w' → S (.bool true) w') : WC prog mid26 165 f w (Fin26 S) := by
 refine Sq (Sr (Mv (St nm) f6 (WL.indexSt (i := 0) y9 G G hl0 G (Ni (Bk (Sr (Bf (vy := U8 108#8) G G BinR.eqlU8 k1 (Ae (.bool false) (Ni (Cf G (Sr (Bt (vy := U8 115#8) G G BinR.eqlU8 k2 (Ae (.bool true) (Ni (Ct G (Sr (Mv (St nm) f6 (Ca (size_q nm _) ?_))))))))))))))))))
 rintro _ wz135 ⟨rfl, ez135⟩
 rw [hz]
 have E1 : Ext w wz135 := ez135
 refine Bp G G BinR.gtr (Ni (Ct G (WC.draw (fun w_ => Blk w_ b4 #[U8 a.op, U8 a.rd, U8 a.rs1, U8 a.rs2, I64 a.imm] 104) 11 G mixed ?_)))
 intro wd_25 ed_25
 have E2 := Mt E1 ed_25
 have B3 := (h4.ext ez135).ext ed_25
 refine Tp 0 (ptr b 0) G G (Mv (ptr b 0) f0 Ok) B3 (Tp 1 (U64 p) G G (Mv (U64 p) f7 Ok) B3 (Tp 2 (ptr b4 4) G G (Fa f4 fo104_4 Ok) B3 (Tk 3 (I64 a.imm) G G (fun _ hS => Le (hS.cell (j := 4) G) Ok) B3 (Tp 4 (U64 a.imm) G G (Cv G (ConvR.i64u64 y2 y39) Ok) B3 (Tp 5 (U64 ((p + a.imm))) G G (Bn G G BinR.addU64 Ok) B3 (Tp 6 (St nm) G G (Mv (St nm) f6 Ok) B3 (Tp 8 (U64 q) G G (Mv (U64 q) f8 Ok) B3 (WA.one (i := 7) (m' := 511) (by kernel_rfl) G G (Ca (size_q nm _) ?_)))))))))
 rintro _ wz144 ⟨rfl, ez144⟩
 rw [hz]
 have E4 := Mt E2 ez144
 have B5 := B3.ext ez144
 refine WL.behind B5 (WA.one (i := 9) (m' := 1023) (by kernel_rfl) G G (Ca (storeRR_some T b M ws _ (hM.ext E4) (p + a.imm) q z k o hzz hW) ?_))
 rintro _ wl ⟨rfl, T1, hR1, mp1, hs1⟩
 have hS1 : ∀ w2, TurnR T1 wl b (putQ (storeM M k o z q) nm a.rd y nx) ws w2 → S (.bool true) w2 := fun w2 h => hS w2 (TurnR.pre E4 (TurnR.trans mp1 hs1 h))
 have h4b := B5.mod mp1 (fun e => e t4)
 refine WL.behind h4b (Tm 10 (.bool true) G G h4b (WA.done (by kernel_rfl) ?_))
 exact tailR_ok T1 b (storeM M k o z q) ws nm _ nx a.rd S _ _ hR1 f0 f6 f9 f10 f12 G hr hS1
theorem mid_storeno (T : Nat → Nat) (b b4 : Nat) (M : MS) (ws : List (BitVec 32)) (a : RvInst) (nm : List UInt8) (p q y nx : BitVec 64) (S : Value → World → Prop) (f : Fr) (w : World) (hM : RR T w b M ws) (f0 : f 0 = ptr b 0) (f4 : f 4 = ptr b4 0) (f6 : f 6 = St nm) (f7 : f 7 = U64 p) (f8 : f 8 = U64 q) (f9 : f 9 = U64 y) (f10 : f 10 = U64 nx) (f11 : f 11 = .bool true) (f12 : f 12 = U8 a.rd) (h4 : Blk w b4 #[U8 a.op, U8 a.rd, U8 a.rs1, U8 a.rs2, I64 a.imm] 104) (hl0 : 0 < nm.length) (hr : a.rd.toNat < 32) (k1 : ((nm.getD 0 0).toBitVec == 108#8) = false) (k2 : ((nm.getD 0 0).toBitVec == 115#8) = true) (k3 : ((nm.getD 0 0).toBitVec == 101#8) = false) (z : Nat) (hz : sizeQ nm = z) (hzz : z = 1 ∨ z = 2 ∨ z = 4 ∨ z = 8) (hW : whereM M.n (p + a.imm) z = none) (hS : ∀ w', TurnR T w b ({ M with fin := some true }) ws w' → S (.bool true) w') : WC prog mid26 165 f w (Fin26 S) := by
 refine Sq (Sr (Mv (St nm) f6 (WL.indexSt (i := 0) y9 G G hl0 G (Ni (Bk (Sr (Bf (vy := U8 108#8) G G BinR.eqlU8 k1 (Ae (.bool false) (Ni (Cf G (Sr (Bt (vy := U8 115#8) G G BinR.eqlU8 k2 (Ae (.bool true) (Ni (Ct G (Sr (Mv (St nm) f6 (Ca (size_q nm _) ?_))))))))))))))))))
 rintro _ wz135 ⟨rfl, ez135⟩
 rw [hz]
 have E1 : Ext w wz135 := ez135
 refine Bp G G BinR.gtr (Ni (Ct G (WC.draw (fun w_ => Ext wz135 w_) 11 G mixed ?_)))
 intro wd_25 ed_25
 have R2 : Ext wz135 wd_25 := ed_25
 have E3 := Mt E1 ed_25
 refine Tp 0 (ptr b 0) G G (Mv (ptr b 0) f0 Ok) R2 (Tp 1 (U64 p) G G (Mv (U64 p) f7 Ok) R2 (Tp 2 (ptr b4 4) G G (Fa f4 fo104_4 Ok) R2 (Tk 3 (I64 a.imm) G G (fun _ hS => Le (((h4.ext ez135).ext hS).cell (j := 4) G) Ok) R2 (Tp 4 (U64 a.imm) G G (Cv G (ConvR.i64u64 y2 y39) Ok) R2 (Tp 5 (U64 ((p + a.imm))) G G (Bn G G BinR.addU64 Ok) R2 (Tp 6 (St nm) G G (Mv (St nm) f6 Ok) R2 (Tp 8 (U64 q) G G (Mv (U64 q) f8 Ok) R2 (WA.one (i := 7) (m' := 511) (by kernel_rfl) G G (Ca (size_q nm _) ?_)))))))))
 rintro _ wz144 ⟨rfl, ez144⟩
 rw [hz]
 have R13 := Mt R2 ez144
 have E14 := Mt E3 ez144
 refine WL.behind R13 (WA.one (i := 9) (m' := 1023) (by kernel_rfl) G G (Ca (storeR_no T b M ws _ (hM.ext E14) (p + a.imm) q z hzz hW) ?_))
 rintro _ wl ⟨rfl, el⟩
 have R15 := Mt R13 el
 have E16 := Mt E14 el
 refine WL.behind R15 (Tm 10 (.bool false) G G R15 (WA.done (by kernel_rfl) ?_))
 exact tailR_no T b M ws nm _ nx a.rd S _ _ (hM.ext E16) f0 f6 f9 f10 f12 G (fun w2 h => hS w2 (TurnR.pre E16 h))
theorem mid_call (T : Nat → Nat) (b b4 : Nat) (M : MS) (ws : List (BitVec 32)) (a : RvInst) (nm : List UInt8) (p q y nx : BitVec 64) (S : Value → World → Prop) (f : Fr) (w : World) (hM : RR T w b M ws) (f0 : f 0 = ptr b 0) (f4 : f 4 = ptr b4 0) (f6 : f 6 = St nm) (f7 : f 7 = U64 p) (f8 : f 8 = U64 q) (f9 : f 9 = U64 y) (f10 : f 10 = U64 nx) (f11 : f 11 = .bool true) (f12 : f 12 = U8 a.rd) (h4 : Blk w b4 #[U8 a.op, U8 a.rd, U8 a.rs1, U8 a.rs2, I64 a.imm] 104) (hl0 : 0 < nm.length) (hr : a.rd.toNat < 32) (k1 : ((nm.getD 0 0).toBitVec == 108#8) = false) (k2 : ((nm.getD 0 0).toBitVec == 115#8) = false) (k3 : ((nm.getD 0 0).toBitVec == 101#8) = true) (he : M.events.length < 8796093022208) (hfin : M.fin = none) (hok : ((callsM M).2 == some true) = false) (hS : ∀ w', TurnR T w b (putQ (callsR M) nm a.rd y nx) ws w' → S (.bool true) w') : WC prog mid26 165 f w (Fin26 S) := by
 refine Sq (Sr (Mv (St nm) f6 (WL.indexSt (i := 0) y9 G G hl0 G (Ni (Bk (Sr (Bf (vy := U8 108#8) G G BinR.eqlU8 k1 (Ae (.bool false) (Ni (Cf G (Sr (Bf (vy := U8 115#8) G G BinR.eqlU8 k2 (Ae (.bool false) (Ni (Cf G (Sr (Bt (vy := U8 101#8) G G BinR.eqlU8 k3 (Ae (.bool true) (Ni ?_)))))))))))))))))))
 refine Ct G (Rg (Mv (ptr b 0) f0 (Ca (callsR_spec T b M ws _ hM he hfin) ?_)))
 rintro _ wl ⟨rfl, T1, hR1, mp1, hs1⟩
 rw [hok]
 refine Ae (.bool true) (Ni ?_)
 exact tailR_ok T1 b (callsR M) ws nm _ nx a.rd S _ _ hR1 f0 f6 f9 f10 f12 G hr (fun w2 h => hS w2 (TurnR.trans mp1 hs1 h))
theorem mid_callno (T : Nat → Nat) (b b4 : Nat) (M : MS) (ws : List (BitVec 32)) (a : RvInst) (nm : List UInt8) (p q y nx : BitVec 64) (S : Value → World → Prop) (f : Fr) (w : World) (hM : RR T w b M ws) (f0 : f 0 = ptr b 0) (f4 : f 4 = ptr b4 0) (f6 : f 6 = St nm) (f7 : f 7 = U64 p) (f8 : f 8 = U64 q) (f9 : f 9 = U64 y) (f10 : f 10 = U64 nx) (f11 : f 11 = .bool true) (f12 : f 12 = U8 a.rd) (h4 : Blk w b4 #[U8 a.op, U8 a.rd, U8 a.rs1, U8 a.rs2, I64 a.imm] 104) (hl0 : 0 < nm.length) (hr : a.rd.toNat < 32) (k1 : ((nm.getD 0 0).toBitVec == 108#8) = false) (k2 : ((nm.getD 0 0).toBitVec == 115#8) = false) (k3 : ((nm.getD 0 0).toBitVec == 101#8) = true) (he : M.events.length < 8796093022208) (hfin : M.fin = none) (hok : ((callsM M).2 == some true) = true) (hS : ∀ w', TurnR T w b ({ callsR M with fin := some true }) ws w' → S (.bool true) w') : WC prog mid26 165 f w (Fin26 S) := by
 refine Sq (Sr (Mv (St nm) f6 (WL.indexSt (i := 0) y9 G G hl0 G (Ni (Bk (Sr (Bf (vy := U8 108#8) G G BinR.eqlU8 k1 (Ae (.bool false) (Ni (Cf G (Sr (Bf (vy := U8 115#8) G G BinR.eqlU8 k2 (Ae (.bool false) (Ni (Cf G (Sr (Bt (vy := U8 101#8) G G BinR.eqlU8 k3 (Ae (.bool true) (Ni ?_)))))))))))))))))))
 refine Ct G (Rg (Mv (ptr b 0) f0 (Ca (callsR_spec T b M ws _ hM he hfin) ?_)))
 rintro _ wl ⟨rfl, T1, hR1, mp1, hs1⟩
 rw [hok]
 refine Ae (.bool false) (Ni ?_)
 exact tailR_no T1 b (callsR M) ws nm _ nx a.rd S _ _ hR1 f0 f6 f9 f10 f12 G (fun w2 h => hS w2 (TurnR.trans mp1 hs1 h))
end Go.Proofs.S
end
section
set_option linter.unusedSimpArgs false
set_option linter.unusedVariables false
namespace Go.Proofs.S
open Go Go.Ux Go.Ux.Mach Go.Proofs
open Tryz
theorem fo70_9 : fieldOff prog 70 9 = some 40 := by kernel_rfl
open Go.Proofs.M (instV findRow findRow_lt decodeAt)
open Go.Ux.Image
open Go.Proofs.N (doM loadsM)
def pcBad (M : MS) (ws : List (BitVec 32)) : Bool := (BitVec.ult M.pc 65536#64 || (((M.pc - 65536#64) % 4#64 != 0#64) || BitVec.ule (BitVec.ofNat 64 ws.length) ((M.pc - 65536#64) / 4#64)))
theorem dec_op_lt (x : BitVec 32) : (decI x).op.toNat < 66 := by
 unfold decI
 rcases h : findRow x tableD with _ | i
 ·show (0#8).toNat < 66; decide
 ·have hi := findRow_lt h
  rw [tableD_length] at hi
  show (BitVec.ofNat 8 i).toNat < 66
  rw [BitVec.toNat_ofNat]; omega
theorem stepR_end (T : Nat → Nat) (b : Nat) (M : MS) (ws : List (BitVec 32)) (w : World) (h : RR T w b M ws) (t : Bool) (hfin : M.fin = some t) : Cx 26 #[ptr b 0] w (.bool false) := by
 obtain ⟨cv, dv, sv, iv, ev, hb, ht⟩ := h
 refine Co func26 G G ?_
 refine Sr (Ae (.bool false) (Ni (Sq (Sr (Me (ptr b 0) (WL.nilCheck G G (Fa G fo70_7 (Le (hb.cell (j := 38) G) (Ni (Ct (congrArg Value.bool (by rw [hfin]; rfl)) (Sr (Ae (.bool false) (Ni (WC.ret ?_))))))))))))))
 exact ⟨_, Ro G G, G, Mod.refl _ _⟩
theorem stepR_bad (T : Nat → Nat) (b : Nat) (M : MS) (ws : List (BitVec 32)) (w : World) (h : RR T w b M ws) (hfin : M.fin = none) (hp : pcBad M ws = true) : CallsR prog 26 #[ptr b 0] w (fun v w' => v = .bool true ∧ TurnR T w b { M with steps := M.steps + 1#64, fin := some true } ws w') := by
 obtain ⟨cv, dv, sv, iv, ev, hb, ht⟩ := h
 have hb0 : Blk w b (refCells cv dv sv iv M.x M.pc ev false false (I64 M.steps)) 70 := by have h0 := hb; unfold RCells at h0; rw [hfin] at h0; exact h0
 refine Co func26 G G ?_
 refine Sr (Ae (.bool false) (Ni (Sq (Sr (Me (ptr b 0) (WL.nilCheck G G (Fa G fo70_7 (Le (hb0.cell (j := 38) G) (Ni (Cf G (WC.skip (Sr (Me (ptr b 0) (Me (ptr b 0) (WL.nilCheck G G (Fa G fo70_9 (Le (hb0.cell (j := 40) G) (Bn (vy := I64 1#64) G G BinR.add64 (WL.nilCheck G G (Fa G fo70_9 ?_))))))))))))))))))))
 refine WL.storeB (v := I64 ((M.steps + 1#64))) G G G sz3 hb0 (Nat.le_of_ble_eq_true G) ?_
 intro ws1 ms1 bs1 zs1
 have E1 : Mod (fun k => T k = 1) w ws1 := (ms1.imp (fun i _ e => by subst e; exact ht.tb))
 refine Ni (Sr (Me (ptr b 0) (WL.nilCheck G G (Fa G fo70_5 (Le (bs1.cell (j := 36) G) (Bn (vy := U64 65536#64) G G BinR.subU64 (Ae (U64 ((M.pc - 65536#64))) (Ni (Sq (Sq ?_))))))))))
 refine WC.cut (fun f' w_ => f' 0 = ptr b 0 ∧ f' 2 = .bool false ∧ f' 3 = U64 ((M.pc - 65536#64)) ∧ f' 13 = ptr b 0 ∧ f' 14 = ptr b 0 ∧ f' 15 = ptr b 38 ∧ f' 16 = .bool false ∧ f' 17 = ptr b 0 ∧ f' 18 = ptr b 0 ∧ f' 19 = ptr b 0 ∧ f' 20 = ptr b 40 ∧ f' 21 = I64 M.steps ∧ f' 22 = I64 ((M.steps + 1#64)) ∧ f' 23 = ptr b 0 ∧ f' 24 = ptr b 40 ∧ f' 25 = ptr b 0 ∧ f' 26 = ptr b 0 ∧ f' 27 = ptr b 36 ∧ f' 28 = U64 M.pc ∧ f' 29 = U64 ((M.pc - 65536#64)) ∧ f' 50 = .bool ((BitVec.ult M.pc 65536#64 || (((M.pc - 65536#64) % 4#64 != 0#64) || BitVec.ule (BitVec.ofNat 64 ws.length) ((M.pc - 65536#64) / 4#64)))) ∧ ws1 = w_) ?_ ?_
 ·refine Rg (Me (ptr b 0) (WL.nilCheck G G (Fa G fo70_5 (Le (bs1.cell (j := 36) G) (Bn (vy := U64 65536#64) G G BinR.lssU64 (Me (.bool (BitVec.ult M.pc 65536#64)) ?_))))))
  rcases Bool.eq_false_or_eq_true (BitVec.ult M.pc 65536#64) with hg35 | hg35
  ·refine Gz hg35 (Gz hg35 (Gz hg35 (Qt hg35 G (Me (.bool true) (Gx (Gx (Gx (Gx (Gx (Gx (Gx (Gx (Gx (Pt G (Ni ?_)))))))))))))))
   have hcut : true = (BitVec.ult M.pc 65536#64 || (((M.pc - 65536#64) % 4#64 != 0#64) || BitVec.ule (BitVec.ofNat 64 ws.length) ((M.pc - 65536#64) / 4#64))) := by first | (rw [hg35]; rfl) | (rw [hg35, hg40]; rfl)
   exact ⟨G, G, G, G, G, G, G, G, G, G, G, G, G, G, G, G, G, G, G, G, G, congrArg Value.bool hcut, G⟩
  ·refine Gy hg35 (Me (U64 ((M.pc - 65536#64))) (Gy hg35 (Bn (vy := U64 4#64) G G (BinR.remU64 (by decide)) (Gy hg35 (Bn (vy := U64 0#64) G G BinR.neqU64 (Qf hg35 G (Me (.bool ((((M.pc - 65536#64) % 4#64) != 0#64))) ?_)))))))
   rcases Bool.eq_false_or_eq_true ((((M.pc - 65536#64) % 4#64) != 0#64)) with hg40 | hg40
   ·refine Gz hg40 (Gz hg40 (Gz hg40 (Gz hg40 (Gz hg40 (Gz hg40 (Gz hg40 (Gz hg40 (Gz hg40 (Qt hg40 G (Ni ?_))))))))))
    have hcut : true = (BitVec.ult M.pc 65536#64 || (((M.pc - 65536#64) % 4#64 != 0#64) || BitVec.ule (BitVec.ofNat 64 ws.length) ((M.pc - 65536#64) / 4#64))) := by first | (rw [hg35]; rfl) | (rw [hg35, hg40]; rfl)
    exact ⟨G, G, G, G, G, G, G, G, G, G, G, G, G, G, G, G, G, G, G, G, G, congrArg Value.bool hcut, G⟩
   ·refine Gy hg40 (Me (U64 ((M.pc - 65536#64))) (Gy hg40 (Bn (vy := U64 4#64) G G (BinR.quoU64 (by decide)) (Gy hg40 (Me (ptr b 0) (Gy hg40 (WL.nilCheck G G (Gy hg40 (Fa G fo70_0 (Gy hg40 (Le (bs1.cell (j := 0) G) (Gy hg40 ?_))))))))))))
    have S2 := ht.code.mod' ms1 (fun g hg e => (fun e => by have := ht.tc b e; rw [ht.tb] at this; cases this) (hg.trans (congrArg some e)))
    refine WL.lenSl (sz := 1) (m := ws.length) (xs := wordCells ws) el23 G S2 G (Gy hg40 (Cv G (ConvR.nu64 y3 y39) (Gy hg40 (Bn G G BinR.geqU64 (Qf hg40 G (Ni ?_))))))
    have hcut : (BitVec.ule (BitVec.ofNat 64 ws.length) (((M.pc - 65536#64) / 4#64))) = (BitVec.ult M.pc 65536#64 || (((M.pc - 65536#64) % 4#64 != 0#64) || BitVec.ule (BitVec.ofNat 64 ws.length) ((M.pc - 65536#64) / 4#64))) := by first | (rw [hg35]; rfl) | (rw [hg35, hg40]; rfl)
    exact ⟨G, G, G, G, G, G, G, G, G, G, G, G, G, G, G, G, G, G, G, G, G, congrArg Value.bool hcut, G⟩
 rintro fc5 _ ⟨hc5_0, hc5_2, hc5_3, hc5_13, hc5_14, hc5_15, hc5_16, hc5_17, hc5_18, hc5_19, hc5_20, hc5_21, hc5_22, hc5_23, hc5_24, hc5_25, hc5_26, hc5_27, hc5_28, hc5_29, hc5_50, rfl⟩
 refine Ct (hc5_50.trans (congrArg Value.bool hp)) (Sr (Mv (ptr b 0) hc5_0 ?_))
 have hR1 := (⟨cv, dv, sv, iv, ev, (by unfold RCells; dsimp only; rw [hfin]; exact bs1), (ht.own E1).regs M.x M.pc (M.steps + 1#64) M.fin⟩ : RR T ws1 b { M with steps := M.steps + 1#64 } ws)
 have mp1 := E1
 refine Ca (trap_q T b { M with steps := M.steps + 1#64 } ws _ hR1) ?_
 rintro v52 wt htn
 refine Ni (Sr (Ae (.bool true) (Ni (WC.ret ?_))))
 exact ⟨_, Ro G G, G, TurnR.trans (Mod.fp mp1) (fun _ h => .inl h) htn⟩
theorem stepR_dec (T : Nat → Nat) (b : Nat) (M : MS) (ws : List (BitVec 32)) (w : World) (h : RR T w b M ws) (hfin : M.fin = none) (hp : pcBad M ws = false) (x : BitVec 32) (hx : ws[((M.pc - 65536#64) / 4#64).toNat]? = some x) (a : RvInst) (ha : a = decI x) (nm : List UInt8) (hnm : nm = (rvAt a.op.toNat).name) (hbad : ((((decE x : Nat) : Int) != (0 : Int)) || (nm == [101, 98, 114, 101, 97, 107])) = true) : CallsR prog 26 #[ptr b 0] w (fun v w' => v = .bool true ∧ TurnR T w b { M with steps := M.steps + 1#64, fin := some true } ws w') := by
 obtain ⟨cv, dv, sv, iv, ev, hb, ht⟩ := h
 have hb0 : Blk w b (refCells cv dv sv iv M.x M.pc ev false false (I64 M.steps)) 70 := by have h0 := hb; unfold RCells at h0; rw [hfin] at h0; exact h0
 have hi : ((M.pc - 65536#64) / 4#64).toNat < ws.length := (List.getElem?_eq_some_iff.1 hx).1
 have hxc : (wordCells ws)[((M.pc - 65536#64) / 4#64).toNat]? = some (U32 x) := by unfold wordCells; rw [List.getElem?_map, hx]; rfl
 have hop : a.op.toNat < 66 := by rw [ha]; exact dec_op_lt x
 refine Co func26 G G ?_
 refine Sr (Ae (.bool false) (Ni (Sq (Sr (Me (ptr b 0) (WL.nilCheck G G (Fa G fo70_7 (Le (hb0.cell (j := 38) G) (Ni (Cf G (WC.skip (Sr (Me (ptr b 0) (Me (ptr b 0) (WL.nilCheck G G (Fa G fo70_9 (Le (hb0.cell (j := 40) G) (Bn (vy := I64 1#64) G G BinR.add64 (WL.nilCheck G G (Fa G fo70_9 ?_))))))))))))))))))))
 refine WL.storeB (v := I64 ((M.steps + 1#64))) G G G sz3 hb0 (Nat.le_of_ble_eq_true G) ?_
 intro ws1 ms1 bs1 zs1
 have E1 : Mod (fun k => T k = 1) w ws1 := (ms1.imp (fun i _ e => by subst e; exact ht.tb))
 refine Ni (Sr (Me (ptr b 0) (WL.nilCheck G G (Fa G fo70_5 (Le (bs1.cell (j := 36) G) (Bn (vy := U64 65536#64) G G BinR.subU64 (Ae (U64 ((M.pc - 65536#64))) (Ni (Sq (Sq ?_))))))))))
 refine WC.cut (fun f' w_ => f' 0 = ptr b 0 ∧ f' 2 = .bool false ∧ f' 3 = U64 ((M.pc - 65536#64)) ∧ f' 13 = ptr b 0 ∧ f' 14 = ptr b 0 ∧ f' 15 = ptr b 38 ∧ f' 16 = .bool false ∧ f' 17 = ptr b 0 ∧ f' 18 = ptr b 0 ∧ f' 19 = ptr b 0 ∧ f' 20 = ptr b 40 ∧ f' 21 = I64 M.steps ∧ f' 22 = I64 ((M.steps + 1#64)) ∧ f' 23 = ptr b 0 ∧ f' 24 = ptr b 40 ∧ f' 25 = ptr b 0 ∧ f' 26 = ptr b 0 ∧ f' 27 = ptr b 36 ∧ f' 28 = U64 M.pc ∧ f' 29 = U64 ((M.pc - 65536#64)) ∧ f' 50 = .bool ((BitVec.ult M.pc 65536#64 || (((M.pc - 65536#64) % 4#64 != 0#64) || BitVec.ule (BitVec.ofNat 64 ws.length) ((M.pc - 65536#64) / 4#64)))) ∧ ws1 = w_) ?_ ?_
 ·refine Rg (Me (ptr b 0) (WL.nilCheck G G (Fa G fo70_5 (Le (bs1.cell (j := 36) G) (Bn (vy := U64 65536#64) G G BinR.lssU64 (Me (.bool (BitVec.ult M.pc 65536#64)) ?_))))))
  rcases Bool.eq_false_or_eq_true (BitVec.ult M.pc 65536#64) with hg35 | hg35
  ·refine Gz hg35 (Gz hg35 (Gz hg35 (Qt hg35 G (Me (.bool true) (Gx (Gx (Gx (Gx (Gx (Gx (Gx (Gx (Gx (Pt G (Ni ?_)))))))))))))))
   have hcut : true = (BitVec.ult M.pc 65536#64 || (((M.pc - 65536#64) % 4#64 != 0#64) || BitVec.ule (BitVec.ofNat 64 ws.length) ((M.pc - 65536#64) / 4#64))) := by first | (rw [hg35]; rfl) | (rw [hg35, hg40]; rfl)
   exact ⟨G, G, G, G, G, G, G, G, G, G, G, G, G, G, G, G, G, G, G, G, G, congrArg Value.bool hcut, G⟩
  ·refine Gy hg35 (Me (U64 ((M.pc - 65536#64))) (Gy hg35 (Bn (vy := U64 4#64) G G (BinR.remU64 (by decide)) (Gy hg35 (Bn (vy := U64 0#64) G G BinR.neqU64 (Qf hg35 G (Me (.bool ((((M.pc - 65536#64) % 4#64) != 0#64))) ?_)))))))
   rcases Bool.eq_false_or_eq_true ((((M.pc - 65536#64) % 4#64) != 0#64)) with hg40 | hg40
   ·refine Gz hg40 (Gz hg40 (Gz hg40 (Gz hg40 (Gz hg40 (Gz hg40 (Gz hg40 (Gz hg40 (Gz hg40 (Qt hg40 G (Ni ?_))))))))))
    have hcut : true = (BitVec.ult M.pc 65536#64 || (((M.pc - 65536#64) % 4#64 != 0#64) || BitVec.ule (BitVec.ofNat 64 ws.length) ((M.pc - 65536#64) / 4#64))) := by first | (rw [hg35]; rfl) | (rw [hg35, hg40]; rfl)
    exact ⟨G, G, G, G, G, G, G, G, G, G, G, G, G, G, G, G, G, G, G, G, G, congrArg Value.bool hcut, G⟩
   ·refine Gy hg40 (Me (U64 ((M.pc - 65536#64))) (Gy hg40 (Bn (vy := U64 4#64) G G (BinR.quoU64 (by decide)) (Gy hg40 (Me (ptr b 0) (Gy hg40 (WL.nilCheck G G (Gy hg40 (Fa G fo70_0 (Gy hg40 (Le (bs1.cell (j := 0) G) (Gy hg40 ?_))))))))))))
    have S2 := ht.code.mod' ms1 (fun g hg e => (fun e => by have := ht.tc b e; rw [ht.tb] at this; cases this) (hg.trans (congrArg some e)))
    refine WL.lenSl (sz := 1) (m := ws.length) (xs := wordCells ws) el23 G S2 G (Gy hg40 (Cv G (ConvR.nu64 y3 y39) (Gy hg40 (Bn G G BinR.geqU64 (Qf hg40 G (Ni ?_))))))
    have hcut : (BitVec.ule (BitVec.ofNat 64 ws.length) (((M.pc - 65536#64) / 4#64))) = (BitVec.ult M.pc 65536#64 || (((M.pc - 65536#64) % 4#64 != 0#64) || BitVec.ule (BitVec.ofNat 64 ws.length) ((M.pc - 65536#64) / 4#64))) := by first | (rw [hg35]; rfl) | (rw [hg35, hg40]; rfl)
    exact ⟨G, G, G, G, G, G, G, G, G, G, G, G, G, G, G, G, G, G, G, G, G, congrArg Value.bool hcut, G⟩
 rintro fc5 _ ⟨hc5_0, hc5_2, hc5_3, hc5_13, hc5_14, hc5_15, hc5_16, hc5_17, hc5_18, hc5_19, hc5_20, hc5_21, hc5_22, hc5_23, hc5_24, hc5_25, hc5_26, hc5_27, hc5_28, hc5_29, hc5_50, rfl⟩
 refine Cf (hc5_50.trans (congrArg Value.bool hp)) (WC.skip (Sr (Mv (ptr b 0) hc5_0 (WL.nilCheck G G (Fa G fo70_0 (Le (bs1.cell (j := 0) G) (Mv (U64 ((M.pc - 65536#64))) hc5_3 (Bn (vy := U64 4#64) G G (BinR.quoU64 (by decide)) ?_))))))))
 have S3 := ht.code.mod' ms1 (fun g hg e => (fun e => by have := ht.tc b e; rw [ht.tb] at this; cases this) (hg.trans (congrArg some e)))
 refine WL.indexSl (sz := 1) (m := ws.length) (xs := wordCells ws) (i := ((M.pc - 65536#64) / 4#64).toNat) el23 sz50 G G hi S3 G ?_
 intro b60 o60 hb60 hc60
 refine Lx G (by have h := hc60 (((M.pc - 65536#64) / 4#64).toNat * 1) _ (by rw [Nat.mul_one]; exact hxc); exact h) (Ca (decode_q x _) ?_)
 rintro _ wde ⟨rfl, ede⟩
 rw [← ha]
 have E4 : Mod (fun k => T k = 1) w wde := Mt E1 (Mod.ext ede)
 refine Me (.tuple #[instV a, IN (decE x)]) (Et G G (Et G G (WL.allocStore (v := .agg #[U8 a.op, U8 a.rd, U8 a.rs1, U8 a.rs2, I64 a.imm]) zt104 G sz104 G G G G ?_)))
 intro b4 w4 n4
 have E5 : Mod (fun k => T k = 1) w w4 := Mt E4 (Mod.ext n4.ext)
 refine Ae (IN (decE x)) (Ni (Sr (Fa G fo104_0 (Le (n4.blk.cell (j := 0) G) (Ca (name_q a.op _ hop) ?_)))))
 rintro _ wnm ⟨rfl, enm⟩
 rw [← hnm]
 have E6 : Mod (fun k => T k = 1) w wnm := Mt E5 (Mod.ext enm)
 refine Ae (St nm) (Ni (Sq (Sr (Me (IN (decE x)) (Bn G G BinR.neq (Me (.bool (((((decE x) : Nat) : Int) != (0 : Int)))) ?_))))))
 rcases Bool.eq_false_or_eq_true (((((decE x) : Nat) : Int) != (0 : Int))) with hg70 | hg70
 ·refine Gz hg70 (Gz hg70 (Qt hg70 G (Ni (Ct G (Sr (Mv (ptr b 0) hc5_0 ?_))))))
  have B7 := ((bs1.ext ede).ext n4.ext).ext enm
  have hR1 := (⟨cv, dv, sv, iv, ev, (by unfold RCells; dsimp only; rw [hfin]; exact B7), (ht.own E6).regs M.x M.pc (M.steps + 1#64) M.fin⟩ : RR T wnm b { M with steps := M.steps + 1#64 } ws)
  have mp1 := E6
  refine Ca (trap_q T b { M with steps := M.steps + 1#64 } ws _ hR1) ?_
  rintro v75 wt htn
  refine Ni (Sr (Ae (.bool true) (Ni (WC.ret ?_))))
  exact ⟨_, Ro G G, G, TurnR.trans (Mod.fp mp1) (fun _ h => .inl h) htn⟩
 ·refine Gy hg70 (Me (St nm) (Gy hg70 (Bn (vy := St [101, 98, 114, 101, 97, 107]) G G BinR.eqlS (Qf hg70 G (Ni (Ct (congrArg Value.bool (by rw [hg70] at hbad; simpa using hbad)) (Sr (Mv (ptr b 0) hc5_0 ?_))))))))
  have B8 := ((bs1.ext ede).ext n4.ext).ext enm
  have hR1 := (⟨cv, dv, sv, iv, ev, (by unfold RCells; dsimp only; rw [hfin]; exact B8), (ht.own E6).regs M.x M.pc (M.steps + 1#64) M.fin⟩ : RR T wnm b { M with steps := M.steps + 1#64 } ws)
  have mp1 := E6
  refine Ca (trap_q T b { M with steps := M.steps + 1#64 } ws _ hR1) ?_
  rintro v75 wt htn
  refine Ni (Sr (Ae (.bool true) (Ni (WC.ret ?_))))
  exact ⟨_, Ro G G, G, TurnR.trans (Mod.fp mp1) (fun _ h => .inl h) htn⟩
theorem stepR_go (T : Nat → Nat) (b : Nat) (M : MS) (ws : List (BitVec 32)) (w : World) (h : RR T w b M ws) (hfin : M.fin = none) (hp : pcBad M ws = false) (x : BitVec 32) (hx : ws[((M.pc - 65536#64) / 4#64).toNat]? = some x) (a : RvInst) (ha : a = decI x) (nm : List UInt8) (hnm : nm = (rvAt a.op.toNat).name) (S : Value → World → Prop) (hE0 : (((decE x : Nat) : Int) != (0 : Int)) = false) (hnb : (nm == [101, 98, 114, 101, 97, 107]) = false) (hr1 : a.rs1.toNat < 32) (hr2 : a.rs2.toNat < 32) (hdo : doQ nm a.imm M.pc (M.x a.rs1.toNat) (M.x a.rs2.toNat) = (doM a.op.toNat a.imm M.pc (M.x a.rs1.toNat) (M.x a.rs2.toNat))) (hk : ∀ (f : Fr) (b4 : Nat) (w1 : World), RR T w1 b { M with steps := M.steps + 1#64 } ws → Ux.Mod (fun k => T k = 1) w w1 → w.heap.size ≤ b4 → f 0 = ptr b 0 → f 4 = ptr b4 0 → f 6 = St nm → f 7 = U64 (M.x a.rs1.toNat) → f 8 = U64 (M.x a.rs2.toNat) → f 9 = U64 (doM a.op.toNat a.imm M.pc (M.x a.rs1.toNat) (M.x a.rs2.toNat)).1 → f 10 = U64 (doM a.op.toNat a.imm M.pc (M.x a.rs1.toNat) (M.x a.rs2.toNat)).2 → f 11 = .bool true → f 12 = U8 a.rd → Blk w1 b4 #[U8 a.op, U8 a.rd, U8 a.rs1, U8 a.rs2, I64 a.imm] 104 → WC prog mid26 165 f w1 (Fin26 S))  : CallsR prog 26 #[ptr b 0] w (fun v w' => S v w') := by
 obtain ⟨cv, dv, sv, iv, ev, hb, ht⟩ := h
 have hb0 : Blk w b (refCells cv dv sv iv M.x M.pc ev false false (I64 M.steps)) 70 := by have h0 := hb; unfold RCells at h0; rw [hfin] at h0; exact h0
 have hi : ((M.pc - 65536#64) / 4#64).toNat < ws.length := (List.getElem?_eq_some_iff.1 hx).1
 have hxc : (wordCells ws)[((M.pc - 65536#64) / 4#64).toNat]? = some (U32 x) := by unfold wordCells; rw [List.getElem?_map, hx]; rfl
 have hop : a.op.toNat < 66 := by rw [ha]; exact dec_op_lt x
 refine Co func26 G G ?_
 refine Sr (Ae (.bool false) (Ni (Sq (Sr (Me (ptr b 0) (WL.nilCheck G G (Fa G fo70_7 (Le (hb0.cell (j := 38) G) (Ni (Cf G (WC.skip (Sr (Me (ptr b 0) (Me (ptr b 0) (WL.nilCheck G G (Fa G fo70_9 (Le (hb0.cell (j := 40) G) (Bn (vy := I64 1#64) G G BinR.add64 (WL.nilCheck G G (Fa G fo70_9 ?_))))))))))))))))))))
 refine WL.storeB (v := I64 ((M.steps + 1#64))) G G G sz3 hb0 (Nat.le_of_ble_eq_true G) ?_
 intro ws1 ms1 bs1 zs1
 have E1 : Mod (fun k => T k = 1) w ws1 := (ms1.imp (fun i _ e => by subst e; exact ht.tb))
 refine Ni (Sr (Me (ptr b 0) (WL.nilCheck G G (Fa G fo70_5 (Le (bs1.cell (j := 36) G) (Bn (vy := U64 65536#64) G G BinR.subU64 (Ae (U64 ((M.pc - 65536#64))) (Ni (Sq (Sq ?_))))))))))
 refine WC.cut (fun f' w_ => f' 0 = ptr b 0 ∧ f' 2 = .bool false ∧ f' 3 = U64 ((M.pc - 65536#64)) ∧ f' 13 = ptr b 0 ∧ f' 14 = ptr b 0 ∧ f' 15 = ptr b 38 ∧ f' 16 = .bool false ∧ f' 17 = ptr b 0 ∧ f' 18 = ptr b 0 ∧ f' 19 = ptr b 0 ∧ f' 20 = ptr b 40 ∧ f' 21 = I64 M.steps ∧ f' 22 = I64 ((M.steps + 1#64)) ∧ f' 23 = ptr b 0 ∧ f' 24 = ptr b 40 ∧ f' 25 = ptr b 0 ∧ f' 26 = ptr b 0 ∧ f' 27 = ptr b 36 ∧ f' 28 = U64 M.pc ∧ f' 29 = U64 ((M.pc - 65536#64)) ∧ f' 50 = .bool ((BitVec.ult M.pc 65536#64 || (((M.pc - 65536#64) % 4#64 != 0#64) || BitVec.ule (BitVec.ofNat 64 ws.length) ((M.pc - 65536#64) / 4#64)))) ∧ ws1 = w_) ?_ ?_
 ·refine Rg (Me (ptr b 0) (WL.nilCheck G G (Fa G fo70_5 (Le (bs1.cell (j := 36) G) (Bn (vy := U64 65536#64) G G BinR.lssU64 (Me (.bool (BitVec.ult M.pc 65536#64)) ?_))))))
  rcases Bool.eq_false_or_eq_true (BitVec.ult M.pc 65536#64) with hg35 | hg35
  ·refine Gz hg35 (Gz hg35 (Gz hg35 (Qt hg35 G (Me (.bool true) (Gx (Gx (Gx (Gx (Gx (Gx (Gx (Gx (Gx (Pt G (Ni ?_)))))))))))))))
   have hcut : true = (BitVec.ult M.pc 65536#64 || (((M.pc - 65536#64) % 4#64 != 0#64) || BitVec.ule (BitVec.ofNat 64 ws.length) ((M.pc - 65536#64) / 4#64))) := by first | (rw [hg35]; rfl) | (rw [hg35, hg40]; rfl)
   exact ⟨G, G, G, G, G, G, G, G, G, G, G, G, G, G, G, G, G, G, G, G, G, congrArg Value.bool hcut, G⟩
  ·refine Gy hg35 (Me (U64 ((M.pc - 65536#64))) (Gy hg35 (Bn (vy := U64 4#64) G G (BinR.remU64 (by decide)) (Gy hg35 (Bn (vy := U64 0#64) G G BinR.neqU64 (Qf hg35 G (Me (.bool ((((M.pc - 65536#64) % 4#64) != 0#64))) ?_)))))))
   rcases Bool.eq_false_or_eq_true ((((M.pc - 65536#64) % 4#64) != 0#64)) with hg40 | hg40
   ·refine Gz hg40 (Gz hg40 (Gz hg40 (Gz hg40 (Gz hg40 (Gz hg40 (Gz hg40 (Gz hg40 (Gz hg40 (Qt hg40 G (Ni ?_))))))))))
    have hcut : true = (BitVec.ult M.pc 65536#64 || (((M.pc - 65536#64) % 4#64 != 0#64) || BitVec.ule (BitVec.ofNat 64 ws.length) ((M.pc - 65536#64) / 4#64))) := by first | (rw [hg35]; rfl) | (rw [hg35, hg40]; rfl)
    exact ⟨G, G, G, G, G, G, G, G, G, G, G, G, G, G, G, G, G, G, G, G, G, congrArg Value.bool hcut, G⟩
   ·refine Gy hg40 (Me (U64 ((M.pc - 65536#64))) (Gy hg40 (Bn (vy := U64 4#64) G G (BinR.quoU64 (by decide)) (Gy hg40 (Me (ptr b 0) (Gy hg40 (WL.nilCheck G G (Gy hg40 (Fa G fo70_0 (Gy hg40 (Le (bs1.cell (j := 0) G) (Gy hg40 ?_))))))))))))
    have S2 := ht.code.mod' ms1 (fun g hg e => (fun e => by have := ht.tc b e; rw [ht.tb] at this; cases this) (hg.trans (congrArg some e)))
    refine WL.lenSl (sz := 1) (m := ws.length) (xs := wordCells ws) el23 G S2 G (Gy hg40 (Cv G (ConvR.nu64 y3 y39) (Gy hg40 (Bn G G BinR.geqU64 (Qf hg40 G (Ni ?_))))))
    have hcut : (BitVec.ule (BitVec.ofNat 64 ws.length) (((M.pc - 65536#64) / 4#64))) = (BitVec.ult M.pc 65536#64 || (((M.pc - 65536#64) % 4#64 != 0#64) || BitVec.ule (BitVec.ofNat 64 ws.length) ((M.pc - 65536#64) / 4#64))) := by first | (rw [hg35]; rfl) | (rw [hg35, hg40]; rfl)
    exact ⟨G, G, G, G, G, G, G, G, G, G, G, G, G, G, G, G, G, G, G, G, G, congrArg Value.bool hcut, G⟩
 rintro fc5 _ ⟨hc5_0, hc5_2, hc5_3, hc5_13, hc5_14, hc5_15, hc5_16, hc5_17, hc5_18, hc5_19, hc5_20, hc5_21, hc5_22, hc5_23, hc5_24, hc5_25, hc5_26, hc5_27, hc5_28, hc5_29, hc5_50, rfl⟩
 refine Cf (hc5_50.trans (congrArg Value.bool hp)) (WC.skip (Sr (Mv (ptr b 0) hc5_0 (WL.nilCheck G G (Fa G fo70_0 (Le (bs1.cell (j := 0) G) (Mv (U64 ((M.pc - 65536#64))) hc5_3 (Bn (vy := U64 4#64) G G (BinR.quoU64 (by decide)) ?_))))))))
 have S3 := ht.code.mod' ms1 (fun g hg e => (fun e => by have := ht.tc b e; rw [ht.tb] at this; cases this) (hg.trans (congrArg some e)))
 refine WL.indexSl (sz := 1) (m := ws.length) (xs := wordCells ws) (i := ((M.pc - 65536#64) / 4#64).toNat) el23 sz50 G G hi S3 G ?_
 intro b60 o60 hb60 hc60
 refine Lx G (by have h := hc60 (((M.pc - 65536#64) / 4#64).toNat * 1) _ (by rw [Nat.mul_one]; exact hxc); exact h) (Ca (decode_q x _) ?_)
 rintro _ wde ⟨rfl, ede⟩
 rw [← ha]
 have E4 : Mod (fun k => T k = 1) w wde := Mt E1 (Mod.ext ede)
 refine Me (.tuple #[instV a, IN (decE x)]) (Et G G (Et G G (WL.allocStore (v := .agg #[U8 a.op, U8 a.rd, U8 a.rs1, U8 a.rs2, I64 a.imm]) zt104 G sz104 G G G G ?_)))
 intro b4 w4 n4
 have E5 : Mod (fun k => T k = 1) w w4 := Mt E4 (Mod.ext n4.ext)
 refine Ae (IN (decE x)) (Ni ?_)
 have hb4 : w.heap.size ≤ b4 := by have := n4.num; have := Mod.size E4; omega
 refine Sr (Fa G fo104_0 (Le (n4.blk.cell (j := 0) G) (Ca (name_q a.op _ hop) ?_)))
 rintro _ wnm ⟨rfl, enm⟩
 rw [← hnm]
 have E6 : Mod (fun k => T k = 1) w wnm := Mt E5 (Mod.ext enm)
 refine Ae (St nm) (Ni (Sq (Sr (Me (IN (decE x)) (Bf G G BinR.neq hE0 (Me (.bool false) (Gr (Me (St nm) (Gr (Bf (vy := St [101, 98, 114, 101, 97, 107]) G G BinR.eqlS hnb (Pf G (Ni (Cf G (WC.skip (Sq (WC.draw (fun w_ => Ext wnm w_) 16 G mixed ?_))))))))))))))))
 intro wd_13 ed_13
 have R7 : Ext wnm wd_13 := ed_13
 have E8 : Mod (fun k => T k = 1) w wd_13 := Mt E6 (Mod.ext ed_13)
 refine Tp 0 (ptr b 0) G G (Mv (ptr b 0) hc5_0 Ok) R7 (Tp 1 (ptr b4 2) G G (Fa G fo104_2 Ok) R7 (Tk 2 (U8 a.rs1) G G (fun _ hS => Le (((n4.blk.ext enm).ext hS).cell (j := 2) G) Ok) R7 (Tj 3 (ptr b 0) G G R7 (Tp 4 (ptr b 4) G G (Fa G fo70_4 Ok) R7 (Tp 5 (ptr b (4 + a.rs1.toNat)) G G (WL.indexArr1 (i := a.rs1.toNat) ar68 sz39 G G hr1 G Ok) R7 (Tk 6 (U64 (M.x a.rs1.toNat)) G G (fun _ hS => Lx G ((((((bs1.ext ede).ext n4.ext).ext enm).ext hS)).cell (refCells_x _ _ _ _ _ _ _ _ _ _ hr1)) Ok) R7 (Tp 7 (ptr b 0) G G (Mv (ptr b 0) hc5_0 Ok) R7 (Tp 8 (ptr b4 3) G G (Fa G fo104_3 Ok) R7 (Tk 9 (U8 a.rs2) G G (fun _ hS => Le (((n4.blk.ext enm).ext hS).cell (j := 3) G) Ok) R7 (Tj 10 (ptr b 0) G G R7 (Tp 11 (ptr b 4) G G (Fa G fo70_4 Ok) R7 (Tp 12 (ptr b (4 + a.rs2.toNat)) G G (WL.indexArr1 (i := a.rs2.toNat) ar68 sz39 G G hr2 G Ok) R7 (Tk 13 (U64 (M.x a.rs2.toNat)) G G (fun _ hS => Lx G ((((((bs1.ext ede).ext n4.ext).ext enm).ext hS)).cell (refCells_x _ _ _ _ _ _ _ _ _ _ hr2)) Ok) R7 (Tm 14 (U64 (M.x a.rs1.toNat)) G G R7 (Tm 15 (U64 (M.x a.rs2.toNat)) G G R7 (WA.done (by kernel_rfl) (Sq (WC.draw (fun w_ => Ext wd_13 w_) 13 G mixed ?_))))))))))))))))))
 intro wd_14 ed_14
 have R29 : Ext wd_13 wd_14 := ed_14
 have E30 : Mod (fun k => T k = 1) w wd_14 := Mt E8 (Mod.ext ed_14)
 refine Tk 0 (.agg #[U8 a.op, U8 a.rd, U8 a.rs1, U8 a.rs2, I64 a.imm]) G G (fun _ hS => Se _ (((n4.blk.ext enm).ext ed_13).ext hS) Ok) R29 (Tp 1 (ptr b 0) G G (Mv (ptr b 0) hc5_0 Ok) R29 (Tj 2 (ptr b 0) G G R29 (Tp 3 (ptr b 36) G G (Fa G fo70_5 Ok) R29 (Tk 4 (U64 M.pc) G G (fun _ hS => Le ((((((bs1.ext ede).ext n4.ext).ext enm).ext ed_13).ext hS).cell (j := 36) G) Ok) R29 (Tm 5 (U64 (M.x a.rs1.toNat)) G G R29 (Tm 6 (U64 (M.x a.rs2.toNat)) G G R29 (WA.one (i := 7) (m' := 255) (by kernel_rfl) G G (Ca (do_q a.op a.rd a.rs1 a.rs2 a.imm M.pc (M.x a.rs1.toNat) (M.x a.rs2.toNat) _ nm hop hnm) ?_))))))))
 rintro _ wdo ⟨rfl, edo⟩
 rw [hdo]
 have R40 := Mt R29 edo
 have E41 : Mod (fun k => T k = 1) w wdo := Mt E30 (Mod.ext edo)
 refine WL.behind R40 (Tm 8 (.tuple #[U64 (doM a.op.toNat a.imm M.pc (M.x a.rs1.toNat) (M.x a.rs2.toNat)).1, U64 (doM a.op.toNat a.imm M.pc (M.x a.rs1.toNat) (M.x a.rs2.toNat)).2]) G G R40 (Tm 9 (U64 ((doM a.op.toNat a.imm M.pc (M.x a.rs1.toNat) (M.x a.rs2.toNat)).1)) G G R40 (Tm 10 (U64 ((doM a.op.toNat a.imm M.pc (M.x a.rs1.toNat) (M.x a.rs2.toNat)).2)) G G R40 (Tm 11 (U64 ((doM a.op.toNat a.imm M.pc (M.x a.rs1.toNat) (M.x a.rs2.toNat)).1)) G G R40 (Tm 12 (U64 ((doM a.op.toNat a.imm M.pc (M.x a.rs1.toNat) (M.x a.rs2.toNat)).2)) G G R40 (WA.done (by kernel_rfl) (Sr (Ae (.bool true) (Ni (Sr (Fa G fo104_1 ?_)))))))))))
 have B47 := (((n4.blk.ext enm).ext ed_13).ext ed_14).ext edo
 refine Le (B47.cell (j := 1) G) (Ae (U8 a.rd) (Ni ?_))
 have B48 := (((((bs1.ext ede).ext n4.ext).ext enm).ext ed_13).ext ed_14).ext edo
 exact hk _ b4 _ (⟨cv, dv, sv, iv, ev, (by unfold RCells; dsimp only; rw [hfin]; exact B48), (ht.own E41).regs M.x M.pc (M.steps + 1#64) M.fin⟩ : RR T wdo b { M with steps := M.steps + 1#64 } ws) E41 hb4 hc5_0 G G G G G G G G B47
end Go.Proofs.S
end
section
namespace Go.Proofs.S
open Go Go.Ux Go.Ux.Mach Go.Proofs Go.Proofs.M Go.Ux.Image
open Tryz
open Go.Proofs.N (doM loadsM)
set_option linter.unusedVariables false
theorem pc_bad {M : MS} {ws : List (BitVec 32)} (hc : M.code = ws.map decW) (h : pcBad M ws = true) : nextM M = none := by
 have hl : M.code.length = ws.length := by rw [hc, List.length_map]
 unfold pcBad at h
 unfold nextM
 by_cases h1 : BitVec.ult M.pc 65536#64 = true
 ·rw [if_pos h1]
 by_cases h2 : ((M.pc - 65536#64) % 4#64 != 0#64) = true
 ·rw [if_neg h1, if_pos h2]
 by_cases h3 : BitVec.ule (BitVec.ofNat 64 M.code.length) ((M.pc - 65536#64) / 4#64) = true
 ·rw [if_neg h1, if_neg h2, if_pos h3]
 ·rw [hl] at h3
  rw [Bool.eq_false_iff.2 h1, Bool.eq_false_iff.2 h2, Bool.eq_false_iff.2 h3] at h
  cases h
theorem pc_good {M : MS} {ws : List (BitVec 32)} (hc : M.code = ws.map decW) (hn : ws.length ≤ 1000000) (h : pcBad M ws = false) : ∃ x, ws[((M.pc - 65536#64) / 4#64).toNat]? = some x ∧ nextM M = if (decW x).2 = true then some (decI x) else none := by
 have hl : M.code.length = ws.length := by rw [hc, List.length_map]
 unfold pcBad at h
 rw [Bool.or_eq_false_iff, Bool.or_eq_false_iff] at h
 obtain ⟨h1, h2, h3⟩ := h
 have hlt : ((M.pc - 65536#64) / 4#64).toNat < ws.length := by
  have : ¬ ((BitVec.ofNat 64 ws.length).toNat ≤ ((M.pc - 65536#64) / 4#64).toNat) := by
   intro e
   have : BitVec.ule (BitVec.ofNat 64 ws.length) ((M.pc - 65536#64) / 4#64) = true := decide_eq_true e
   rw [this] at h3; cases h3
  rw [BitVec.toNat_ofNat] at this
  omega
 refine ⟨ws[((M.pc - 65536#64) / 4#64).toNat], List.getElem?_eq_getElem hlt, ?_⟩
 unfold nextM
 rw [if_neg (by rw [h1]; decide), if_neg (by rw [h2]; decide), if_neg (by rw [hl, h3]; decide)]
 have e : M.code[nextI M]? = some (decW ws[((M.pc - 65536#64) / 4#64).toNat]) := by
  rw [hc, List.getElem?_map]
  show (ws[((M.pc - 65536#64) / 4#64).toNat]?).map decW = _
  rw [List.getElem?_eq_getElem hlt]; rfl
 rw [e]
 have e2 : decW ws[((M.pc - 65536#64) / 4#64).toNat] = (decI ws[((M.pc - 65536#64) / 4#64).toNat], (decW ws[((M.pc - 65536#64) / 4#64).toNat]).2) := rfl
 rw [e2]
 cases (decW ws[((M.pc - 65536#64) / 4#64).toNat]).2 <;> rfl
theorem dec_good {x : BitVec 32} (h : (decW x).2 = true) : ∃ i, 1 ≤ i ∧ i < 65 ∧ decI x = decodeAt i x ∧ decE x = 0 ∧ (decI x).op.toNat = i := by
 rcases hf : findRow x tableD with _ | i
 ·have : (decW x).2 = false := by unfold decW decE; rw [hf]; rfl
  rw [this] at h; cases h
 ·have hi := findRow_lt hf
  rw [tableD_length] at hi
  obtain ⟨h1, h2⟩ := decI_of hf
  have h0 : i ≠ 0 := by
   rintro rfl
   unfold findRow at hf
   rw [List.findIdx?_eq_some_iff_getElem] at hf
   obtain ⟨_, h3, _⟩ := hf
   have : rowIs tableD[0] x = false := by
    show (((rvAt 0).form.mask != 0#32) && _) = false
    rw [row_zero]; rfl
   rw [this] at h3; cases h3
  have ho : (decI x).op.toNat = i := by rw [h1]; show (BitVec.ofNat 8 i).toNat = i; rw [BitVec.toNat_ofNat]; omega
  have h65 : i ≠ 65 := by
   rintro rfl
   have : (decW x).2 = ((decI x).op != 65#8) := decW_T (by rw [h2]; rfl)
   have e : (decI x).op = 65#8 := by rw [h1]; rfl
   rw [this, e] at h; cases h
  exact ⟨i, by omega, by omega, h1, h2, ho⟩
theorem all66 {p : Nat → Bool} (h : ((List.range 66).all p) = true) {i : Nat} (hi : i < 66) : p i = true := List.all_eq_true.1 h i (List.mem_range.2 hi)
theorem put_eq {M : MS} {a : RvInst} {i : Nat} (ho : a.op.toNat = i) (hi : i < 66) (hw : writesF a = !(a.rd == 0#8)) (v nx : BitVec 64) : putQ M (rvAt i).name a.rd v nx = putM M a v nx := by
 have hf := all66 say_fence hi
 have e63 : (a.op != 63#8) = !(i == 63) := by
  have : (a.op == 63#8) = (i == 63) := by
   rw [← ho]
   by_cases h : a.op = 63#8
   ·rw [h]; rfl
   ·have h2 : a.op.toNat ≠ 63 := fun e => h (BitVec.eq_of_toNat_eq e)
    rw [beq_eq_false_iff_ne.2 h, beq_eq_false_iff_ne.2 h2]
  show (!(a.op == 63#8)) = _
  rw [this]
 have hn : ((rvAt i).name == [102, 101, 110, 99, 101]) = (i == 63) := by simpa using hf
 unfold putQ putR putM
 rw [hn, hw, e63]
 rcases hq : (i == 63) with _ | _
 ·have hz : (!(a.rd == 0#8)) = BitVec.ult 0#8 a.rd := by
   unfold BitVec.ult
   by_cases h : a.rd = 0#8
   ·rw [h]; rfl
   ·have h2 : 0 < a.rd.toNat := by
     rcases Nat.eq_zero_or_pos a.rd.toNat with h0 | h0
     ·exact absurd (BitVec.eq_of_toNat_eq h0) h
     ·exact h0
    rw [beq_eq_false_iff_ne.2 h]; exact (decide_eq_true h2).symm
  rw [hz]; simp only [Bool.false_eq_true, if_false, Bool.not_false, Bool.and_true]
 ·simp only [if_true, Bool.not_true, Bool.and_false, Bool.false_eq_true, if_false]
  rfl
theorem finNone (M : MS) (h : M.fin = none) : { M with fin := none } = M := by cases M; cases h; rfl
theorem stepR_spec (T : Nat → Nat) (b : Nat) (M : MS) (ws : List (BitVec 32)) (w : World) (h : RR T w b M ws) (hws : ws.length ≤ 1000000) (he : M.events.length < 8796093022208) :
  CallsR prog 26 #[ptr b 0] w (fun v w' => v = .bool M.fin.isNone ∧ TurnR T w b (stepV M) ws w') := by
 rcases hfin : M.fin with _ | t
 rotate_left
 ·refine (stepR_end T b M ws w h t hfin).mono fun v w' ⟨hv, e⟩ => ⟨hv, ?_⟩
  have : stepV M = M := by unfold stepV; rw [hfin]; rfl
  rw [this]; exact TurnR.ext (TurnR.refl h) e
 have hsv : stepV M = stepM M := stepV_none hfin
 rw [hsv]
 have hcm : M.code = ws.map decW := by obtain ⟨_, _, _, _, _, _, ht⟩ := h; exact ht.cm
 rcases hp : pcBad M ws with _ | _
 rotate_left
 ·have hn := pc_bad hcm hp
  refine (stepR_bad T b M ws w h hfin hp).mono fun v w' ⟨hv, e⟩ => ⟨hv, ?_⟩
  have : stepM M = { M with steps := M.steps + 1#64, fin := some true } := by unfold stepM; rw [hn]
  rw [this]; exact e
 obtain ⟨x, hx, hn⟩ := pc_good hcm hws hp
 rcases hd : (decW x).2 with _ | _
 ·rw [hd, if_neg (by decide)] at hn
  have hs : stepM M = { M with steps := M.steps + 1#64, fin := some true } := by unfold stepM; rw [hn]
  rw [hs]
  refine stepR_dec T b M ws w h hfin hp x hx (decI x) G (rvAt (decI x).op.toNat).name G ?_
  rw [Bool.or_eq_true]
  rcases hE : (((decE x : Nat) : Int) == (0 : Int)) with _ | _
  ·left; show (!(((decE x : Nat) : Int) == (0 : Int))) = true; rw [hE]; rfl
  ·right
   rw [decW_T hE] at hd
   have h65 : (decI x).op = 65#8 := by simpa using hd
   rw [h65]; rfl
 rw [hd, if_pos rfl] at hn
 obtain ⟨i, hi1, hi2, hdec, hdE, ho⟩ := dec_good hd
 obtain ⟨_, ho66, hr1, hr2, hrd⟩ := decI_ok hd
 have hw : writesF (decI x) = !((decI x).rd == 0#8) := by rw [hdec]; exact writes_dec hi1 (by omega)
 have hnb : ((rvAt i).name == [101, 98, 114, 101, 97, 107]) = false := by
  have h1 := all66 say_break (i := i) (by omega)
  have h2 : ((rvAt i).name == [101, 98, 114, 101, 97, 107]) = (i == 65) := by simpa using h1
  rw [h2]; exact beq_eq_false_iff_ne.2 (by omega)
 have hlong : 0 < (rvAt i).name.length := by
  have h1 := all66 say_long (i := i) (by omega)
  rw [Bool.or_eq_true] at h1
  rcases h1 with h1 | h1
  ·have : i = 0 := by simpa using h1
   omega
  ·exact of_decide_eq_true h1
 have hlen6 := name_len (i := i) (by omega)
 generalize ha : decI x = a at *
 have hs : stepM M = { (doesM { M with steps := M.steps + 1#64 } a).1 with fin := (doesM { M with steps := M.steps + 1#64 } a).2 } := by unfold stepM; rw [hn]
 refine stepR_go T b M ws w h hfin hp x hx a ha.symm (rvAt i).name (by rw [ho]) (fun v w' => v = .bool true ∧ TurnR T w b (stepM M) ws w') (by rw [hdE]; rfl) hnb hr1 hr2 (by rw [do_eq i _ _ _ _ hi1 (by omega), ho]) ?_
 intro f b4 w1 hR1 mw hb4 f0 f4 f6 f7 f8 f9 f10 f11 f12 h4
 have pre : ∀ {M2 : MS} {w2 : World}, TurnR T w1 b M2 ws w2 → TurnR T w b M2 ws w2 := fun h => TurnR.trans (Mod.fp mw) (fun _ h => .inl h) h
 have t4 : T b4 = 0 := by
  rcases Nat.eq_zero_or_pos (T b4) with h0 | h0
  ·exact h0
  ·have := h.lt b4 (by omega); omega
 have put : ∀ (M' : MS) (v nx : BitVec 64), putQ M' (rvAt i).name a.rd v nx = putM M' a v nx := fun M' v nx => put_eq ho (by omega) hw v nx
 have f1 : ({ M with steps := M.steps + 1#64 } : MS).fin = none := hfin
 rw [hs]
 by_cases hz : 0 < (loadsM i).1
 ·-- a load
  have hsay := all66 say_loads (i := i) (by omega)
  rw [decide_eq_true hz, Bool.not_true, Bool.false_or, Bool.and_eq_true, Bool.and_eq_true] at hsay
  obtain ⟨⟨k1, k2⟩, k3⟩ := hsay
  have kz : sizeQ (rvAt i).name = (loadsM i).1 := by simpa using k2
  have ksg : (cL i != 117#8) = (loadsM i).2 := by simpa using k3
  have kc : c0 i = 108#8 := by simpa using k1
  have q1 : (((rvAt i).name.getD 0 0).toBitVec == 108#8) = true := k1
  have q2 : (((rvAt i).name.getD 0 0).toBitVec == 115#8) = false := by show (c0 i == 115#8) = false; rw [kc]; rfl
  have q3 : (((rvAt i).name.getD 0 0).toBitVec == 101#8) = false := by show (c0 i == 101#8) = false; rw [kc]; rfl
  rcases hW : whereM M.n (M.x a.rs1.toNat + a.imm) (loadsM i).1 with _ | ⟨k, o⟩
  ·have hr : doesM { M with steps := M.steps + 1#64 } a = ({ M with steps := M.steps + 1#64 }, some true) := by
    unfold doesM; dsimp only; rw [ho, if_pos hz, hW]
   rw [hr]
   exact mid_loadno T b b4 _ ws a (rvAt i).name _ _ _ _ _ f w1 hR1 f0 f4 f6 f7 f8 f9 f10 f11 f12 h4 hlong hrd q1 q2 q3 (loadsM i).1 kz (loads_size hz) (by omega) hW (fun w2 h2 => ⟨G, pre h2⟩)
  ·have hr : doesM { M with steps := M.steps + 1#64 } a = (putM { M with steps := M.steps + 1#64 } a (loadV M.d M.s k o (loadsM i).1 (loadsM i).2) (doM a.op.toNat a.imm M.pc (M.x a.rs1.toNat) (M.x a.rs2.toNat)).2, none) := by
    unfold doesM; dsimp only; rw [ho, if_pos hz, hW]
   rw [hr]
   have hfn : { putM { M with steps := M.steps + 1#64 } a (loadV M.d M.s k o (loadsM i).1 (loadsM i).2) (doM a.op.toNat a.imm M.pc (M.x a.rs1.toNat) (M.x a.rs2.toNat)).2 with fin := none } = putM { M with steps := M.steps + 1#64 } a (loadV M.d M.s k o (loadsM i).1 (loadsM i).2) (doM a.op.toNat a.imm M.pc (M.x a.rs1.toNat) (M.x a.rs2.toNat)).2 := finNone _ hfin
   dsimp only at hfn ⊢
   rw [hfn]
   rcases hsg : (loadsM i).2 with _ | _
   ·rw [hsg] at ksg
    exact mid_load_false T b b4 _ ws a (rvAt i).name _ _ _ _ _ f w1 hR1 f0 f4 f6 f7 f8 f9 f10 f11 f12 h4 hlong hrd q1 q2 q3 (loadsM i).1 kz (loads_size hz) (by omega) ksg k o hW (fun w2 h2 => ⟨G, by rw [put] at h2; exact pre h2⟩)
   ·rw [hsg] at ksg
    exact mid_load_true T b b4 _ ws a (rvAt i).name _ _ _ _ _ f w1 hR1 f0 f4 f6 f7 f8 f9 f10 f11 f12 h4 hlong hrd q1 q2 q3 (loadsM i).1 kz (loads_size hz) (by omega) ksg k o hW (fun w2 h2 => ⟨G, by rw [put] at h2; exact pre h2⟩)
 by_cases hst : 18 ≤ i ∧ i ≤ 21
 ·-- a store
  have hsay := all66 say_stores (i := i) (by omega)
  rw [decide_eq_true hst, Bool.not_true, Bool.false_or, Bool.and_eq_true, Bool.and_eq_true] at hsay
  obtain ⟨⟨k1, k2⟩, k3⟩ := hsay
  have kz : sizeQ (rvAt i).name = 2 ^ (i - 18) := by simpa using k3
  have kc : c0 i = 115#8 := by simpa using k1
  have q1 : (((rvAt i).name.getD 0 0).toBitVec == 108#8) = false := by show (c0 i == 108#8) = false; rw [kc]; rfl
  have q2 : (((rvAt i).name.getD 0 0).toBitVec == 115#8) = true := k1
  have q3 : (((rvAt i).name.getD 0 0).toBitVec == 101#8) = false := by show (c0 i == 101#8) = false; rw [kc]; rfl
  have hzz : 2 ^ (i - 18) = 1 ∨ 2 ^ (i - 18) = 2 ∨ 2 ^ (i - 18) = 4 ∨ 2 ^ (i - 18) = 8 := by
   have : i = 18 ∨ i = 19 ∨ i = 20 ∨ i = 21 := by omega
   rcases this with rfl | rfl | rfl | rfl <;> decide
  rcases hW : whereM M.n (M.x a.rs1.toNat + a.imm) (2 ^ (i - 18)) with _ | ⟨k, o⟩
  ·have hr : doesM { M with steps := M.steps + 1#64 } a = ({ M with steps := M.steps + 1#64 }, some true) := by
    unfold doesM; dsimp only; rw [ho, if_neg hz, if_pos hst, hW]
   rw [hr]
   exact mid_storeno T b b4 _ ws a (rvAt i).name _ _ _ _ _ f w1 hR1 f0 f4 f6 f7 f8 f9 f10 f11 f12 h4 hlong hrd q1 q2 q3 (2 ^ (i - 18)) kz hzz hW (fun w2 h2 => ⟨G, pre h2⟩)
  ·have hr : doesM { M with steps := M.steps + 1#64 } a = (putM (storeM { M with steps := M.steps + 1#64 } k o (2 ^ (i - 18)) (M.x a.rs2.toNat)) a (doM a.op.toNat a.imm M.pc (M.x a.rs1.toNat) (M.x a.rs2.toNat)).1 (doM a.op.toNat a.imm M.pc (M.x a.rs1.toNat) (M.x a.rs2.toNat)).2, none) := by
    unfold doesM; dsimp only; rw [ho, if_neg hz, if_pos hst, hW]
   rw [hr]
   have hfs : (storeM { M with steps := M.steps + 1#64 } k o (2 ^ (i - 18)) (M.x a.rs2.toNat)).fin = none := by cases k <;> exact hfin
   have hfn := finNone (putM (storeM { M with steps := M.steps + 1#64 } k o (2 ^ (i - 18)) (M.x a.rs2.toNat)) a (doM a.op.toNat a.imm M.pc (M.x a.rs1.toNat) (M.x a.rs2.toNat)).1 (doM a.op.toNat a.imm M.pc (M.x a.rs1.toNat) (M.x a.rs2.toNat)).2) hfs
   dsimp only at hfn ⊢
   rw [hfn]
   exact mid_store T b b4 _ ws a (rvAt i).name _ _ _ _ _ f w1 hR1 f0 f4 f6 f7 f8 f9 f10 f11 f12 h4 hlong hrd q1 q2 q3 t4 (2 ^ (i - 18)) kz hzz k o hW (fun w2 h2 => ⟨G, by rw [put] at h2; exact pre h2⟩)
 by_cases h64 : i = 64
 ·subst h64
  obtain ⟨q1, q2, q3⟩ := say_call
  have hcall : doesM { M with steps := M.steps + 1#64 } a = (if (callsM { M with steps := M.steps + 1#64 }).2 == some true then (callsM { M with steps := M.steps + 1#64 }).1 else putM (callsM { M with steps := M.steps + 1#64 }).1 a (doM a.op.toNat a.imm M.pc (M.x a.rs1.toNat) (M.x a.rs2.toNat)).1 (doM a.op.toNat a.imm M.pc (M.x a.rs1.toNat) (M.x a.rs2.toNat)).2, (callsM { M with steps := M.steps + 1#64 }).2) := by
   unfold doesM; dsimp only; rw [ho, if_neg hz, if_neg hst, if_pos rfl]
  rw [hcall]
  rcases hok : ((callsM { M with steps := M.steps + 1#64 }).2 == some true) with _ | _
  ·refine mid_call T b b4 _ ws a (rvAt 64).name _ _ _ _ _ f w1 hR1 f0 f4 f6 f7 f8 f9 f10 f11 f12 h4 hlong hrd q1 q2 q3 he f1 hok (fun w2 h2 => ⟨G, ?_⟩)
   rw [put] at h2
   have e : putM (callsR { M with steps := M.steps + 1#64 }) a (doM a.op.toNat a.imm M.pc (M.x a.rs1.toNat) (M.x a.rs2.toNat)).1 (doM a.op.toNat a.imm M.pc (M.x a.rs1.toNat) (M.x a.rs2.toNat)).2 = { putM (callsM { M with steps := M.steps + 1#64 }).1 a (doM a.op.toNat a.imm M.pc (M.x a.rs1.toNat) (M.x a.rs2.toNat)).1 (doM a.op.toNat a.imm M.pc (M.x a.rs1.toNat) (M.x a.rs2.toNat)).2 with fin := (callsM { M with steps := M.steps + 1#64 }).2 } := by
    unfold callsR putM
    dsimp only
    rcases hc : (callsM { M with steps := M.steps + 1#64 }).2 with _ | t
    ·rw [hfin]
    ·cases t
     ·rfl
     ·rw [hc] at hok; cases hok
   rw [e] at h2
   exact pre h2
  ·refine mid_callno T b b4 _ ws a (rvAt 64).name _ _ _ _ _ f w1 hR1 f0 f4 f6 f7 f8 f9 f10 f11 f12 h4 hlong hrd q1 q2 q3 he f1 hok (fun w2 h2 => ⟨G, ?_⟩)
   have hc : (callsM { M with steps := M.steps + 1#64 }).2 = some true := by simpa using hok
   have e : ({ callsR { M with steps := M.steps + 1#64 } with fin := some true } : MS) = { (callsM { M with steps := M.steps + 1#64 }).1 with fin := (callsM { M with steps := M.steps + 1#64 }).2 } := by rw [hc]; rfl
   rw [e] at h2
   exact pre h2
 -- the others
 have hr : doesM { M with steps := M.steps + 1#64 } a = (putM { M with steps := M.steps + 1#64 } a (doM a.op.toNat a.imm M.pc (M.x a.rs1.toNat) (M.x a.rs2.toNat)).1 (doM a.op.toNat a.imm M.pc (M.x a.rs1.toNat) (M.x a.rs2.toNat)).2, none) := by
  unfold doesM; dsimp only; rw [ho, if_neg hz, if_neg hst, if_neg h64]
 rw [hr]
 have hfn := finNone (putM { M with steps := M.steps + 1#64 } a (doM a.op.toNat a.imm M.pc (M.x a.rs1.toNat) (M.x a.rs2.toNat)).1 (doM a.op.toNat a.imm M.pc (M.x a.rs1.toNat) (M.x a.rs2.toNat)).2) hfin
 dsimp only at hfn ⊢
 rw [hfn]
 have hsay := all66 say_else (i := i) (by omega)
 rw [decide_eq_false hz, decide_eq_false hst, beq_eq_false_iff_ne.2 h64, beq_eq_false_iff_ne.2 (show i ≠ 65 by omega), beq_eq_false_iff_ne.2 (show i ≠ 0 by omega)] at hsay
 simp only [Bool.false_or, Bool.and_eq_true] at hsay
 obtain ⟨k1, k2⟩ := hsay
 have kz : sizeQ (rvAt i).name = 0 := by simpa using k1
 have q3 : (((rvAt i).name.getD 0 0).toBitVec == 101#8) = false := by
  rcases h9 : (c0 i == 101#8) with _ | _
  ·exact h9
  ·rw [h9] at k2; cases k2
 have hS : ∀ w', TurnR T w1 b (putQ { M with steps := M.steps + 1#64 } (rvAt i).name a.rd (doM a.op.toNat a.imm M.pc (M.x a.rs1.toNat) (M.x a.rs2.toNat)).1 (doM a.op.toNat a.imm M.pc (M.x a.rs1.toNat) (M.x a.rs2.toNat)).2) ws w' → (Value.bool true = Value.bool true ∧ TurnR T w b (putM { M with steps := M.steps + 1#64 } a (doM a.op.toNat a.imm M.pc (M.x a.rs1.toNat) (M.x a.rs2.toNat)).1 (doM a.op.toNat a.imm M.pc (M.x a.rs1.toNat) (M.x a.rs2.toNat)).2) ws w') := fun w2 h2 => ⟨rfl, by rw [put] at h2; exact pre h2⟩
 rcases q1 : (((rvAt i).name.getD 0 0).toBitVec == 108#8) with _ | _
 ·rcases q2 : (((rvAt i).name.getD 0 0).toBitVec == 115#8) with _ | _
  ·exact mid_o0 T b b4 _ ws a (rvAt i).name _ _ _ _ _ f w1 hR1 f0 f4 f6 f7 f8 f9 f10 f11 f12 h4 hlong hrd q1 q2 q3 hS
  ·exact mid_s0 T b b4 _ ws a (rvAt i).name _ _ _ _ _ f w1 hR1 f0 f4 f6 f7 f8 f9 f10 f11 f12 h4 hlong hrd q1 q2 q3 0 kz G hS
 ·have kc : ((rvAt i).name.getD 0 0).toBitVec = 108#8 := by simpa using q1
  have q2 : (((rvAt i).name.getD 0 0).toBitVec == 115#8) = false := by rw [kc]; rfl
  exact mid_l0 T b b4 _ ws a (rvAt i).name _ _ _ _ _ f w1 hR1 f0 f4 f6 f7 f8 f9 f10 f11 f12 h4 hlong hrd q1 q2 q3 0 kz G hS
end Go.Proofs.S
end
