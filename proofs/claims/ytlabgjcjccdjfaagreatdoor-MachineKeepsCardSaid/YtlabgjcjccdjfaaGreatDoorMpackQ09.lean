/- Steps of the proof, packed by program: McS9 McT1 McLoad McT2. -/
import Derived.Test.YtlabgjcjccdjfaaGreatDoorRows
import Derived.Test.YtlabgjcjccdjfaaGreatDoorMpackQ02
import Derived.Test.YtlabgjcjccdjfaaGreatDoorMpackQ05
import Derived.Test.YtlabgjcjccdjfaaGreatDoorMpackQ06
import Derived.Test.YtlabgjcjccdjfaaGreatDoorMpackQ08
set_option linter.unusedVariables false
set_option linter.unusedSimpArgs false
set_option linter.unnecessarySimpa false
section
set_option linter.unusedSimpArgs false
set_option linter.unusedVariables false
namespace Go.Proofs.S
open Go Go.Ux Go.Ux.Mach Go.Proofs
theorem ca28 : callable Tryz.prog 28 = true := by kernel_rfl
open Go.Proofs.M (instV Glob of_ok)
def writesF (a : RvInst) : Bool := !((((encodeR a).2 : Nat) : Int) != (0 : Int)) && ((formOf (rvAt a.op.toNat).k).rd && !(a.rd == 0#8))
set_option maxRecDepth 100000 in
theorem writes_spec (a : RvInst) (w : World) (hG : Glob w) (ho1 : 1 ≤ a.op.toNat) (ho2 : a.op.toNat < 66)  : CallsR Tryz.prog 71 #[.agg #[U8 (a.op), U8 (a.rd), U8 (a.rs1), U8 (a.rs2), I64 (a.imm)]] w (fun v w' => v = (if writesF a then .tuple #[U8 a.rd, .bool true] else .tuple #[.int .u8 0, .bool false]) ∧ Ext w w') := by
  refine callsR_of Tryz.func71 rfl rfl rfl ?_
  refine WC.seq (WC.region (WL.box (v := .agg #[U8 (a.op), U8 (a.rd), U8 (a.rs1), U8 (a.rs2), I64 (a.imm)]) rfl rfl ?_))
  intro b1 w1 n1
  have E1 : Ext w w1 := Mod.trans (Mod.refl _ _) (n1.ext)
  refine WL.assign (v := U8 (0#8)) rfl rfl (WL.assign (v := .bool (false)) rfl rfl (WL.nil (WC.seq (WC.region (WL.loadS [U8 (a.op), U8 (a.rd), U8 (a.rs1), U8 (a.rs2), I64 (a.imm)] rfl ag48 sz48 rfl (n1.blk.sub (o := 0) (vs := [U8 (a.op), U8 (a.rd), U8 (a.rs1), U8 (a.rs2), I64 (a.imm)]) rfl) rfl (WL.call ca28 (rfl) rfl (encode_spec a _ (hG.ext (E1))) ?_))))))
  rintro _ wen ⟨rfl, een⟩
  have E2 : Ext w wen := Mod.trans (E1) (een)
  refine WL.move (v := .tuple #[U32 (encodeR a).1, IN (encodeR a).2]) rfl rfl (WL.extract rfl rfl rfl (WL.extract rfl rfl rfl (WL.assign (v := U32 ((encodeR a).1)) rfl rfl (WL.assign (v := IN ((encodeR a).2)) rfl rfl (WL.nil (WC.seq (WC.region (WL.fieldAddr rfl fo48_0 rfl ?_))))))))
  have B3 := (n1.blk).ext (een)
  refine WL.load1 rfl ag5 (B3.cell (j := 0) rfl) rfl (WL.call ca48 (rfl) rfl (of_ok a.op _ (hG.ext (E2)) ho1 ho2) ?_)
  rintro _ wof ⟨iv, rfl, hIV, eof⟩
  have E4 : Ext w wof := Mod.trans (E2) (eof)
  refine WL.move (v := .tuple #[rowVal iv (rvAt a.op.toNat), .bool true]) rfl rfl (WL.extract rfl rfl rfl (WL.extract rfl rfl rfl (WL.allocStore (v := .agg #[.bool ((formOf (rvAt a.op.toNat).k).rd), .bool ((formOf (rvAt a.op.toNat).k).rs1), .bool ((formOf (rvAt a.op.toNat).k).rs2), iv, IN ((formOf (rvAt a.op.toNat).k).noughts), .bool ((formOf (rvAt a.op.toNat).k).signed), U32 ((formOf (rvAt a.op.toNat).k).mask), St (rvAt a.op.toNat).name, U32 ((rvAt a.op.toNat).mtch)]) zt118 rfl sz118 rfl rfl (ones_row hIV.one _ _ _ _ _ _ _ _) rfl ?_)))
  intro b6 w6 n6
  have E5 : Ext w w6 := Mod.trans (E4) (n6.ext)
  refine WL.assign (v := .bool (true)) rfl rfl (WL.nil (WC.seq (WC.seq (WC.region (WL.move (v := IN ((encodeR a).2)) rfl rfl (WL.bin rfl rfl rfl (BinR.neq) (WL.move (v := .bool (((((encodeR a).2 : Nat) : Int) != (0 : Int)))) rfl rfl ?_)))))))
  rcases Bool.eq_false_or_eq_true (((((encodeR a).2 : Nat) : Int) != (0 : Int))) with hg21 | hg21
  · refine WL.guardF (b' := true) (yf_bool rfl rfl hg21) rfl rfl (WL.guardF (b' := true) (yf_bool rfl rfl hg21) rfl rfl (WL.guardF (b' := true) (yf_bool rfl rfl hg21) rfl rfl (WL.guardF (b' := true) (yf_bool rfl rfl hg21) rfl rfl (WL.pick (b := true) (congrArg Value.bool hg21) rfl rfl (WL.move (v := .bool (true)) rfl rfl (WL.guardF (b' := true) (rfl) rfl rfl (WL.guardF (b' := true) (rfl) rfl rfl (WL.guardF (b' := true) (rfl) rfl rfl (WL.pick (b := true) rfl rfl rfl ?_)))))))))
    refine WL.nil (WC.condT rfl (WC.seq (WC.region (WL.assign (v := U8 (0#8)) rfl rfl (WL.assign (v := .bool (false)) rfl rfl (WL.nil (WC.ret ?_)))))))
    have hfin : (.tuple #[U8 (0#8), .bool (false)] : Value) = (if writesF a then .tuple #[U8 a.rd, .bool true] else .tuple #[.int .u8 0, .bool false]) := by simp only [writesF, *, Bool.true_or, Bool.or_true, Bool.false_or, Bool.or_false, Bool.true_and, Bool.and_true, Bool.false_and, Bool.and_false, Bool.not_true, Bool.not_false, if_true, if_false, Bool.false_eq_true]; first | done | rfl
    exact ⟨_, Res.two (v := U8 (0#8)) (v' := .bool (false)) rfl rfl rfl, hfin, E5⟩
  · refine WL.guardT (yf_bool rfl rfl hg21) (WL.fieldAddr rfl fo118_0 rfl (WL.guardT (yf_bool rfl rfl hg21) (WL.fieldAddr rfl fo116_0 rfl (WL.guardT (yf_bool rfl rfl hg21) (WL.load1 rfl ag4 (n6.blk.cell (j := 0) rfl) rfl (WL.guardT (yf_bool rfl rfl hg21) (WL.un rfl rfl UnR.not (WL.pick (b := false) (congrArg Value.bool hg21) rfl rfl (WL.move (v := .bool (!((formOf (rvAt a.op.toNat).k).rd))) rfl rfl ?_)))))))))
    rcases Bool.eq_false_or_eq_true (!((formOf (rvAt a.op.toNat).k).rd)) with hg27 | hg27
    · have q27 : (formOf (rvAt a.op.toNat).k).rd = false := by simpa using hg27
      refine WL.guardF (b' := true) (yf_bool rfl rfl hg27) rfl rfl (WL.guardF (b' := true) (yf_bool rfl rfl hg27) rfl rfl (WL.guardF (b' := true) (yf_bool rfl rfl hg27) rfl rfl (WL.pick (b := true) (congrArg Value.bool hg27) rfl rfl (WL.nil (WC.condT rfl (WC.seq (WC.region (WL.assign (v := U8 (0#8)) rfl rfl (WL.assign (v := .bool (false)) rfl rfl ?_)))))))))
      refine WL.nil (WC.ret ?_)
      have hfin : (.tuple #[U8 (0#8), .bool (false)] : Value) = (if writesF a then .tuple #[U8 a.rd, .bool true] else .tuple #[.int .u8 0, .bool false]) := by simp only [writesF, *, Bool.true_or, Bool.or_true, Bool.false_or, Bool.or_false, Bool.true_and, Bool.and_true, Bool.false_and, Bool.and_false, Bool.not_true, Bool.not_false, if_true, if_false, Bool.false_eq_true]; first | done | rfl
      exact ⟨_, Res.two (v := U8 (0#8)) (v' := .bool (false)) rfl rfl rfl, hfin, E5⟩
    · have q27 : (formOf (rvAt a.op.toNat).k).rd = true := by simpa using hg27
      refine WL.guardT (yf_bool rfl rfl hg27) (WL.fieldAddr rfl fo48_1 rfl (WL.guardT (yf_bool rfl rfl hg27) ?_))
      have B6 := ((B3).ext (eof)).ext (n6.ext)
      refine WL.load1 rfl ag5 (B6.cell (j := 1) rfl) rfl (WL.guardT (yf_bool rfl rfl hg27) (WL.bin rfl (vy := U8 (0#8)) rfl rfl (BinR.eqlU8) (WL.pick (b := false) (congrArg Value.bool hg27) rfl rfl (WL.nil ?_))))
      refine WC.cond rfl (fun hc31 => ?_) (fun hc31 => ?_)
      · refine WC.seq (WC.region (WL.assign (v := U8 (0#8)) rfl rfl (WL.assign (v := .bool (false)) rfl rfl (WL.nil (WC.ret ?_)))))
        have hfin : (.tuple #[U8 (0#8), .bool (false)] : Value) = (if writesF a then .tuple #[U8 a.rd, .bool true] else .tuple #[.int .u8 0, .bool false]) := by simp only [writesF, *, Bool.true_or, Bool.or_true, Bool.false_or, Bool.or_false, Bool.true_and, Bool.and_true, Bool.false_and, Bool.and_false, Bool.not_true, Bool.not_false, if_true, if_false, Bool.false_eq_true]; first | done | rfl
        exact ⟨_, Res.two (v := U8 (0#8)) (v' := .bool (false)) rfl rfl rfl, hfin, E5⟩
      · refine WC.skip (WC.seq (WC.region (WL.fieldAddr rfl fo48_1 rfl (WL.load1 rfl ag5 (B6.cell (j := 1) rfl) rfl (WL.assign (v := U8 (a.rd)) rfl rfl (WL.assign (v := .bool (true)) rfl rfl (WL.nil (WC.ret ?_))))))))
        have hfin : (.tuple #[U8 (a.rd), .bool (true)] : Value) = (if writesF a then .tuple #[U8 a.rd, .bool true] else .tuple #[.int .u8 0, .bool false]) := by simp only [writesF, *, Bool.true_or, Bool.or_true, Bool.false_or, Bool.or_false, Bool.true_and, Bool.and_true, Bool.false_and, Bool.and_false, Bool.not_true, Bool.not_false, if_true, if_false, Bool.false_eq_true]; first | done | rfl
        exact ⟨_, Res.two (v := U8 (a.rd)) (v' := .bool (true)) rfl rfl rfl, hfin, E5⟩
end Go.Proofs.S
end
section
set_option linter.unusedSimpArgs false
set_option linter.unusedVariables false
namespace Go.Proofs.S
open Go Go.Ux Go.Ux.Mach Go.Proofs
theorem ca34 : callable Tryz.prog 34 = true := by kernel_rfl
theorem ca71 : callable Tryz.prog 71 = true := by kernel_rfl
open Go.Proofs.M (instV Glob)
def codeFrom : Nat → Code → Code
  | k + 1, .seq _ b => codeFrom k b
  | 0, c => c
  | _, c => c
noncomputable def tail36 : Code := match Tryz.f36.body with
  | some c => codeFrom 5 c
  | none => .skip
set_option maxRecDepth 100000 in
theorem tail_trap (T : Nat → Nat) (b b3 : Nat) (M : MS) (a : RvInst) (v nx : BitVec 64) (errv : Value) (o : Option Bool) (S : Value → World → Prop) (f : Fr) (w : World) (hM : MR T w b M) (f0 : f 0 = ptr b 0) (f3 : f 3 = ptr b3 0) (f7 : f 7 = U64 v) (f8 : f 8 = U64 nx) (f9 : f 9 = errv) (h3 : Blk w b3 #[U8 (a.op), U8 (a.rd), U8 (a.rs1), U8 (a.rs2), I64 (a.imm)] 48) (t3 : T b3 = 0) (hE : EndV w errv o) (hG : Glob w) (hX : w.cell? ⟨3, 0, none⟩ = some (.iface 206 (.agg #[.pointer (some ⟨6, 83, none⟩)]))) (ho : (o == some true) = true) (hS : ∀ w', Ext w w' → S errv w') : WC Tryz.prog tail36 112 f w (Ux.Fin Tryz.prog Tryz.f36 112 S) := by
  obtain ⟨bq, sd, ss, cv, iv, ev, en, hb, ht⟩ := hM
  have nb3 : b3 ≠ b := by intro e; rw [e, ht.tb] at t3; cases t3
  refine WC.seq (WC.seq (WC.region (WL.move (v := errv) f9 rfl (WL.call ca34 (rfl) rfl (trapped_spec errv o _ hX hE) ?_))))
  rintro _ wt ⟨rfl, et⟩
  rw [ho]
  have E1 : Ext w wt := Mod.trans (Mod.refl _ _) (et)
  refine WL.nil (WC.condT rfl (WC.seq (WC.region (WL.move (v := errv) f9 rfl (WL.assign (v := errv) rfl rfl (WL.nil (WC.ret ?_)))))))
  exact ⟨_, Res.one (v := errv) rfl rfl, hS _ (E1)⟩
def putM (M : MS) (a : RvInst) (v nx : BitVec 64) : MS := { M with x := (if writesF a && a.op != 63#8 then updR M.x (a.rd).toNat v else M.x), pc := nx }
set_option maxRecDepth 100000 in
theorem tail_w (T : Nat → Nat) (b b3 : Nat) (M : MS) (a : RvInst) (v nx : BitVec 64) (errv : Value) (o : Option Bool) (S : Value → World → Prop) (f : Fr) (w : World) (hM : MR T w b M) (f0 : f 0 = ptr b 0) (f3 : f 3 = ptr b3 0) (f7 : f 7 = U64 v) (f8 : f 8 = U64 nx) (f9 : f 9 = errv) (h3 : Blk w b3 #[U8 (a.op), U8 (a.rd), U8 (a.rs1), U8 (a.rs2), I64 (a.imm)] 48) (t3 : T b3 = 0) (hE : EndV w errv o) (hG : Glob w) (hX : w.cell? ⟨3, 0, none⟩ = some (.iface 206 (.agg #[.pointer (some ⟨6, 83, none⟩)]))) (ho : (o == some true) = false) (hEt : ∀ e, errv = .iface 144 (ptr e 0) → T e = 0) (ho1 : 1 ≤ a.op.toNat) (ho2 : a.op.toNat < 66) (hrd : (a.rd).toNat < 32) (hw : writesF a = true) (h63 : (a.op != 63#8) = true) (hS : ∀ w', MR T w' b (putM M a v nx) → Mod (Fp T) w w' → EndV w' errv o → S errv w') : WC Tryz.prog tail36 112 f w (Ux.Fin Tryz.prog Tryz.f36 112 S) := by
  obtain ⟨bq, sd, ss, cv, iv, ev, en, hb, ht⟩ := hM
  have nb3 : b3 ≠ b := by intro e; rw [e, ht.tb] at t3; cases t3
  refine WC.seq (WC.seq (WC.region (WL.move (v := errv) f9 rfl (WL.call ca34 (rfl) rfl (trapped_spec errv o _ hX hE) ?_))))
  rintro _ wt ⟨rfl, et⟩
  rw [ho]
  have E1 : Mod (fun k => T k = 1) w wt := Mod.trans (Mod.refl _ _) (Mod.ext (et))
  refine WL.nil (WC.condF rfl (WC.skip (WC.seq (WC.seq (WC.region ?_)))))
  have B2 := (h3).ext (et)
  refine WL.loadS [U8 (a.op), U8 (a.rd), U8 (a.rs1), U8 (a.rs2), I64 (a.imm)] f3 ag48 sz48 rfl (B2.sub (o := 0) (vs := [U8 (a.op), U8 (a.rd), U8 (a.rs1), U8 (a.rs2), I64 (a.imm)]) rfl) rfl (WL.call ca71 (rfl) rfl (writes_spec a _ (hG.ext (et)) ho1 ho2) ?_)
  rintro v92 ww ⟨hv92, eww⟩
  rw [hw] at hv92
  obtain rfl : v92 = .tuple #[U8 a.rd, .bool true] := hv92
  have E3 : Mod (fun k => T k = 1) w ww := Mod.trans (E1) (Mod.ext (eww))
  refine WL.move (v := .tuple #[U8 a.rd, .bool true]) rfl rfl (WL.extract rfl rfl rfl (WL.extract rfl rfl rfl (WL.assign (v := U8 (a.rd)) rfl rfl (WL.assign (v := .bool (true)) rfl rfl (WL.nil (WC.seq (WC.region (WL.move (v := .bool (true)) rfl rfl (WL.move (v := .bool (true)) rfl rfl ?_)))))))))
  refine WL.guardT (rfl) (WL.fieldAddr f3 fo48_0 rfl (WL.guardT (rfl) ?_))
  have B4 := (B2).ext (eww)
  refine WL.load1 rfl ag5 (B4.cell (j := 0) rfl) rfl (WL.guardT (rfl) (WL.bin (v := .bool (true)) rfl (vy := U8 (63#8)) rfl rfl (BinR.toB (BinR.neqU8) (h63)) (WL.pick (b := true) rfl rfl rfl (WL.nil (WC.condT rfl (WC.region (WL.move (v := ptr b 0) f0 rfl (WL.move (v := U8 (a.rd)) rfl rfl (WL.move (v := U64 (v)) f7 rfl ?_)))))))))
  refine WL.nilCheck rfl rfl (WL.fieldAddr rfl fo85_3 rfl (WL.indexArr1 (i := (a.rd).toNat) ar68 sz39 rfl rfl hrd rfl ?_))
  have B5 := ((hb).ext (et)).ext (eww)
  refine WL.storeB (o := 3 + (a.rd).toNat) (v := U64 v) rfl rfl rfl sz39 B5 (show 3 + (a.rd).toNat < 39 by omega) ?_
  intro wz mz bz zz
  rw [machCells_set _ _ _ _ _ _ _ _ hrd v] at bz
  have E6 : Mod (fun k => T k = 1) w wz := Mod.trans (E3) ((mz).imp (fun i _ e => by subst e; exact ht.tb))
  refine WL.nil (WC.seq (WC.region (WL.move (v := ptr b 0) f0 rfl (WL.move (v := U64 (nx)) f8 rfl (WL.nilCheck rfl rfl (WL.fieldAddr rfl fo85_4 rfl (WL.storeB (v := U64 (nx)) rfl rfl rfl sz39 bz (Nat.le_of_ble_eq_true rfl) ?_)))))))
  intro ws7 ms7 bs7 zs7
  have E7 : Mod (fun k => T k = 1) w ws7 := Mod.trans (E6) ((ms7).imp (fun i _ e => by subst e; exact ht.tb))
  refine WL.nil (WC.seq (WC.region (WL.move (v := errv) f9 rfl (WL.assign (v := errv) rfl rfl (WL.nil (WC.ret ?_))))))
  have hp : putM M a v nx = { M with x := (updR M.x (a.rd).toNat v), pc := nx } := by simp only [putM, hw, h63, Bool.true_and, Bool.and_true, Bool.false_and, Bool.and_false, if_true, if_false, Bool.false_eq_true]
  have hfin : MR T ws7 b (putM M a v nx) := by rw [hp]; exact ⟨bq, sd, ss, cv, iv, ev, en, bs7, (ht.other (E7)).regs (updR M.x (a.rd).toNat v) nx M.steps⟩
  exact ⟨_, Res.one (v := errv) rfl rfl, hS _ hfin (Mod.fp (E7)) (hE.mod (E7) (fun e h k => by rw [hEt e h] at k; cases k))⟩
set_option maxRecDepth 100000 in
theorem tail_f (T : Nat → Nat) (b b3 : Nat) (M : MS) (a : RvInst) (v nx : BitVec 64) (errv : Value) (o : Option Bool) (S : Value → World → Prop) (f : Fr) (w : World) (hM : MR T w b M) (f0 : f 0 = ptr b 0) (f3 : f 3 = ptr b3 0) (f7 : f 7 = U64 v) (f8 : f 8 = U64 nx) (f9 : f 9 = errv) (h3 : Blk w b3 #[U8 (a.op), U8 (a.rd), U8 (a.rs1), U8 (a.rs2), I64 (a.imm)] 48) (t3 : T b3 = 0) (hE : EndV w errv o) (hG : Glob w) (hX : w.cell? ⟨3, 0, none⟩ = some (.iface 206 (.agg #[.pointer (some ⟨6, 83, none⟩)]))) (ho : (o == some true) = false) (hEt : ∀ e, errv = .iface 144 (ptr e 0) → T e = 0) (ho1 : 1 ≤ a.op.toNat) (ho2 : a.op.toNat < 66) (hrd : (a.rd).toNat < 32) (hw : writesF a = true) (h63 : (a.op != 63#8) = false) (hS : ∀ w', MR T w' b (putM M a v nx) → Mod (Fp T) w w' → EndV w' errv o → S errv w') : WC Tryz.prog tail36 112 f w (Ux.Fin Tryz.prog Tryz.f36 112 S) := by
  obtain ⟨bq, sd, ss, cv, iv, ev, en, hb, ht⟩ := hM
  have nb3 : b3 ≠ b := by intro e; rw [e, ht.tb] at t3; cases t3
  refine WC.seq (WC.seq (WC.region (WL.move (v := errv) f9 rfl (WL.call ca34 (rfl) rfl (trapped_spec errv o _ hX hE) ?_))))
  rintro _ wt ⟨rfl, et⟩
  rw [ho]
  have E1 : Mod (fun k => T k = 1) w wt := Mod.trans (Mod.refl _ _) (Mod.ext (et))
  refine WL.nil (WC.condF rfl (WC.skip (WC.seq (WC.seq (WC.region ?_)))))
  have B2 := (h3).ext (et)
  refine WL.loadS [U8 (a.op), U8 (a.rd), U8 (a.rs1), U8 (a.rs2), I64 (a.imm)] f3 ag48 sz48 rfl (B2.sub (o := 0) (vs := [U8 (a.op), U8 (a.rd), U8 (a.rs1), U8 (a.rs2), I64 (a.imm)]) rfl) rfl (WL.call ca71 (rfl) rfl (writes_spec a _ (hG.ext (et)) ho1 ho2) ?_)
  rintro v92 ww ⟨hv92, eww⟩
  rw [hw] at hv92
  obtain rfl : v92 = .tuple #[U8 a.rd, .bool true] := hv92
  have E3 : Mod (fun k => T k = 1) w ww := Mod.trans (E1) (Mod.ext (eww))
  refine WL.move (v := .tuple #[U8 a.rd, .bool true]) rfl rfl (WL.extract rfl rfl rfl (WL.extract rfl rfl rfl (WL.assign (v := U8 (a.rd)) rfl rfl (WL.assign (v := .bool (true)) rfl rfl (WL.nil (WC.seq (WC.region (WL.move (v := .bool (true)) rfl rfl (WL.move (v := .bool (true)) rfl rfl ?_)))))))))
  refine WL.guardT (rfl) (WL.fieldAddr f3 fo48_0 rfl (WL.guardT (rfl) ?_))
  have B4 := (B2).ext (eww)
  refine WL.load1 rfl ag5 (B4.cell (j := 0) rfl) rfl (WL.guardT (rfl) (WL.bin (v := .bool (false)) rfl (vy := U8 (63#8)) rfl rfl (BinR.toB (BinR.neqU8) (h63)) (WL.pick (b := true) rfl rfl rfl (WL.nil (WC.condF rfl (WC.skip (WC.seq (WC.region (WL.move (v := ptr b 0) f0 rfl ?_)))))))))
  refine WL.move (v := U64 (nx)) f8 rfl (WL.nilCheck rfl rfl (WL.fieldAddr rfl fo85_4 rfl ?_))
  have B5 := ((hb).ext (et)).ext (eww)
  refine WL.storeB (v := U64 (nx)) rfl rfl rfl sz39 B5 (Nat.le_of_ble_eq_true rfl) ?_
  intro ws6 ms6 bs6 zs6
  have E6 : Mod (fun k => T k = 1) w ws6 := Mod.trans (E3) ((ms6).imp (fun i _ e => by subst e; exact ht.tb))
  refine WL.nil (WC.seq (WC.region (WL.move (v := errv) f9 rfl (WL.assign (v := errv) rfl rfl (WL.nil (WC.ret ?_))))))
  have hp : putM M a v nx = { M with x := M.x, pc := nx } := by simp only [putM, hw, h63, Bool.true_and, Bool.and_true, Bool.false_and, Bool.and_false, if_true, if_false, Bool.false_eq_true]
  have hfin : MR T ws6 b (putM M a v nx) := by rw [hp]; exact ⟨bq, sd, ss, cv, iv, ev, en, bs6, (ht.other (E6)).regs M.x nx M.steps⟩
  exact ⟨_, Res.one (v := errv) rfl rfl, hS _ hfin (Mod.fp (E6)) (hE.mod (E6) (fun e h k => by rw [hEt e h] at k; cases k))⟩
set_option maxRecDepth 100000 in
theorem tail_n (T : Nat → Nat) (b b3 : Nat) (M : MS) (a : RvInst) (v nx : BitVec 64) (errv : Value) (o : Option Bool) (S : Value → World → Prop) (f : Fr) (w : World) (hM : MR T w b M) (f0 : f 0 = ptr b 0) (f3 : f 3 = ptr b3 0) (f7 : f 7 = U64 v) (f8 : f 8 = U64 nx) (f9 : f 9 = errv) (h3 : Blk w b3 #[U8 (a.op), U8 (a.rd), U8 (a.rs1), U8 (a.rs2), I64 (a.imm)] 48) (t3 : T b3 = 0) (hE : EndV w errv o) (hG : Glob w) (hX : w.cell? ⟨3, 0, none⟩ = some (.iface 206 (.agg #[.pointer (some ⟨6, 83, none⟩)]))) (ho : (o == some true) = false) (hEt : ∀ e, errv = .iface 144 (ptr e 0) → T e = 0) (ho1 : 1 ≤ a.op.toNat) (ho2 : a.op.toNat < 66) (hrd : (a.rd).toNat < 32) (hw : writesF a = false) (hS : ∀ w', MR T w' b (putM M a v nx) → Mod (Fp T) w w' → EndV w' errv o → S errv w') : WC Tryz.prog tail36 112 f w (Ux.Fin Tryz.prog Tryz.f36 112 S) := by
  obtain ⟨bq, sd, ss, cv, iv, ev, en, hb, ht⟩ := hM
  have nb3 : b3 ≠ b := by intro e; rw [e, ht.tb] at t3; cases t3
  refine WC.seq (WC.seq (WC.region (WL.move (v := errv) f9 rfl (WL.call ca34 (rfl) rfl (trapped_spec errv o _ hX hE) ?_))))
  rintro _ wt ⟨rfl, et⟩
  rw [ho]
  have E1 : Mod (fun k => T k = 1) w wt := Mod.trans (Mod.refl _ _) (Mod.ext (et))
  refine WL.nil (WC.condF rfl (WC.skip (WC.seq (WC.seq (WC.region ?_)))))
  have B2 := (h3).ext (et)
  refine WL.loadS [U8 (a.op), U8 (a.rd), U8 (a.rs1), U8 (a.rs2), I64 (a.imm)] f3 ag48 sz48 rfl (B2.sub (o := 0) (vs := [U8 (a.op), U8 (a.rd), U8 (a.rs1), U8 (a.rs2), I64 (a.imm)]) rfl) rfl (WL.call ca71 (rfl) rfl (writes_spec a _ (hG.ext (et)) ho1 ho2) ?_)
  rintro v92 ww ⟨hv92, eww⟩
  rw [hw] at hv92
  obtain rfl : v92 = .tuple #[.int .u8 0, .bool false] := hv92
  have E3 : Mod (fun k => T k = 1) w ww := Mod.trans (E1) (Mod.ext (eww))
  refine WL.move (v := .tuple #[.int .u8 0, .bool false]) rfl rfl (WL.extract rfl rfl rfl (WL.extract rfl rfl rfl (WL.assign (v := .int .u8 (0)) rfl rfl (WL.assign (v := .bool (false)) rfl rfl (WL.nil (WC.seq (WC.region (WL.move (v := .bool (false)) rfl rfl (WL.move (v := .bool (false)) rfl rfl ?_)))))))))
  refine WL.guardF (b' := false) (rfl) rfl rfl (WL.guardF (b' := false) (rfl) rfl rfl (WL.guardF (b' := false) (rfl) rfl rfl (WL.pick (b := false) rfl rfl rfl (WL.nil (WC.condF rfl (WC.skip (WC.seq (WC.region (WL.move (v := ptr b 0) f0 rfl ?_)))))))))
  refine WL.move (v := U64 (nx)) f8 rfl (WL.nilCheck rfl rfl (WL.fieldAddr rfl fo85_4 rfl ?_))
  have B4 := ((hb).ext (et)).ext (eww)
  refine WL.storeB (v := U64 (nx)) rfl rfl rfl sz39 B4 (Nat.le_of_ble_eq_true rfl) ?_
  intro ws5 ms5 bs5 zs5
  have E5 : Mod (fun k => T k = 1) w ws5 := Mod.trans (E3) ((ms5).imp (fun i _ e => by subst e; exact ht.tb))
  refine WL.nil (WC.seq (WC.region (WL.move (v := errv) f9 rfl (WL.assign (v := errv) rfl rfl (WL.nil (WC.ret ?_))))))
  have hp : putM M a v nx = { M with x := M.x, pc := nx } := by simp only [putM, hw, Bool.true_and, Bool.and_true, Bool.false_and, Bool.and_false, if_true, if_false, Bool.false_eq_true]
  have hfin : MR T ws5 b (putM M a v nx) := by rw [hp]; exact ⟨bq, sd, ss, cv, iv, ev, en, bs5, (ht.other (E5)).regs M.x nx M.steps⟩
  exact ⟨_, Res.one (v := errv) rfl rfl, hS _ hfin (Mod.fp (E5)) (hE.mod (E5) (fun e h k => by rw [hEt e h] at k; cases k))⟩
theorem tail_go (T : Nat → Nat) (b b3 : Nat) (M : MS) (a : RvInst) (v nx : BitVec 64) (errv : Value) (o : Option Bool) (S : Value → World → Prop) (f : Fr) (w : World) (hM : MR T w b M) (f0 : f 0 = ptr b 0) (f3 : f 3 = ptr b3 0) (f7 : f 7 = U64 v) (f8 : f 8 = U64 nx) (f9 : f 9 = errv) (h3 : Blk w b3 #[U8 (a.op), U8 (a.rd), U8 (a.rs1), U8 (a.rs2), I64 (a.imm)] 48) (t3 : T b3 = 0) (hE : EndV w errv o) (hG : Glob w) (hX : w.cell? ⟨3, 0, none⟩ = some (.iface 206 (.agg #[.pointer (some ⟨6, 83, none⟩)]))) (ho : (o == some true) = false) (hEt : ∀ e, errv = .iface 144 (ptr e 0) → T e = 0) (ho1 : 1 ≤ a.op.toNat) (ho2 : a.op.toNat < 66) (hrd : (a.rd).toNat < 32) (hS : ∀ w', MR T w' b (putM M a v nx) → Mod (Fp T) w w' → EndV w' errv o → S errv w') : WC Tryz.prog tail36 112 f w (Ux.Fin Tryz.prog Tryz.f36 112 S) := by
  rcases hw : writesF a with _ | _
  · exact tail_n T b b3 M a v nx errv o S f w hM f0 f3 f7 f8 f9 h3 t3 hE hG hX ho hEt ho1 ho2 hrd hw hS
  · rcases h63 : (a.op != 63#8) with _ | _
    · exact tail_f T b b3 M a v nx errv o S f w hM f0 f3 f7 f8 f9 h3 t3 hE hG hX ho hEt ho1 ho2 hrd hw h63 hS
    · exact tail_w T b b3 M a v nx errv o S f w hM f0 f3 f7 f8 f9 h3 t3 hE hG hX ho hEt ho1 ho2 hrd hw h63 hS
end Go.Proofs.S
end
section
namespace Go.Proofs.S
open Go Go.Ux Go.Ux.Mach Go.RowKit Go.Shelf Go.Proofs
attribute [local go_sem] Oper.semAt_some
def loadV (d s : Nat → BitVec 8) (k : Bool) (off size : Nat) (signs : Bool) : BitVec 64 :=
  if signs then signW (loadB (if k then d else s) off size) (8 * size) else loadB (if k then d else s) off size
def LoadR (w : World) (d s : Nat → BitVec 8) (n : Nat) (addr : BitVec 64) (size : Nat) (signs : Bool) (v : Value) (w' : World) : Prop :=
  match whereM n addr size with
  | none => ∃ e, v = .tuple #[.int .u64 0, .iface 144 (ptr e 0)] ∧ Blk w' e #[.bool true] 148 ∧ w.heap.size ≤ e
  | some (k, off) => v = .tuple #[U64 (loadV d s k off size signs), .nilIface]
theorem nil45 (w : World) : (binOp .eql 45 (.slice none 0 0) (.slice none 0 0)).run Tryz.prog w = .ok (.bool true) w := by kernel_rfl
theorem non45 (a : Addr) (n c : Nat) (w : World) : (binOp .eql 45 (.slice (some a) n c) (.slice none 0 0)).run Tryz.prog w = .ok (.bool false) w := by
  have e : (Op.equal 45 (.slice (some a) n c) (.slice none 0 0)).run Tryz.prog w = .ok false w := equalIn_sl 9999 Tryz.underlying45 w
  simp only [binOp, Sem.run_bind, Sem.run_pure, Result.andThen]; simp [e]
def valB (pre : List (Int × BitVec 8)) : BitVec 64 := pre.foldl (fun v x => (v <<< 8) ||| x.2.setWidth 64) 0#64
theorem valB_snoc (pre : List (Int × BitVec 8)) (x : Int × BitVec 8) : valB (pre ++ [x]) = (valB pre <<< 8) ||| x.2.setWidth 64 := by simp [valB]
theorem valB_back (f : Nat → BitVec 8) (o size : Nat) : ∀ k, valB (backB (fun j => f (o + j)) size k) = loadR f o size k
  | 0 => rfl
  | k + 1 => by
    have e : backB (fun j => f (o + j)) size (k + 1) = backB (fun j => f (o + j)) size k ++ [((size : Int) - 1 - (k : Int), f (o + (size - 1 - k)))] := upto_succ _ k
    rw [e, valB_snoc, valB_back f o size k]; rfl
theorem step8 (x : BitVec 64) (c : BitVec 8) : Value.int .u64 (Go.bits .or .u64 (IntKind.u64.wrap ((x.toNat : Int) * 256)) (c.toNat : Int)) = U64 ((x <<< 8) ||| c.setWidth 64) := by
  have h1 : IntKind.u64.wrap ((x.toNat : Int) * 256) = ((x <<< 8).toNat : Int) := by
    rw [wrap_u64_bv]
    congr 1
    rw [BitVec.toNat_shiftLeft, BitVec.toNat_ofInt, Nat.shiftLeft_eq]
    omega
  have h2 : (c.toNat : Int) = ((c.setWidth 64).toNat : Int) := by
    rw [BitVec.toNat_setWidth]
    omega
  rw [h1, h2]
  have e : Go.bits .or .u64 ((x <<< 8).toNat : Int) ((c.setWidth 64).toNat : Int) = IntKind.u64.wrap (((x <<< 8) ||| c.setWidth 64).toNat : Int) := by
    unfold Go.bits; simp only [IntKind.bits, ofInt_toNat_id]; rfl
  rw [e, wrap_u64_bv, ofInt_toNat_id]
attribute [local go_sem] nil45 non45
set_option maxRecDepth 100000 in
set_option maxHeartbeats 4000000 in
theorem load_spec (b bq n : Nat) (sd ss : Value) (d s : Nat → BitVec 8) (addr : BitVec 64) (size : Nat) (signs : Bool) (w : World) (hM : w.cell? ⟨b, 0, none⟩ = some (.slice (some ⟨bq, 0, none⟩) 2 2)) (hB : Blk w bq #[U64 4194304#64, sd, U64 8323072#64, ss] 91) (hd : Ux.Own w 1 sd n (bsV d n)) (hs : Ux.Own w 1 ss 65536 (bsV s 65536)) (hn : n ≤ 140737488355328) (h0 : 0 < size) (h8 : size ≤ 8) :
    CallsR Tryz.prog 37 #[ptr b 0, U64 addr, IN size, .bool signs] w (fun v w' => LoadR w d s n addr size signs v w' ∧ Ext w w') := by
  have hat := at_spec bq sd ss n (bsV d n) (bsV s 65536) addr size w hB hd hs hn h0 h8
  refine (callsIn_wide (n := 5)).1 ?_
  refine callsIn_of_wp_marks Tryz.func37 rfl trivial ?_ rfl
  simp only [Tryz.ntmps37, List.size_toArray, List.length_cons, List.length_nil, Nat.reduceAdd, Nat.reduceSub, Array.replicate_succ, Array.replicate_zero, List.push_toArray, List.append_toArray, List.nil_append, List.cons_append]
  gi_wp2_with (refine ⟨trivial, ?_⟩; gi_at_call 72; refine (callsIn_wide.2 hat).mono ?_; rintro e w' ⟨v, rfl, (⟨hw, rfl⟩ | ⟨i, g, c, c', hi, hw, hg, rfl, hle⟩), hx⟩)
  · gi_wp2
    refine ⟨_, results_tmp2 rfl _ _ _, _, rfl, ?_, hx.trans (Mod.ext (alloc_ext w' _))⟩
    unfold LoadR; rw [hw]
    exact ⟨w'.heap.size, rfl, alloc_blk w' _ _, hx.size⟩
  · gi_wp2_with (refine ⟨trivial, ?_⟩; gi_at_call 73; refine (bytes_in Fence.wide _ trivial rfl _ _ _ _).mono ?_; rintro e w1 ⟨rfl, rfl⟩)
    obtain ⟨W0, hW0⟩ : ∃ W0, (w'.alloc (.cells #[.int .u64 0] 39)).alloc (.cells #[.slice (some ⟨g, addr.toNat - (aB i).toNat, none⟩) size c'] 45) = W0 := ⟨_, rfl⟩
    have hsz : W0.heap.size = w'.heap.size + 2 := by rw [← hW0]; simp
    have hx2 : Below w'.heap.size w' W0 := by rw [← hW0]; exact ((Below.refl _ w').alloc (Nat.le_refl _) _).alloc (by simp) _
    have hbs : W0.cell? ⟨w'.heap.size + 1, 0, none⟩ = some (.slice (some ⟨g, addr.toNat - (aB i).toNat, none⟩) size c') := by
      rw [← hW0]; have := (alloc_blk (w'.alloc (.cells #[.int .u64 0] 39)) #[.slice (some ⟨g, addr.toNat - (aB i).toNat, none⟩) size c'] 45).cell (j := 0) rfl; simpa using this
    have hbx : Blk W0 w'.heap.size #[.int .u64 0] 39 := by
      rw [← hW0]; exact (alloc_blk w' #[.int .u64 0] 39).ext (alloc_ext _ _)
    obtain ⟨gd, hz⟩ : ∃ z : Nat → BitVec 8, z = fun j => (if decide (i = 0) then d else s) (addr.toNat - (aB i).toNat + j) := ⟨_, rfl⟩
    have hxX : Ext w W0 := hx.trans (ext_of_below hx2)
    have hg0 : g < w.heap.size ∧ ∀ j, j < size → W0.cell? ⟨g, addr.toNat - (aB i).toNat + j, none⟩ = some (U8 (gd j)) := by
      have ho := area_own hd hs i
      obtain ⟨g', c'', hg', _, hcc⟩ := ho.at (by omega)
      rw [hg] at hg'; cases hg'
      have hcell : ∀ j, j < aN n i → w.cell? ⟨g, j, none⟩ = some (U8 ((if decide (i = 0) then d else s) j)) := fun j hj => by
        have := hcc j (U8 ((if decide (i = 0) then d else s) j)) (by
          unfold aX aN at *
          by_cases e : i = 0
          · simp only [e, if_true, decide_true] at hj ⊢; exact bsV_get d hj
          · simp only [e, if_false, decide_false] at hj ⊢; exact bsV_get s hj)
        rwa [Nat.zero_add] at this
      refine ⟨World.block_lt_of_cell? w _ (hcell (addr.toNat - (aB i).toNat) (by omega)), fun j hj => ?_⟩
      rw [hz]; exact hxX.cell (hcell _ (by omega)) (fun h => h)
    obtain ⟨hg1, hg2⟩ := hg0
    have hg3 := hx.size
    rw [hW0]
    have hval : valB (backB gd size size) = loadB (if decide (i = 0) then d else s) (addr.toNat - (aB i).toNat) size := by rw [hz]; exact valB_back _ _ _ _
    have hlT : ∀ W1, LoadR w d s n addr size true (.tuple #[U64 (signW (valB (backB gd size size)) (8 * size)), .nilIface]) W1 := fun W1 => by unfold LoadR; rw [hw, hval]; rfl
    have hlF : ∀ W1, LoadR w d s n addr size false (.tuple #[U64 (valB (backB gd size size)), .nilIface]) W1 := fun W1 => by unfold LoadR; rw [hw, hval]; rfl
    clear hz hW0 hval hw hxX
    refine wpIn_rangeFunc_ownF rfl (by omega) (gf := 97) (lb := #[.pointer (some ⟨w'.heap.size + 1, 0, none⟩)]) rfl trivial (enters_of Tryz.func97 (by kernel_rfl) rfl)
      (bytes_stops Fence.wide _ trivial rfl (by omega) (w'.heap.size + 1) g (addr.toNat - (aB i).toNat) size c' gd (by omega) W0 (by omega) (by omega) (Kp := KeepX w'.heap.size (w'.heap.size + 2)) (KeepX.refl _ _) (fun h k => h.trans k) (fun h hc => h.cell (by omega) (by omega) hc) (fun h hc => h.cell (by omega) (by omega) hc) hbs hg2)
      (fun h k => h.trans k) (KeepX.put (by omega)) (Below.refl _ _) (fun _ => rfl)
      (fun pre W => (W.cell? ⟨w'.heap.size, 0, none⟩ = some (U64 (valB pre)) ∧ W.frozen? ⟨w'.heap.size, 0, none⟩ = false) ∧ Below w'.heap.size w' W)
      (fun _ _ _ => False)
      (OwnFrom.and (Own.from (fun s A B row hs hg hr => ⟨cell_kept hs.1 hg hr, (frozen_kept hs.1 hg hr).trans hs.2⟩) _) (ownFrom_below (Nat.le_refl _) (by omega)))
      (fun _ _ _ _ _ hs _ _ => hs)
      ⟨⟨hbx.cell rfl, hbx.frozen 0⟩, hx2⟩
      (fun x => { tmps := #[ptr b 0, U64 addr, IN size, .bool signs, undef, undef, undef, undef, .int .u64 0, .nilIface, .slice (some ⟨g, addr.toNat - (aB i).toNat, none⟩) size c', .pointer (some ⟨w'.heap.size, 0, none⟩), undef, U8 x.2, ptr b 0, .pointer (some ⟨b, 0, none⟩), .pointer (some ⟨b, 0, none⟩), .slice (some ⟨bq, 0, none⟩) 2 2, U64 addr, IN size, .slice (some ⟨g, addr.toNat - (aB i).toNat, none⟩) size c', .slice (some ⟨g, addr.toNat - (aB i).toNat, none⟩) size c', .bool false, undef, undef, undef, .slice (some ⟨g, addr.toNat - (aB i).toNat, none⟩) size c', .func (.func 97) #[] #[.pointer (some ⟨w'.heap.size + 1, 0, none⟩)], .int .i64 x.1, U8 x.2, undef, undef, undef, undef, undef, undef, undef, undef, undef, undef, undef], defers := [] }) ?assign ?body ?done ?stop
    case assign =>
      intro l x W K hK
      gi_wp2
      exact hK
    case body =>
      rintro l pre x W ⟨⟨hc, hf⟩, hB⟩ _
      gi_wp2
      exact ⟨KeepsOthers.setCell _ _ _, KeepX.set _ _ _ _, ⟨by rw [valB_snoc, ← step8]; exact World.cell?_setCell_same' _ _ _ (by rw [hc]; rfl), by rw [World.frozen?_setCell]; exact hf⟩, hB.setCell (p := ⟨w'.heap.size, 0, none⟩) (Nat.le_refl _) _⟩
    case done =>
      rintro D ys W hD rfl ⟨⟨hc, hf⟩, hB⟩ hK
      have hDl : D < W.heap.size := (Array.getElem?_eq_some_iff.1 hK).1
      have hs8 : 8 * size ≤ 64 := by omega
      gi_wp2_with (refine ⟨trivial, ?_⟩; gi_at_call 74; rw [show (8 * (size : Int)) = ((8 * size : Nat) : Int) by omega]; refine (callsIn_wide.2 (N.sign_spec _ _ _ hs8)).mono ?_; rintro e w2 ⟨v, rfl, rfl, hx3⟩; have hc2 := hx3.cell hc (fun h => h); have hf2 : w2.frozen? ⟨w'.heap.size, 0, none⟩ = false := (World.frozen?_of_block (a := ⟨w'.heap.size, 0, none⟩) (hx3.block w'.heap.size (World.block_lt_of_cell? W _ hc) (fun h => h))).trans hf)
      · have hk2 : (w2.setCell ⟨w'.heap.size, 0, none⟩ (U64 (signW (valB (backB gd size size)) (8 * size)))).heap[D]? = some (Obj.deferred (some [])) :=
          (Below.heap_setCell w2 ⟨w'.heap.size, 0, none⟩ _ D (by show D ≠ w'.heap.size; omega)).trans ((hx3.block D hDl (fun h => h)).trans hK)
        refine ⟨by simp, .inl ⟨_, _, rfl, run_takeDeferred hk2, ?_⟩⟩
        refine ⟨_, results_tmp2 rfl _ _ _, _, rfl, ?_, hx.trans (ext_of_below (((hB.trans (hx3.below.mono hB.size)).setCell (p := ⟨w'.heap.size, 0, none⟩) (Nat.le_refl _) _).trans (belowK_b (w := w') (Nat.le_refl _) _ D _ _ (by omega) hk2 rfl rfl)))⟩
        obtain rfl : signs = true := by assumption
        exact hlT _
      · refine ⟨by simp, .inl ⟨_, _, rfl, run_takeDeferred hK, ?_⟩⟩
        refine ⟨_, results_tmp2 rfl _ _ _, _, rfl, ?_, hx.trans (ext_of_below (hB.trans (belowK_b (w := w') (Nat.le_refl _) W D _ _ (by omega) hK rfl rfl)))⟩
        obtain rfl : signs = false := by assumption
        exact hlF _
    case stop =>
      rintro D c pre W _ _ h _
      exact h.elim
end Go.Proofs.S
end
section
set_option linter.unusedSimpArgs false
set_option linter.unusedVariables false
namespace Go.Proofs.S
open Go Go.Ux Go.Ux.Mach Go.Proofs
theorem ca53 : callable Tryz.prog 53 = true := by kernel_rfl
theorem ca68 : callable Tryz.prog 68 = true := by kernel_rfl
theorem ca37 : callable Tryz.prog 37 = true := by kernel_rfl
open Go.Proofs.M (instV Glob)
open Go.Proofs.N (doM loadsM do_spec loads_spec)
def doesM (M : MS) (a : RvInst) : MS × Option Bool :=
  let p := M.x a.rs1.toNat
  let q := M.x a.rs2.toNat
  let r := doM a.op.toNat a.imm M.pc p q
  let z := loadsM a.op.toNat
  if 0 < z.1 then match whereM M.n (p + a.imm) z.1 with
    | none => (M, some true)
    | some (k, off) => (putM M a (loadV M.d M.s k off z.1 z.2) r.2, none)
  else if 18 ≤ a.op.toNat ∧ a.op.toNat ≤ 21 then match whereM M.n (p + a.imm) (2 ^ (a.op.toNat - 18)) with
    | none => (M, some true)
    | some (k, off) => (putM (storeM M k off (2 ^ (a.op.toNat - 18)) q) a r.1 r.2, none)
  else if a.op.toNat = 64 then (if (callsM M).2 == some true then (callsM M).1 else putM (callsM M).1 a r.1 r.2, (callsM M).2)
  else (putM M a r.1 r.2, none)
theorem loadM_spec (T : Nat → Nat) (b : Nat) (M : MS) (addr : BitVec 64) (size : Nat) (signs : Bool) (w : World) (h : MR T w b M) (h0 : 0 < size) (h8 : size ≤ 8) : CallsR Tryz.prog 37 #[ptr b 0, U64 addr, IN size, .bool signs] w (fun v w' => LoadR w M.d M.s M.n addr size signs v w' ∧ Ext w w') := by
  obtain ⟨bq, sd, ss, cv, iv, ev, en, hb, ht⟩ := h
  exact load_spec b bq M.n sd ss M.d M.s addr size signs w (hb.cell (j := 0) rfl) ht.mem ht.data ht.stk ht.n_le h0 h8
theorem LoadR.no {w w' : World} {d s : Nat → BitVec 8} {n : Nat} {addr : BitVec 64} {size : Nat} {signs : Bool} {v : Value} (h : LoadR w d s n addr size signs v w') (e : whereM n addr size = none) : ∃ e, v = .tuple #[.int .u64 0, .iface 144 (ptr e 0)] ∧ Blk w' e #[.bool true] 148 ∧ w.heap.size ≤ e := by
  unfold LoadR at h; rw [e] at h; exact h
theorem LoadR.ok {w w' : World} {d s : Nat → BitVec 8} {n : Nat} {addr : BitVec 64} {size : Nat} {signs : Bool} {v : Value} {k : Bool} {off : Nat} (h : LoadR w d s n addr size signs v w') (e : whereM n addr size = some (k, off)) : v = .tuple #[U64 (loadV d s k off size signs), .nilIface] := by
  unfold LoadR at h; rw [e] at h; exact h
theorem turnE_same {T : Nat → Nat} {w w1 : World} {b : Nat} {M : MS} {v : Value} {o : Option Bool} (hM : MR T w b M) (e : Ext w w1) (hE : EndV w1 v o) (hf : ∀ e, v = .iface 144 (ptr e 0) → w.heap.size ≤ e) : TurnE T w b M w1 o v :=
  ⟨T, hM.ext e, Mod.ext e, fun _ h => .inl h, hE, fun k h => ⟨hf k h, by rcases Nat.eq_zero_or_pos (T k) with h' | h'; exact h'; have := (hM.lt k (by omega)).1; have := hf k h; omega⟩⟩
theorem TurnE.then {T : Nat → Nat} {w w1 w2 : World} {b : Nat} {M' : MS} {v : Value} {o : Option Bool} {T' : Nat → Nat} (h2 : MR T' w2 b M') (m1 : Mod (Fp T) w w1) (m2 : Mod (Fp T') w1 w2) (hs : ∀ k, T' k ≠ 0 → T k ≠ 0 ∨ w.heap.size ≤ k) (hE : EndV w2 v o) (hf : ∀ e, v = .iface 144 (ptr e 0) → w.heap.size ≤ e ∧ T' e = 0) : TurnE T w b M' w2 o v :=
  ⟨T', h2, m1.then m2 fun i hi e => by rcases hs i e with h | h; exact h; omega, hs, hE, hf⟩
set_option maxRecDepth 100000 in
theorem does_l0 (T : Nat → Nat) (b : Nat) (M : MS) (a : RvInst) (w : World) (hM : MR T w b M) (hG : Glob w) (hX : w.cell? ⟨3, 0, none⟩ = some (.iface 206 (.agg #[.pointer (some ⟨6, 83, none⟩)]))) (ho1 : 1 ≤ a.op.toNat) (ho2 : a.op.toNat < 66) (hr1 : (a.rs1).toNat < 32) (hr2 : (a.rs2).toNat < 32) (hrd : (a.rd).toNat < 32) (z : Nat) (sg : Bool) (hz : loadsM a.op.toNat = (z, sg)) (hz0 : 0 < z) (hz8 : z ≤ 8) (hw : whereM M.n (M.x (a.rs1).toNat + a.imm) z = none) : CallsR Tryz.prog 36 #[ptr b 0, .agg #[U8 (a.op), U8 (a.rd), U8 (a.rs1), U8 (a.rs2), I64 (a.imm)]] w (fun v w' => TurnE T w b (doesM M a).1 w' (doesM M a).2 v) := by
  have hM0 := hM
  obtain ⟨bq, sd, ss, cv, iv, ev, en, hb, ht⟩ := hM
  refine callsR_of Tryz.func36 rfl rfl rfl ?_
  refine WC.seq (WC.region (WL.box (v := .agg #[U8 (a.op), U8 (a.rd), U8 (a.rs1), U8 (a.rs2), I64 (a.imm)]) rfl rfl ?_))
  intro b3 w3 n3
  have E1 : Ext w w3 := Mod.trans (Mod.refl _ _) (n3.ext)
  refine WL.assign (v := .nilIface) rfl rfl (WL.nil (WC.seq (WC.draw (fun w_ => Ext w3 w_) 16 rfl mixed ?_)))
  intro wd_1 ed_1
  have R2 : Ext w3 wd_1 := Mod.trans (Mod.refl _ _) (ed_1)
  have E3 : Ext w wd_1 := Mod.trans (E1) (ed_1)
  refine WA.take (i := 0) (m' := 1) (v := ptr b 0) rfl rfl rfl rfl (by kernel_rfl) rfl (fun _ _ _ h => h) (fun wx hS => ?_) (R2) ?_
  · exact WL.move (v := ptr b 0) rfl rfl (WL.nil ⟨rfl, rfl, rfl⟩)
  refine WA.take (i := 1) (m' := 3) (v := ptr b3 2) rfl rfl rfl rfl (by kernel_rfl) rfl (fun _ _ _ h => h) (fun wx hS => ?_) (R2) ?_
  · exact WL.fieldAddr rfl fo48_2 rfl (WL.nil ⟨rfl, rfl, rfl⟩)
  refine WA.take (i := 2) (m' := 7) (v := U8 (a.rs1)) rfl rfl rfl rfl (by kernel_rfl) rfl (fun _ _ _ h => h) (fun wx hS => ?_) (R2) ?_
  · have B7 := (n3.blk).ext (hS)
    exact WL.load1 rfl ag5 (B7.cell (j := 2) rfl) rfl (WL.nil ⟨rfl, rfl, rfl⟩)
  refine WA.takeN (i := 3) (m' := 15) (v := ptr b 0) rfl rfl rfl rfl (by kernel_rfl) rfl (fun _ _ _ h => h) (fun wx hS => ?_) (R2) ?_
  · exact WL.nilCheck rfl rfl (WL.nil ⟨rfl, rfl, rfl⟩)
  refine WA.take (i := 4) (m' := 31) (v := ptr b 3) rfl rfl rfl rfl (by kernel_rfl) rfl (fun _ _ _ h => h) (fun wx hS => ?_) (R2) ?_
  · exact WL.fieldAddr rfl fo85_3 rfl (WL.nil ⟨rfl, rfl, rfl⟩)
  refine WA.take (i := 5) (m' := 63) (v := ptr b (3 + (a.rs1).toNat)) rfl rfl rfl rfl (by kernel_rfl) rfl (fun _ _ _ h => h) (fun wx hS => ?_) (R2) ?_
  · exact WL.indexArr1 (i := (a.rs1).toNat) ar68 sz39 rfl rfl hr1 rfl (WL.nil ⟨rfl, rfl, rfl⟩)
  refine WA.take (i := 6) (m' := 127) (v := U64 (M.x (a.rs1).toNat)) rfl rfl rfl rfl (by kernel_rfl) rfl (fun _ _ _ h => h) (fun wx hS => ?_) (R2) ?_
  · have B12 := ((hb).ext (n3.ext)).ext (hS)
    exact WL.load1 rfl ag39 (B12.cell (machCells_x _ _ _ _ _ _ _ _ hr1)) rfl (WL.nil ⟨rfl, rfl, rfl⟩)
  refine WA.take (i := 7) (m' := 255) (v := ptr b 0) rfl rfl rfl rfl (by kernel_rfl) rfl (fun _ _ _ h => h) (fun wx hS => ?_) (R2) ?_
  · exact WL.move (v := ptr b 0) rfl rfl (WL.nil ⟨rfl, rfl, rfl⟩)
  refine WA.take (i := 8) (m' := 511) (v := ptr b3 3) rfl rfl rfl rfl (by kernel_rfl) rfl (fun _ _ _ h => h) (fun wx hS => ?_) (R2) ?_
  · exact WL.fieldAddr rfl fo48_3 rfl (WL.nil ⟨rfl, rfl, rfl⟩)
  refine WA.take (i := 9) (m' := 1023) (v := U8 (a.rs2)) rfl rfl rfl rfl (by kernel_rfl) rfl (fun _ _ _ h => h) (fun wx hS => ?_) (R2) ?_
  · have B16 := (n3.blk).ext (hS)
    exact WL.load1 rfl ag5 (B16.cell (j := 3) rfl) rfl (WL.nil ⟨rfl, rfl, rfl⟩)
  refine WA.takeN (i := 10) (m' := 2047) (v := ptr b 0) rfl rfl rfl rfl (by kernel_rfl) rfl (fun _ _ _ h => h) (fun wx hS => ?_) (R2) ?_
  · exact WL.nilCheck rfl rfl (WL.nil ⟨rfl, rfl, rfl⟩)
  refine WA.take (i := 11) (m' := 4095) (v := ptr b 3) rfl rfl rfl rfl (by kernel_rfl) rfl (fun _ _ _ h => h) (fun wx hS => ?_) (R2) ?_
  · exact WL.fieldAddr rfl fo85_3 rfl (WL.nil ⟨rfl, rfl, rfl⟩)
  refine WA.take (i := 12) (m' := 8191) (v := ptr b (3 + (a.rs2).toNat)) rfl rfl rfl rfl (by kernel_rfl) rfl (fun _ _ _ h => h) (fun wx hS => ?_) (R2) ?_
  · exact WL.indexArr1 (i := (a.rs2).toNat) ar68 sz39 rfl rfl hr2 rfl (WL.nil ⟨rfl, rfl, rfl⟩)
  refine WA.take (i := 13) (m' := 16383) (v := U64 (M.x (a.rs2).toNat)) rfl rfl rfl rfl (by kernel_rfl) rfl (fun _ _ _ h => h) (fun wx hS => ?_) (R2) ?_
  · have B21 := ((hb).ext (n3.ext)).ext (hS)
    exact WL.load1 rfl ag39 (B21.cell (machCells_x _ _ _ _ _ _ _ _ hr2)) rfl (WL.nil ⟨rfl, rfl, rfl⟩)
  refine WA.take (i := 14) (m' := 32767) (v := U64 (M.x (a.rs1).toNat)) rfl rfl rfl rfl (by kernel_rfl) rfl (fun _ _ _ h => h) (fun wx hS => ?_) (R2) ?_
  · exact WL.assign (v := U64 (M.x (a.rs1).toNat)) rfl rfl (WL.nil ⟨rfl, rfl, rfl⟩)
  refine WA.take (i := 15) (m' := 65535) (v := U64 (M.x (a.rs2).toNat)) rfl rfl rfl rfl (by kernel_rfl) rfl (fun _ _ _ h => h) (fun wx hS => ?_) (R2) ?_
  · exact WL.assign (v := U64 (M.x (a.rs2).toNat)) rfl rfl (WL.nil ⟨rfl, rfl, rfl⟩)
  refine WA.done (by kernel_rfl) ?_
  refine WC.seq (WC.draw (fun w_ => Ext wd_1 w_) 13 rfl mixed ?_)
  intro wd_2 ed_2
  have R24 : Ext wd_1 wd_2 := Mod.trans (Mod.refl _ _) (ed_2)
  have E25 : Ext w wd_2 := Mod.trans (E3) (ed_2)
  refine WA.take (i := 0) (m' := 1) (v := .agg #[U8 (a.op), U8 (a.rd), U8 (a.rs1), U8 (a.rs2), I64 (a.imm)]) rfl rfl rfl rfl (by kernel_rfl) rfl (fun _ _ _ h => h) (fun wx hS => ?_) (R24) ?_
  · have B27 := ((n3.blk).ext (ed_1)).ext (hS)
    exact WL.loadS [U8 (a.op), U8 (a.rd), U8 (a.rs1), U8 (a.rs2), I64 (a.imm)] rfl ag48 sz48 rfl (B27.sub (o := 0) (vs := [U8 (a.op), U8 (a.rd), U8 (a.rs1), U8 (a.rs2), I64 (a.imm)]) rfl) rfl (WL.nil ⟨rfl, rfl, rfl⟩)
  refine WA.take (i := 1) (m' := 3) (v := ptr b 0) rfl rfl rfl rfl (by kernel_rfl) rfl (fun _ _ _ h => h) (fun wx hS => ?_) (R24) ?_
  · exact WL.move (v := ptr b 0) rfl rfl (WL.nil ⟨rfl, rfl, rfl⟩)
  refine WA.takeN (i := 2) (m' := 7) (v := ptr b 0) rfl rfl rfl rfl (by kernel_rfl) rfl (fun _ _ _ h => h) (fun wx hS => ?_) (R24) ?_
  · exact WL.nilCheck rfl rfl (WL.nil ⟨rfl, rfl, rfl⟩)
  refine WA.take (i := 3) (m' := 15) (v := ptr b 35) rfl rfl rfl rfl (by kernel_rfl) rfl (fun _ _ _ h => h) (fun wx hS => ?_) (R24) ?_
  · exact WL.fieldAddr rfl fo85_4 rfl (WL.nil ⟨rfl, rfl, rfl⟩)
  refine WA.take (i := 4) (m' := 31) (v := U64 (M.pc)) rfl rfl rfl rfl (by kernel_rfl) rfl (fun _ _ _ h => h) (fun wx hS => ?_) (R24) ?_
  · have B32 := (((hb).ext (n3.ext)).ext (ed_1)).ext (hS)
    exact WL.load1 rfl ag39 (B32.cell (j := 35) rfl) rfl (WL.nil ⟨rfl, rfl, rfl⟩)
  refine WA.take (i := 5) (m' := 63) (v := U64 (M.x (a.rs1).toNat)) rfl rfl rfl rfl (by kernel_rfl) rfl (fun _ _ _ h => h) (fun wx hS => ?_) (R24) ?_
  · exact WL.move (v := U64 (M.x (a.rs1).toNat)) rfl rfl (WL.nil ⟨rfl, rfl, rfl⟩)
  refine WA.take (i := 6) (m' := 127) (v := U64 (M.x (a.rs2).toNat)) rfl rfl rfl rfl (by kernel_rfl) rfl (fun _ _ _ h => h) (fun wx hS => ?_) (R24) ?_
  · exact WL.move (v := U64 (M.x (a.rs2).toNat)) rfl rfl (WL.nil ⟨rfl, rfl, rfl⟩)
  refine WA.one (i := 7) (m' := 255) (by kernel_rfl) rfl rfl ?_
  refine WL.call ca53 (rfl) rfl (do_spec a.op a.rd a.rs1 a.rs2 a.imm M.pc (M.x (a.rs1).toNat) (M.x (a.rs2).toNat) _ ho1 ho2) ?_
  rintro _ wdo ⟨rfl, edo⟩
  have R35 : Ext wd_1 wdo := Mod.trans (R24) (edo)
  have E36 : Ext w wdo := Mod.trans (E25) (edo)
  refine WL.behind (R35) ?_
  refine WA.take (i := 8) (m' := 511) (v := .tuple #[U64 (doM (a.op).toNat a.imm M.pc (M.x (a.rs1).toNat) (M.x (a.rs2).toNat)).1, U64 (doM (a.op).toNat a.imm M.pc (M.x (a.rs1).toNat) (M.x (a.rs2).toNat)).2]) rfl rfl rfl rfl (by kernel_rfl) rfl (fun _ _ _ h => h) (fun wx hS => ?_) (R35) ?_
  · exact WL.move (v := .tuple #[U64 (doM (a.op).toNat a.imm M.pc (M.x (a.rs1).toNat) (M.x (a.rs2).toNat)).1, U64 (doM (a.op).toNat a.imm M.pc (M.x (a.rs1).toNat) (M.x (a.rs2).toNat)).2]) rfl rfl (WL.nil ⟨rfl, rfl, rfl⟩)
  refine WA.take (i := 9) (m' := 1023) (v := U64 ((doM (a.op).toNat a.imm M.pc (M.x (a.rs1).toNat) (M.x (a.rs2).toNat)).1)) rfl rfl rfl rfl (by kernel_rfl) rfl (fun _ _ _ h => h) (fun wx hS => ?_) (R35) ?_
  · exact WL.extract rfl rfl rfl (WL.nil ⟨rfl, rfl, rfl⟩)
  refine WA.take (i := 10) (m' := 2047) (v := U64 ((doM (a.op).toNat a.imm M.pc (M.x (a.rs1).toNat) (M.x (a.rs2).toNat)).2)) rfl rfl rfl rfl (by kernel_rfl) rfl (fun _ _ _ h => h) (fun wx hS => ?_) (R35) ?_
  · exact WL.extract rfl rfl rfl (WL.nil ⟨rfl, rfl, rfl⟩)
  refine WA.take (i := 11) (m' := 4095) (v := U64 ((doM (a.op).toNat a.imm M.pc (M.x (a.rs1).toNat) (M.x (a.rs2).toNat)).1)) rfl rfl rfl rfl (by kernel_rfl) rfl (fun _ _ _ h => h) (fun wx hS => ?_) (R35) ?_
  · exact WL.assign (v := U64 ((doM (a.op).toNat a.imm M.pc (M.x (a.rs1).toNat) (M.x (a.rs2).toNat)).1)) rfl rfl (WL.nil ⟨rfl, rfl, rfl⟩)
  refine WA.take (i := 12) (m' := 8191) (v := U64 ((doM (a.op).toNat a.imm M.pc (M.x (a.rs1).toNat) (M.x (a.rs2).toNat)).2)) rfl rfl rfl rfl (by kernel_rfl) rfl (fun _ _ _ h => h) (fun wx hS => ?_) (R35) ?_
  · exact WL.assign (v := U64 ((doM (a.op).toNat a.imm M.pc (M.x (a.rs1).toNat) (M.x (a.rs2).toNat)).2)) rfl rfl (WL.nil ⟨rfl, rfl, rfl⟩)
  refine WA.done (by kernel_rfl) ?_
  refine WC.seq (WC.region (WL.assign (v := .nilIface) rfl rfl (WL.nil (WC.seq (WC.seq (WC.region (WL.fieldAddr rfl fo48_0 rfl ?_)))))))
  have B42 := (((n3.blk).ext (ed_1)).ext (ed_2)).ext (edo)
  refine WL.load1 rfl ag5 (B42.cell (j := 0) rfl) rfl (WL.call ca68 (rfl) rfl (loads_spec a.op _ ho1 ho2) ?_)
  rintro v42 wlo ⟨hv42, elo⟩
  rw [hz] at hv42
  obtain rfl : v42 = .tuple #[IN z, .bool sg] := hv42
  have E43 : Ext w wlo := Mod.trans (E36) (elo)
  refine WL.move (v := .tuple #[IN z, .bool sg]) rfl rfl (WL.extract rfl rfl rfl (WL.extract rfl rfl rfl (WL.assign (v := IN (z)) rfl rfl (WL.assign (v := .bool (sg)) rfl rfl (WL.nil (WC.block (WC.seq (WC.region (WL.move (v := IN (z)) rfl rfl ?_)))))))))
  refine WL.bin rfl rfl rfl (BinR.gtr) (WL.assign (v := .bool (decide ((0 : Int) < ((z : Nat) : Int)))) rfl rfl (WL.nil (WC.condT (congrArg Value.bool (decide_eq_true (by omega))) (WC.region (WL.move (v := ptr b 0) rfl rfl (WL.move (v := U64 (M.x (a.rs1).toNat)) rfl rfl (WL.fieldAddr rfl fo48_4 rfl ?_)))))))
  have B44 := (B42).ext (elo)
  refine WL.load1 rfl ag2 (B44.cell (j := 4) rfl) rfl (WL.conv rfl rfl (ConvR.i64u64 Tryz.underlying2 Tryz.underlying39) (WL.bin rfl rfl rfl (BinR.addU64) (WL.move (v := IN (z)) rfl rfl (WL.move (v := .bool (sg)) rfl rfl (WL.call ca37 (rfl) rfl (loadM_spec T b M (M.x (a.rs1).toNat + a.imm) z sg _ (hM0.ext (E43)) hz0 hz8) ?_)))))
  rintro v57 wl ⟨hl, el⟩
  obtain ⟨e, rfl, he, hle⟩ := hl.no hw
  have hse := Mod.size (E43)
  have E46 : Ext w wl := Mod.trans (E43) (el)
  refine WL.move (v := .tuple #[.int .u64 0, .iface 144 (ptr e 0)]) rfl rfl (WL.extract rfl rfl rfl (WL.extract rfl rfl rfl (WL.assign (v := .int .u64 (0)) rfl rfl (WL.assign (v := .iface 144 (ptr e 0)) rfl rfl (WL.nil ?_)))))
  have hd : doesM M a = (M, some true) := by unfold doesM; simp only [hz]; rw [if_pos hz0, hw]
  rw [hd]
  have hEe : EndV wl (.iface 144 (ptr e 0)) (some true) := ⟨e, rfl, he⟩
  have t3 : T b3 = 0 := by rcases Nat.eq_zero_or_pos (T b3) with h | h; exact h; have := (ht.lt b3 (by omega)).1; have := n3.num; omega
  have B47 := (B44).ext (el)
  exact tail_trap T b b3 M a 0#64 _ _ (some true) _ _ _ (hM0.ext (E46)) rfl rfl rfl rfl rfl B47 t3 hEe (hG.ext (E46)) (Mod.cell (E46) hX (fun h => h)) rfl (fun w2 e2 => turnE_same hM0 (Mod.trans (E46) e2) (hEe.mod e2 (fun _ _ h => h)) (fun k hk => by cases hk; omega))
set_option maxRecDepth 100000 in
theorem does_l1 (T : Nat → Nat) (b : Nat) (M : MS) (a : RvInst) (w : World) (hM : MR T w b M) (hG : Glob w) (hX : w.cell? ⟨3, 0, none⟩ = some (.iface 206 (.agg #[.pointer (some ⟨6, 83, none⟩)]))) (ho1 : 1 ≤ a.op.toNat) (ho2 : a.op.toNat < 66) (hr1 : (a.rs1).toNat < 32) (hr2 : (a.rs2).toNat < 32) (hrd : (a.rd).toNat < 32) (z : Nat) (sg : Bool) (hz : loadsM a.op.toNat = (z, sg)) (hz0 : 0 < z) (hz8 : z ≤ 8) (k : Bool) (off : Nat) (hw : whereM M.n (M.x (a.rs1).toNat + a.imm) z = some (k, off)) : CallsR Tryz.prog 36 #[ptr b 0, .agg #[U8 (a.op), U8 (a.rd), U8 (a.rs1), U8 (a.rs2), I64 (a.imm)]] w (fun v w' => TurnE T w b (doesM M a).1 w' (doesM M a).2 v) := by
  have hM0 := hM
  obtain ⟨bq, sd, ss, cv, iv, ev, en, hb, ht⟩ := hM
  refine callsR_of Tryz.func36 rfl rfl rfl ?_
  refine WC.seq (WC.region (WL.box (v := .agg #[U8 (a.op), U8 (a.rd), U8 (a.rs1), U8 (a.rs2), I64 (a.imm)]) rfl rfl ?_))
  intro b3 w3 n3
  have E1 : Ext w w3 := Mod.trans (Mod.refl _ _) (n3.ext)
  refine WL.assign (v := .nilIface) rfl rfl (WL.nil (WC.seq (WC.draw (fun w_ => Ext w3 w_) 16 rfl mixed ?_)))
  intro wd_1 ed_1
  have R2 : Ext w3 wd_1 := Mod.trans (Mod.refl _ _) (ed_1)
  have E3 : Ext w wd_1 := Mod.trans (E1) (ed_1)
  refine WA.take (i := 0) (m' := 1) (v := ptr b 0) rfl rfl rfl rfl (by kernel_rfl) rfl (fun _ _ _ h => h) (fun wx hS => ?_) (R2) ?_
  · exact WL.move (v := ptr b 0) rfl rfl (WL.nil ⟨rfl, rfl, rfl⟩)
  refine WA.take (i := 1) (m' := 3) (v := ptr b3 2) rfl rfl rfl rfl (by kernel_rfl) rfl (fun _ _ _ h => h) (fun wx hS => ?_) (R2) ?_
  · exact WL.fieldAddr rfl fo48_2 rfl (WL.nil ⟨rfl, rfl, rfl⟩)
  refine WA.take (i := 2) (m' := 7) (v := U8 (a.rs1)) rfl rfl rfl rfl (by kernel_rfl) rfl (fun _ _ _ h => h) (fun wx hS => ?_) (R2) ?_
  · have B7 := (n3.blk).ext (hS)
    exact WL.load1 rfl ag5 (B7.cell (j := 2) rfl) rfl (WL.nil ⟨rfl, rfl, rfl⟩)
  refine WA.takeN (i := 3) (m' := 15) (v := ptr b 0) rfl rfl rfl rfl (by kernel_rfl) rfl (fun _ _ _ h => h) (fun wx hS => ?_) (R2) ?_
  · exact WL.nilCheck rfl rfl (WL.nil ⟨rfl, rfl, rfl⟩)
  refine WA.take (i := 4) (m' := 31) (v := ptr b 3) rfl rfl rfl rfl (by kernel_rfl) rfl (fun _ _ _ h => h) (fun wx hS => ?_) (R2) ?_
  · exact WL.fieldAddr rfl fo85_3 rfl (WL.nil ⟨rfl, rfl, rfl⟩)
  refine WA.take (i := 5) (m' := 63) (v := ptr b (3 + (a.rs1).toNat)) rfl rfl rfl rfl (by kernel_rfl) rfl (fun _ _ _ h => h) (fun wx hS => ?_) (R2) ?_
  · exact WL.indexArr1 (i := (a.rs1).toNat) ar68 sz39 rfl rfl hr1 rfl (WL.nil ⟨rfl, rfl, rfl⟩)
  refine WA.take (i := 6) (m' := 127) (v := U64 (M.x (a.rs1).toNat)) rfl rfl rfl rfl (by kernel_rfl) rfl (fun _ _ _ h => h) (fun wx hS => ?_) (R2) ?_
  · have B12 := ((hb).ext (n3.ext)).ext (hS)
    exact WL.load1 rfl ag39 (B12.cell (machCells_x _ _ _ _ _ _ _ _ hr1)) rfl (WL.nil ⟨rfl, rfl, rfl⟩)
  refine WA.take (i := 7) (m' := 255) (v := ptr b 0) rfl rfl rfl rfl (by kernel_rfl) rfl (fun _ _ _ h => h) (fun wx hS => ?_) (R2) ?_
  · exact WL.move (v := ptr b 0) rfl rfl (WL.nil ⟨rfl, rfl, rfl⟩)
  refine WA.take (i := 8) (m' := 511) (v := ptr b3 3) rfl rfl rfl rfl (by kernel_rfl) rfl (fun _ _ _ h => h) (fun wx hS => ?_) (R2) ?_
  · exact WL.fieldAddr rfl fo48_3 rfl (WL.nil ⟨rfl, rfl, rfl⟩)
  refine WA.take (i := 9) (m' := 1023) (v := U8 (a.rs2)) rfl rfl rfl rfl (by kernel_rfl) rfl (fun _ _ _ h => h) (fun wx hS => ?_) (R2) ?_
  · have B16 := (n3.blk).ext (hS)
    exact WL.load1 rfl ag5 (B16.cell (j := 3) rfl) rfl (WL.nil ⟨rfl, rfl, rfl⟩)
  refine WA.takeN (i := 10) (m' := 2047) (v := ptr b 0) rfl rfl rfl rfl (by kernel_rfl) rfl (fun _ _ _ h => h) (fun wx hS => ?_) (R2) ?_
  · exact WL.nilCheck rfl rfl (WL.nil ⟨rfl, rfl, rfl⟩)
  refine WA.take (i := 11) (m' := 4095) (v := ptr b 3) rfl rfl rfl rfl (by kernel_rfl) rfl (fun _ _ _ h => h) (fun wx hS => ?_) (R2) ?_
  · exact WL.fieldAddr rfl fo85_3 rfl (WL.nil ⟨rfl, rfl, rfl⟩)
  refine WA.take (i := 12) (m' := 8191) (v := ptr b (3 + (a.rs2).toNat)) rfl rfl rfl rfl (by kernel_rfl) rfl (fun _ _ _ h => h) (fun wx hS => ?_) (R2) ?_
  · exact WL.indexArr1 (i := (a.rs2).toNat) ar68 sz39 rfl rfl hr2 rfl (WL.nil ⟨rfl, rfl, rfl⟩)
  refine WA.take (i := 13) (m' := 16383) (v := U64 (M.x (a.rs2).toNat)) rfl rfl rfl rfl (by kernel_rfl) rfl (fun _ _ _ h => h) (fun wx hS => ?_) (R2) ?_
  · have B21 := ((hb).ext (n3.ext)).ext (hS)
    exact WL.load1 rfl ag39 (B21.cell (machCells_x _ _ _ _ _ _ _ _ hr2)) rfl (WL.nil ⟨rfl, rfl, rfl⟩)
  refine WA.take (i := 14) (m' := 32767) (v := U64 (M.x (a.rs1).toNat)) rfl rfl rfl rfl (by kernel_rfl) rfl (fun _ _ _ h => h) (fun wx hS => ?_) (R2) ?_
  · exact WL.assign (v := U64 (M.x (a.rs1).toNat)) rfl rfl (WL.nil ⟨rfl, rfl, rfl⟩)
  refine WA.take (i := 15) (m' := 65535) (v := U64 (M.x (a.rs2).toNat)) rfl rfl rfl rfl (by kernel_rfl) rfl (fun _ _ _ h => h) (fun wx hS => ?_) (R2) ?_
  · exact WL.assign (v := U64 (M.x (a.rs2).toNat)) rfl rfl (WL.nil ⟨rfl, rfl, rfl⟩)
  refine WA.done (by kernel_rfl) ?_
  refine WC.seq (WC.draw (fun w_ => Ext wd_1 w_) 13 rfl mixed ?_)
  intro wd_2 ed_2
  have R24 : Ext wd_1 wd_2 := Mod.trans (Mod.refl _ _) (ed_2)
  have E25 : Ext w wd_2 := Mod.trans (E3) (ed_2)
  refine WA.take (i := 0) (m' := 1) (v := .agg #[U8 (a.op), U8 (a.rd), U8 (a.rs1), U8 (a.rs2), I64 (a.imm)]) rfl rfl rfl rfl (by kernel_rfl) rfl (fun _ _ _ h => h) (fun wx hS => ?_) (R24) ?_
  · have B27 := ((n3.blk).ext (ed_1)).ext (hS)
    exact WL.loadS [U8 (a.op), U8 (a.rd), U8 (a.rs1), U8 (a.rs2), I64 (a.imm)] rfl ag48 sz48 rfl (B27.sub (o := 0) (vs := [U8 (a.op), U8 (a.rd), U8 (a.rs1), U8 (a.rs2), I64 (a.imm)]) rfl) rfl (WL.nil ⟨rfl, rfl, rfl⟩)
  refine WA.take (i := 1) (m' := 3) (v := ptr b 0) rfl rfl rfl rfl (by kernel_rfl) rfl (fun _ _ _ h => h) (fun wx hS => ?_) (R24) ?_
  · exact WL.move (v := ptr b 0) rfl rfl (WL.nil ⟨rfl, rfl, rfl⟩)
  refine WA.takeN (i := 2) (m' := 7) (v := ptr b 0) rfl rfl rfl rfl (by kernel_rfl) rfl (fun _ _ _ h => h) (fun wx hS => ?_) (R24) ?_
  · exact WL.nilCheck rfl rfl (WL.nil ⟨rfl, rfl, rfl⟩)
  refine WA.take (i := 3) (m' := 15) (v := ptr b 35) rfl rfl rfl rfl (by kernel_rfl) rfl (fun _ _ _ h => h) (fun wx hS => ?_) (R24) ?_
  · exact WL.fieldAddr rfl fo85_4 rfl (WL.nil ⟨rfl, rfl, rfl⟩)
  refine WA.take (i := 4) (m' := 31) (v := U64 (M.pc)) rfl rfl rfl rfl (by kernel_rfl) rfl (fun _ _ _ h => h) (fun wx hS => ?_) (R24) ?_
  · have B32 := (((hb).ext (n3.ext)).ext (ed_1)).ext (hS)
    exact WL.load1 rfl ag39 (B32.cell (j := 35) rfl) rfl (WL.nil ⟨rfl, rfl, rfl⟩)
  refine WA.take (i := 5) (m' := 63) (v := U64 (M.x (a.rs1).toNat)) rfl rfl rfl rfl (by kernel_rfl) rfl (fun _ _ _ h => h) (fun wx hS => ?_) (R24) ?_
  · exact WL.move (v := U64 (M.x (a.rs1).toNat)) rfl rfl (WL.nil ⟨rfl, rfl, rfl⟩)
  refine WA.take (i := 6) (m' := 127) (v := U64 (M.x (a.rs2).toNat)) rfl rfl rfl rfl (by kernel_rfl) rfl (fun _ _ _ h => h) (fun wx hS => ?_) (R24) ?_
  · exact WL.move (v := U64 (M.x (a.rs2).toNat)) rfl rfl (WL.nil ⟨rfl, rfl, rfl⟩)
  refine WA.one (i := 7) (m' := 255) (by kernel_rfl) rfl rfl ?_
  refine WL.call ca53 (rfl) rfl (do_spec a.op a.rd a.rs1 a.rs2 a.imm M.pc (M.x (a.rs1).toNat) (M.x (a.rs2).toNat) _ ho1 ho2) ?_
  rintro _ wdo ⟨rfl, edo⟩
  have R35 : Ext wd_1 wdo := Mod.trans (R24) (edo)
  have E36 : Ext w wdo := Mod.trans (E25) (edo)
  refine WL.behind (R35) ?_
  refine WA.take (i := 8) (m' := 511) (v := .tuple #[U64 (doM (a.op).toNat a.imm M.pc (M.x (a.rs1).toNat) (M.x (a.rs2).toNat)).1, U64 (doM (a.op).toNat a.imm M.pc (M.x (a.rs1).toNat) (M.x (a.rs2).toNat)).2]) rfl rfl rfl rfl (by kernel_rfl) rfl (fun _ _ _ h => h) (fun wx hS => ?_) (R35) ?_
  · exact WL.move (v := .tuple #[U64 (doM (a.op).toNat a.imm M.pc (M.x (a.rs1).toNat) (M.x (a.rs2).toNat)).1, U64 (doM (a.op).toNat a.imm M.pc (M.x (a.rs1).toNat) (M.x (a.rs2).toNat)).2]) rfl rfl (WL.nil ⟨rfl, rfl, rfl⟩)
  refine WA.take (i := 9) (m' := 1023) (v := U64 ((doM (a.op).toNat a.imm M.pc (M.x (a.rs1).toNat) (M.x (a.rs2).toNat)).1)) rfl rfl rfl rfl (by kernel_rfl) rfl (fun _ _ _ h => h) (fun wx hS => ?_) (R35) ?_
  · exact WL.extract rfl rfl rfl (WL.nil ⟨rfl, rfl, rfl⟩)
  refine WA.take (i := 10) (m' := 2047) (v := U64 ((doM (a.op).toNat a.imm M.pc (M.x (a.rs1).toNat) (M.x (a.rs2).toNat)).2)) rfl rfl rfl rfl (by kernel_rfl) rfl (fun _ _ _ h => h) (fun wx hS => ?_) (R35) ?_
  · exact WL.extract rfl rfl rfl (WL.nil ⟨rfl, rfl, rfl⟩)
  refine WA.take (i := 11) (m' := 4095) (v := U64 ((doM (a.op).toNat a.imm M.pc (M.x (a.rs1).toNat) (M.x (a.rs2).toNat)).1)) rfl rfl rfl rfl (by kernel_rfl) rfl (fun _ _ _ h => h) (fun wx hS => ?_) (R35) ?_
  · exact WL.assign (v := U64 ((doM (a.op).toNat a.imm M.pc (M.x (a.rs1).toNat) (M.x (a.rs2).toNat)).1)) rfl rfl (WL.nil ⟨rfl, rfl, rfl⟩)
  refine WA.take (i := 12) (m' := 8191) (v := U64 ((doM (a.op).toNat a.imm M.pc (M.x (a.rs1).toNat) (M.x (a.rs2).toNat)).2)) rfl rfl rfl rfl (by kernel_rfl) rfl (fun _ _ _ h => h) (fun wx hS => ?_) (R35) ?_
  · exact WL.assign (v := U64 ((doM (a.op).toNat a.imm M.pc (M.x (a.rs1).toNat) (M.x (a.rs2).toNat)).2)) rfl rfl (WL.nil ⟨rfl, rfl, rfl⟩)
  refine WA.done (by kernel_rfl) ?_
  refine WC.seq (WC.region (WL.assign (v := .nilIface) rfl rfl (WL.nil (WC.seq (WC.seq (WC.region (WL.fieldAddr rfl fo48_0 rfl ?_)))))))
  have B42 := (((n3.blk).ext (ed_1)).ext (ed_2)).ext (edo)
  refine WL.load1 rfl ag5 (B42.cell (j := 0) rfl) rfl (WL.call ca68 (rfl) rfl (loads_spec a.op _ ho1 ho2) ?_)
  rintro v42 wlo ⟨hv42, elo⟩
  rw [hz] at hv42
  obtain rfl : v42 = .tuple #[IN z, .bool sg] := hv42
  have E43 : Ext w wlo := Mod.trans (E36) (elo)
  refine WL.move (v := .tuple #[IN z, .bool sg]) rfl rfl (WL.extract rfl rfl rfl (WL.extract rfl rfl rfl (WL.assign (v := IN (z)) rfl rfl (WL.assign (v := .bool (sg)) rfl rfl (WL.nil (WC.block (WC.seq (WC.region (WL.move (v := IN (z)) rfl rfl ?_)))))))))
  refine WL.bin rfl rfl rfl (BinR.gtr) (WL.assign (v := .bool (decide ((0 : Int) < ((z : Nat) : Int)))) rfl rfl (WL.nil (WC.condT (congrArg Value.bool (decide_eq_true (by omega))) (WC.region (WL.move (v := ptr b 0) rfl rfl (WL.move (v := U64 (M.x (a.rs1).toNat)) rfl rfl (WL.fieldAddr rfl fo48_4 rfl ?_)))))))
  have B44 := (B42).ext (elo)
  refine WL.load1 rfl ag2 (B44.cell (j := 4) rfl) rfl (WL.conv rfl rfl (ConvR.i64u64 Tryz.underlying2 Tryz.underlying39) (WL.bin rfl rfl rfl (BinR.addU64) (WL.move (v := IN (z)) rfl rfl (WL.move (v := .bool (sg)) rfl rfl (WL.call ca37 (rfl) rfl (loadM_spec T b M (M.x (a.rs1).toNat + a.imm) z sg _ (hM0.ext (E43)) hz0 hz8) ?_)))))
  rintro v57 wl ⟨hl, el⟩
  obtain rfl := hl.ok hw
  have E45 : Ext w wl := Mod.trans (E43) (el)
  refine WL.move (v := .tuple #[U64 (loadV M.d M.s k off z sg), .nilIface]) rfl rfl (WL.extract rfl rfl rfl (WL.extract rfl rfl rfl (WL.assign (v := U64 (loadV M.d M.s k off z sg)) rfl rfl (WL.assign (v := .nilIface) rfl rfl (WL.nil ?_)))))
  have hd : doesM M a = (putM M a (loadV M.d M.s k off z sg) (doM (a.op).toNat a.imm M.pc (M.x (a.rs1).toNat) (M.x (a.rs2).toNat)).2, none) := by unfold doesM; simp only [hz]; rw [if_pos hz0, hw]
  rw [hd]
  have t3 : T b3 = 0 := by rcases Nat.eq_zero_or_pos (T b3) with h | h; exact h; have := (ht.lt b3 (by omega)).1; have := n3.num; omega
  have B46 := (B44).ext (el)
  exact tail_go T b b3 M a (loadV M.d M.s k off z sg) (doM (a.op).toNat a.imm M.pc (M.x (a.rs1).toNat) (M.x (a.rs2).toNat)).2 .nilIface none _ _ _ (hM0.ext (E45)) rfl rfl rfl rfl rfl B46 t3 rfl (hG.ext (E45)) (Mod.cell (E45) hX (fun h => h)) rfl (fun e h => by cases h) ho1 ho2 hrd (fun w2 h2 m2 e2 => TurnE.then h2 (Mod.ext (E45)) m2 (fun k h => .inl h) e2 (fun e h => by cases h))
set_option maxRecDepth 100000 in
theorem does_r (T : Nat → Nat) (b : Nat) (M : MS) (a : RvInst) (w : World) (hM : MR T w b M) (hG : Glob w) (hX : w.cell? ⟨3, 0, none⟩ = some (.iface 206 (.agg #[.pointer (some ⟨6, 83, none⟩)]))) (ho1 : 1 ≤ a.op.toNat) (ho2 : a.op.toNat < 66) (hr1 : (a.rs1).toNat < 32) (hr2 : (a.rs2).toNat < 32) (hrd : (a.rd).toNat < 32) (hz : loadsM a.op.toNat = (0, false)) (h63 : BitVec.ule (18#8) (a.op) = true) (h67 : BitVec.ule (a.op) (21#8) = false) (h84 : (a.op == 64#8) = false) (hR : doesM M a = (putM M a (doM (a.op).toNat a.imm M.pc (M.x (a.rs1).toNat) (M.x (a.rs2).toNat)).1 (doM (a.op).toNat a.imm M.pc (M.x (a.rs1).toNat) (M.x (a.rs2).toNat)).2, none)) : CallsR Tryz.prog 36 #[ptr b 0, .agg #[U8 (a.op), U8 (a.rd), U8 (a.rs1), U8 (a.rs2), I64 (a.imm)]] w (fun v w' => TurnE T w b (doesM M a).1 w' (doesM M a).2 v) := by
  have hM0 := hM
  obtain ⟨bq, sd, ss, cv, iv, ev, en, hb, ht⟩ := hM
  refine callsR_of Tryz.func36 rfl rfl rfl ?_
  refine WC.seq (WC.region (WL.box (v := .agg #[U8 (a.op), U8 (a.rd), U8 (a.rs1), U8 (a.rs2), I64 (a.imm)]) rfl rfl ?_))
  intro b3 w3 n3
  have E1 : Ext w w3 := Mod.trans (Mod.refl _ _) (n3.ext)
  refine WL.assign (v := .nilIface) rfl rfl (WL.nil (WC.seq (WC.draw (fun w_ => Ext w3 w_) 16 rfl mixed ?_)))
  intro wd_1 ed_1
  have R2 : Ext w3 wd_1 := Mod.trans (Mod.refl _ _) (ed_1)
  have E3 : Ext w wd_1 := Mod.trans (E1) (ed_1)
  refine WA.take (i := 0) (m' := 1) (v := ptr b 0) rfl rfl rfl rfl (by kernel_rfl) rfl (fun _ _ _ h => h) (fun wx hS => ?_) (R2) ?_
  · exact WL.move (v := ptr b 0) rfl rfl (WL.nil ⟨rfl, rfl, rfl⟩)
  refine WA.take (i := 1) (m' := 3) (v := ptr b3 2) rfl rfl rfl rfl (by kernel_rfl) rfl (fun _ _ _ h => h) (fun wx hS => ?_) (R2) ?_
  · exact WL.fieldAddr rfl fo48_2 rfl (WL.nil ⟨rfl, rfl, rfl⟩)
  refine WA.take (i := 2) (m' := 7) (v := U8 (a.rs1)) rfl rfl rfl rfl (by kernel_rfl) rfl (fun _ _ _ h => h) (fun wx hS => ?_) (R2) ?_
  · have B7 := (n3.blk).ext (hS)
    exact WL.load1 rfl ag5 (B7.cell (j := 2) rfl) rfl (WL.nil ⟨rfl, rfl, rfl⟩)
  refine WA.takeN (i := 3) (m' := 15) (v := ptr b 0) rfl rfl rfl rfl (by kernel_rfl) rfl (fun _ _ _ h => h) (fun wx hS => ?_) (R2) ?_
  · exact WL.nilCheck rfl rfl (WL.nil ⟨rfl, rfl, rfl⟩)
  refine WA.take (i := 4) (m' := 31) (v := ptr b 3) rfl rfl rfl rfl (by kernel_rfl) rfl (fun _ _ _ h => h) (fun wx hS => ?_) (R2) ?_
  · exact WL.fieldAddr rfl fo85_3 rfl (WL.nil ⟨rfl, rfl, rfl⟩)
  refine WA.take (i := 5) (m' := 63) (v := ptr b (3 + (a.rs1).toNat)) rfl rfl rfl rfl (by kernel_rfl) rfl (fun _ _ _ h => h) (fun wx hS => ?_) (R2) ?_
  · exact WL.indexArr1 (i := (a.rs1).toNat) ar68 sz39 rfl rfl hr1 rfl (WL.nil ⟨rfl, rfl, rfl⟩)
  refine WA.take (i := 6) (m' := 127) (v := U64 (M.x (a.rs1).toNat)) rfl rfl rfl rfl (by kernel_rfl) rfl (fun _ _ _ h => h) (fun wx hS => ?_) (R2) ?_
  · have B12 := ((hb).ext (n3.ext)).ext (hS)
    exact WL.load1 rfl ag39 (B12.cell (machCells_x _ _ _ _ _ _ _ _ hr1)) rfl (WL.nil ⟨rfl, rfl, rfl⟩)
  refine WA.take (i := 7) (m' := 255) (v := ptr b 0) rfl rfl rfl rfl (by kernel_rfl) rfl (fun _ _ _ h => h) (fun wx hS => ?_) (R2) ?_
  · exact WL.move (v := ptr b 0) rfl rfl (WL.nil ⟨rfl, rfl, rfl⟩)
  refine WA.take (i := 8) (m' := 511) (v := ptr b3 3) rfl rfl rfl rfl (by kernel_rfl) rfl (fun _ _ _ h => h) (fun wx hS => ?_) (R2) ?_
  · exact WL.fieldAddr rfl fo48_3 rfl (WL.nil ⟨rfl, rfl, rfl⟩)
  refine WA.take (i := 9) (m' := 1023) (v := U8 (a.rs2)) rfl rfl rfl rfl (by kernel_rfl) rfl (fun _ _ _ h => h) (fun wx hS => ?_) (R2) ?_
  · have B16 := (n3.blk).ext (hS)
    exact WL.load1 rfl ag5 (B16.cell (j := 3) rfl) rfl (WL.nil ⟨rfl, rfl, rfl⟩)
  refine WA.takeN (i := 10) (m' := 2047) (v := ptr b 0) rfl rfl rfl rfl (by kernel_rfl) rfl (fun _ _ _ h => h) (fun wx hS => ?_) (R2) ?_
  · exact WL.nilCheck rfl rfl (WL.nil ⟨rfl, rfl, rfl⟩)
  refine WA.take (i := 11) (m' := 4095) (v := ptr b 3) rfl rfl rfl rfl (by kernel_rfl) rfl (fun _ _ _ h => h) (fun wx hS => ?_) (R2) ?_
  · exact WL.fieldAddr rfl fo85_3 rfl (WL.nil ⟨rfl, rfl, rfl⟩)
  refine WA.take (i := 12) (m' := 8191) (v := ptr b (3 + (a.rs2).toNat)) rfl rfl rfl rfl (by kernel_rfl) rfl (fun _ _ _ h => h) (fun wx hS => ?_) (R2) ?_
  · exact WL.indexArr1 (i := (a.rs2).toNat) ar68 sz39 rfl rfl hr2 rfl (WL.nil ⟨rfl, rfl, rfl⟩)
  refine WA.take (i := 13) (m' := 16383) (v := U64 (M.x (a.rs2).toNat)) rfl rfl rfl rfl (by kernel_rfl) rfl (fun _ _ _ h => h) (fun wx hS => ?_) (R2) ?_
  · have B21 := ((hb).ext (n3.ext)).ext (hS)
    exact WL.load1 rfl ag39 (B21.cell (machCells_x _ _ _ _ _ _ _ _ hr2)) rfl (WL.nil ⟨rfl, rfl, rfl⟩)
  refine WA.take (i := 14) (m' := 32767) (v := U64 (M.x (a.rs1).toNat)) rfl rfl rfl rfl (by kernel_rfl) rfl (fun _ _ _ h => h) (fun wx hS => ?_) (R2) ?_
  · exact WL.assign (v := U64 (M.x (a.rs1).toNat)) rfl rfl (WL.nil ⟨rfl, rfl, rfl⟩)
  refine WA.take (i := 15) (m' := 65535) (v := U64 (M.x (a.rs2).toNat)) rfl rfl rfl rfl (by kernel_rfl) rfl (fun _ _ _ h => h) (fun wx hS => ?_) (R2) ?_
  · exact WL.assign (v := U64 (M.x (a.rs2).toNat)) rfl rfl (WL.nil ⟨rfl, rfl, rfl⟩)
  refine WA.done (by kernel_rfl) ?_
  refine WC.seq (WC.draw (fun w_ => Ext wd_1 w_) 13 rfl mixed ?_)
  intro wd_2 ed_2
  have R24 : Ext wd_1 wd_2 := Mod.trans (Mod.refl _ _) (ed_2)
  have E25 : Ext w wd_2 := Mod.trans (E3) (ed_2)
  refine WA.take (i := 0) (m' := 1) (v := .agg #[U8 (a.op), U8 (a.rd), U8 (a.rs1), U8 (a.rs2), I64 (a.imm)]) rfl rfl rfl rfl (by kernel_rfl) rfl (fun _ _ _ h => h) (fun wx hS => ?_) (R24) ?_
  · have B27 := ((n3.blk).ext (ed_1)).ext (hS)
    exact WL.loadS [U8 (a.op), U8 (a.rd), U8 (a.rs1), U8 (a.rs2), I64 (a.imm)] rfl ag48 sz48 rfl (B27.sub (o := 0) (vs := [U8 (a.op), U8 (a.rd), U8 (a.rs1), U8 (a.rs2), I64 (a.imm)]) rfl) rfl (WL.nil ⟨rfl, rfl, rfl⟩)
  refine WA.take (i := 1) (m' := 3) (v := ptr b 0) rfl rfl rfl rfl (by kernel_rfl) rfl (fun _ _ _ h => h) (fun wx hS => ?_) (R24) ?_
  · exact WL.move (v := ptr b 0) rfl rfl (WL.nil ⟨rfl, rfl, rfl⟩)
  refine WA.takeN (i := 2) (m' := 7) (v := ptr b 0) rfl rfl rfl rfl (by kernel_rfl) rfl (fun _ _ _ h => h) (fun wx hS => ?_) (R24) ?_
  · exact WL.nilCheck rfl rfl (WL.nil ⟨rfl, rfl, rfl⟩)
  refine WA.take (i := 3) (m' := 15) (v := ptr b 35) rfl rfl rfl rfl (by kernel_rfl) rfl (fun _ _ _ h => h) (fun wx hS => ?_) (R24) ?_
  · exact WL.fieldAddr rfl fo85_4 rfl (WL.nil ⟨rfl, rfl, rfl⟩)
  refine WA.take (i := 4) (m' := 31) (v := U64 (M.pc)) rfl rfl rfl rfl (by kernel_rfl) rfl (fun _ _ _ h => h) (fun wx hS => ?_) (R24) ?_
  · have B32 := (((hb).ext (n3.ext)).ext (ed_1)).ext (hS)
    exact WL.load1 rfl ag39 (B32.cell (j := 35) rfl) rfl (WL.nil ⟨rfl, rfl, rfl⟩)
  refine WA.take (i := 5) (m' := 63) (v := U64 (M.x (a.rs1).toNat)) rfl rfl rfl rfl (by kernel_rfl) rfl (fun _ _ _ h => h) (fun wx hS => ?_) (R24) ?_
  · exact WL.move (v := U64 (M.x (a.rs1).toNat)) rfl rfl (WL.nil ⟨rfl, rfl, rfl⟩)
  refine WA.take (i := 6) (m' := 127) (v := U64 (M.x (a.rs2).toNat)) rfl rfl rfl rfl (by kernel_rfl) rfl (fun _ _ _ h => h) (fun wx hS => ?_) (R24) ?_
  · exact WL.move (v := U64 (M.x (a.rs2).toNat)) rfl rfl (WL.nil ⟨rfl, rfl, rfl⟩)
  refine WA.one (i := 7) (m' := 255) (by kernel_rfl) rfl rfl ?_
  refine WL.call ca53 (rfl) rfl (do_spec a.op a.rd a.rs1 a.rs2 a.imm M.pc (M.x (a.rs1).toNat) (M.x (a.rs2).toNat) _ ho1 ho2) ?_
  rintro _ wdo ⟨rfl, edo⟩
  have R35 : Ext wd_1 wdo := Mod.trans (R24) (edo)
  have E36 : Ext w wdo := Mod.trans (E25) (edo)
  refine WL.behind (R35) ?_
  refine WA.take (i := 8) (m' := 511) (v := .tuple #[U64 (doM (a.op).toNat a.imm M.pc (M.x (a.rs1).toNat) (M.x (a.rs2).toNat)).1, U64 (doM (a.op).toNat a.imm M.pc (M.x (a.rs1).toNat) (M.x (a.rs2).toNat)).2]) rfl rfl rfl rfl (by kernel_rfl) rfl (fun _ _ _ h => h) (fun wx hS => ?_) (R35) ?_
  · exact WL.move (v := .tuple #[U64 (doM (a.op).toNat a.imm M.pc (M.x (a.rs1).toNat) (M.x (a.rs2).toNat)).1, U64 (doM (a.op).toNat a.imm M.pc (M.x (a.rs1).toNat) (M.x (a.rs2).toNat)).2]) rfl rfl (WL.nil ⟨rfl, rfl, rfl⟩)
  refine WA.take (i := 9) (m' := 1023) (v := U64 ((doM (a.op).toNat a.imm M.pc (M.x (a.rs1).toNat) (M.x (a.rs2).toNat)).1)) rfl rfl rfl rfl (by kernel_rfl) rfl (fun _ _ _ h => h) (fun wx hS => ?_) (R35) ?_
  · exact WL.extract rfl rfl rfl (WL.nil ⟨rfl, rfl, rfl⟩)
  refine WA.take (i := 10) (m' := 2047) (v := U64 ((doM (a.op).toNat a.imm M.pc (M.x (a.rs1).toNat) (M.x (a.rs2).toNat)).2)) rfl rfl rfl rfl (by kernel_rfl) rfl (fun _ _ _ h => h) (fun wx hS => ?_) (R35) ?_
  · exact WL.extract rfl rfl rfl (WL.nil ⟨rfl, rfl, rfl⟩)
  refine WA.take (i := 11) (m' := 4095) (v := U64 ((doM (a.op).toNat a.imm M.pc (M.x (a.rs1).toNat) (M.x (a.rs2).toNat)).1)) rfl rfl rfl rfl (by kernel_rfl) rfl (fun _ _ _ h => h) (fun wx hS => ?_) (R35) ?_
  · exact WL.assign (v := U64 ((doM (a.op).toNat a.imm M.pc (M.x (a.rs1).toNat) (M.x (a.rs2).toNat)).1)) rfl rfl (WL.nil ⟨rfl, rfl, rfl⟩)
  refine WA.take (i := 12) (m' := 8191) (v := U64 ((doM (a.op).toNat a.imm M.pc (M.x (a.rs1).toNat) (M.x (a.rs2).toNat)).2)) rfl rfl rfl rfl (by kernel_rfl) rfl (fun _ _ _ h => h) (fun wx hS => ?_) (R35) ?_
  · exact WL.assign (v := U64 ((doM (a.op).toNat a.imm M.pc (M.x (a.rs1).toNat) (M.x (a.rs2).toNat)).2)) rfl rfl (WL.nil ⟨rfl, rfl, rfl⟩)
  refine WA.done (by kernel_rfl) ?_
  refine WC.seq (WC.region (WL.assign (v := .nilIface) rfl rfl (WL.nil (WC.seq (WC.seq (WC.region (WL.fieldAddr rfl fo48_0 rfl ?_)))))))
  have B42 := (((n3.blk).ext (ed_1)).ext (ed_2)).ext (edo)
  refine WL.load1 rfl ag5 (B42.cell (j := 0) rfl) rfl (WL.call ca68 (rfl) rfl (loads_spec a.op _ ho1 ho2) ?_)
  rintro v42 wlo ⟨hv42, elo⟩
  rw [hz] at hv42
  obtain rfl : v42 = .tuple #[IN 0, .bool false] := hv42
  have E43 : Ext w wlo := Mod.trans (E36) (elo)
  refine WL.move (v := .tuple #[IN 0, .bool false]) rfl rfl (WL.extract rfl rfl rfl (WL.extract rfl rfl rfl (WL.assign (v := IN (0)) rfl rfl (WL.assign (v := .bool (false)) rfl rfl (WL.nil (WC.block (WC.seq (WC.region (WL.move (v := IN (0)) rfl rfl ?_)))))))))
  refine WL.bin rfl rfl rfl (BinR.gtr) (WL.assign (v := .bool (decide ((0 : Int) < ((0 : Nat) : Int)))) rfl rfl (WL.nil (WC.condF (congrArg Value.bool (decide_eq_false (by omega))) (WC.seq (WC.region (WL.fieldAddr rfl fo48_0 rfl ?_))))))
  have B44 := (B42).ext (elo)
  refine WL.load1 rfl ag5 (B44.cell (j := 0) rfl) rfl (WL.bin (v := .bool (true)) rfl (vy := U8 (18#8)) rfl rfl (BinR.toB (BinR.geqU8) (h63)) (WL.move (v := .bool (true)) rfl rfl (WL.guardT (rfl) (WL.fieldAddr rfl fo48_0 rfl (WL.guardT (rfl) (WL.load1 rfl ag5 (B44.cell (j := 0) rfl) rfl (WL.guardT (rfl) (WL.bin (v := .bool (false)) rfl (vy := U8 (21#8)) rfl rfl (BinR.toB (BinR.leqU8) (h67)) (WL.pick (b := true) rfl rfl rfl ?_)))))))))
  refine WL.assign (v := .bool (false)) rfl rfl (WL.nil (WC.condF rfl (WC.seq (WC.region (WL.fieldAddr rfl fo48_0 rfl (WL.load1 rfl ag5 (B44.cell (j := 0) rfl) rfl (WL.bin (v := .bool (false)) rfl (vy := U8 (64#8)) rfl rfl (BinR.toB (BinR.eqlU8) (h84)) (WL.assign (v := .bool (false)) rfl rfl (WL.nil ?_)))))))))
  refine WC.condF rfl (WC.skip ?_)
  rw [hR]
  have t3 : T b3 = 0 := by rcases Nat.eq_zero_or_pos (T b3) with h | h; exact h; have := (ht.lt b3 (by omega)).1; have := n3.num; omega
  exact tail_go T b b3 M a (doM (a.op).toNat a.imm M.pc (M.x (a.rs1).toNat) (M.x (a.rs2).toNat)).1 (doM (a.op).toNat a.imm M.pc (M.x (a.rs1).toNat) (M.x (a.rs2).toNat)).2 .nilIface none _ _ _ (hM0.ext (E43)) rfl rfl rfl rfl rfl B44 t3 rfl (hG.ext (E43)) (Mod.cell (E43) hX (fun h => h)) rfl (fun e h => by cases h) ho1 ho2 hrd (fun w2 h2 m2 e2 => TurnE.then h2 (Mod.ext (E43)) m2 (fun k h => .inl h) e2 (fun e h => by cases h))
set_option maxRecDepth 100000 in
theorem does_q (T : Nat → Nat) (b : Nat) (M : MS) (a : RvInst) (w : World) (hM : MR T w b M) (hG : Glob w) (hX : w.cell? ⟨3, 0, none⟩ = some (.iface 206 (.agg #[.pointer (some ⟨6, 83, none⟩)]))) (ho1 : 1 ≤ a.op.toNat) (ho2 : a.op.toNat < 66) (hr1 : (a.rs1).toNat < 32) (hr2 : (a.rs2).toNat < 32) (hrd : (a.rd).toNat < 32) (hz : loadsM a.op.toNat = (0, false)) (h63 : BitVec.ule (18#8) (a.op) = false) (h84 : (a.op == 64#8) = false) (hR : doesM M a = (putM M a (doM (a.op).toNat a.imm M.pc (M.x (a.rs1).toNat) (M.x (a.rs2).toNat)).1 (doM (a.op).toNat a.imm M.pc (M.x (a.rs1).toNat) (M.x (a.rs2).toNat)).2, none)) : CallsR Tryz.prog 36 #[ptr b 0, .agg #[U8 (a.op), U8 (a.rd), U8 (a.rs1), U8 (a.rs2), I64 (a.imm)]] w (fun v w' => TurnE T w b (doesM M a).1 w' (doesM M a).2 v) := by
  have hM0 := hM
  obtain ⟨bq, sd, ss, cv, iv, ev, en, hb, ht⟩ := hM
  refine callsR_of Tryz.func36 rfl rfl rfl ?_
  refine WC.seq (WC.region (WL.box (v := .agg #[U8 (a.op), U8 (a.rd), U8 (a.rs1), U8 (a.rs2), I64 (a.imm)]) rfl rfl ?_))
  intro b3 w3 n3
  have E1 : Ext w w3 := Mod.trans (Mod.refl _ _) (n3.ext)
  refine WL.assign (v := .nilIface) rfl rfl (WL.nil (WC.seq (WC.draw (fun w_ => Ext w3 w_) 16 rfl mixed ?_)))
  intro wd_1 ed_1
  have R2 : Ext w3 wd_1 := Mod.trans (Mod.refl _ _) (ed_1)
  have E3 : Ext w wd_1 := Mod.trans (E1) (ed_1)
  refine WA.take (i := 0) (m' := 1) (v := ptr b 0) rfl rfl rfl rfl (by kernel_rfl) rfl (fun _ _ _ h => h) (fun wx hS => ?_) (R2) ?_
  · exact WL.move (v := ptr b 0) rfl rfl (WL.nil ⟨rfl, rfl, rfl⟩)
  refine WA.take (i := 1) (m' := 3) (v := ptr b3 2) rfl rfl rfl rfl (by kernel_rfl) rfl (fun _ _ _ h => h) (fun wx hS => ?_) (R2) ?_
  · exact WL.fieldAddr rfl fo48_2 rfl (WL.nil ⟨rfl, rfl, rfl⟩)
  refine WA.take (i := 2) (m' := 7) (v := U8 (a.rs1)) rfl rfl rfl rfl (by kernel_rfl) rfl (fun _ _ _ h => h) (fun wx hS => ?_) (R2) ?_
  · have B7 := (n3.blk).ext (hS)
    exact WL.load1 rfl ag5 (B7.cell (j := 2) rfl) rfl (WL.nil ⟨rfl, rfl, rfl⟩)
  refine WA.takeN (i := 3) (m' := 15) (v := ptr b 0) rfl rfl rfl rfl (by kernel_rfl) rfl (fun _ _ _ h => h) (fun wx hS => ?_) (R2) ?_
  · exact WL.nilCheck rfl rfl (WL.nil ⟨rfl, rfl, rfl⟩)
  refine WA.take (i := 4) (m' := 31) (v := ptr b 3) rfl rfl rfl rfl (by kernel_rfl) rfl (fun _ _ _ h => h) (fun wx hS => ?_) (R2) ?_
  · exact WL.fieldAddr rfl fo85_3 rfl (WL.nil ⟨rfl, rfl, rfl⟩)
  refine WA.take (i := 5) (m' := 63) (v := ptr b (3 + (a.rs1).toNat)) rfl rfl rfl rfl (by kernel_rfl) rfl (fun _ _ _ h => h) (fun wx hS => ?_) (R2) ?_
  · exact WL.indexArr1 (i := (a.rs1).toNat) ar68 sz39 rfl rfl hr1 rfl (WL.nil ⟨rfl, rfl, rfl⟩)
  refine WA.take (i := 6) (m' := 127) (v := U64 (M.x (a.rs1).toNat)) rfl rfl rfl rfl (by kernel_rfl) rfl (fun _ _ _ h => h) (fun wx hS => ?_) (R2) ?_
  · have B12 := ((hb).ext (n3.ext)).ext (hS)
    exact WL.load1 rfl ag39 (B12.cell (machCells_x _ _ _ _ _ _ _ _ hr1)) rfl (WL.nil ⟨rfl, rfl, rfl⟩)
  refine WA.take (i := 7) (m' := 255) (v := ptr b 0) rfl rfl rfl rfl (by kernel_rfl) rfl (fun _ _ _ h => h) (fun wx hS => ?_) (R2) ?_
  · exact WL.move (v := ptr b 0) rfl rfl (WL.nil ⟨rfl, rfl, rfl⟩)
  refine WA.take (i := 8) (m' := 511) (v := ptr b3 3) rfl rfl rfl rfl (by kernel_rfl) rfl (fun _ _ _ h => h) (fun wx hS => ?_) (R2) ?_
  · exact WL.fieldAddr rfl fo48_3 rfl (WL.nil ⟨rfl, rfl, rfl⟩)
  refine WA.take (i := 9) (m' := 1023) (v := U8 (a.rs2)) rfl rfl rfl rfl (by kernel_rfl) rfl (fun _ _ _ h => h) (fun wx hS => ?_) (R2) ?_
  · have B16 := (n3.blk).ext (hS)
    exact WL.load1 rfl ag5 (B16.cell (j := 3) rfl) rfl (WL.nil ⟨rfl, rfl, rfl⟩)
  refine WA.takeN (i := 10) (m' := 2047) (v := ptr b 0) rfl rfl rfl rfl (by kernel_rfl) rfl (fun _ _ _ h => h) (fun wx hS => ?_) (R2) ?_
  · exact WL.nilCheck rfl rfl (WL.nil ⟨rfl, rfl, rfl⟩)
  refine WA.take (i := 11) (m' := 4095) (v := ptr b 3) rfl rfl rfl rfl (by kernel_rfl) rfl (fun _ _ _ h => h) (fun wx hS => ?_) (R2) ?_
  · exact WL.fieldAddr rfl fo85_3 rfl (WL.nil ⟨rfl, rfl, rfl⟩)
  refine WA.take (i := 12) (m' := 8191) (v := ptr b (3 + (a.rs2).toNat)) rfl rfl rfl rfl (by kernel_rfl) rfl (fun _ _ _ h => h) (fun wx hS => ?_) (R2) ?_
  · exact WL.indexArr1 (i := (a.rs2).toNat) ar68 sz39 rfl rfl hr2 rfl (WL.nil ⟨rfl, rfl, rfl⟩)
  refine WA.take (i := 13) (m' := 16383) (v := U64 (M.x (a.rs2).toNat)) rfl rfl rfl rfl (by kernel_rfl) rfl (fun _ _ _ h => h) (fun wx hS => ?_) (R2) ?_
  · have B21 := ((hb).ext (n3.ext)).ext (hS)
    exact WL.load1 rfl ag39 (B21.cell (machCells_x _ _ _ _ _ _ _ _ hr2)) rfl (WL.nil ⟨rfl, rfl, rfl⟩)
  refine WA.take (i := 14) (m' := 32767) (v := U64 (M.x (a.rs1).toNat)) rfl rfl rfl rfl (by kernel_rfl) rfl (fun _ _ _ h => h) (fun wx hS => ?_) (R2) ?_
  · exact WL.assign (v := U64 (M.x (a.rs1).toNat)) rfl rfl (WL.nil ⟨rfl, rfl, rfl⟩)
  refine WA.take (i := 15) (m' := 65535) (v := U64 (M.x (a.rs2).toNat)) rfl rfl rfl rfl (by kernel_rfl) rfl (fun _ _ _ h => h) (fun wx hS => ?_) (R2) ?_
  · exact WL.assign (v := U64 (M.x (a.rs2).toNat)) rfl rfl (WL.nil ⟨rfl, rfl, rfl⟩)
  refine WA.done (by kernel_rfl) ?_
  refine WC.seq (WC.draw (fun w_ => Ext wd_1 w_) 13 rfl mixed ?_)
  intro wd_2 ed_2
  have R24 : Ext wd_1 wd_2 := Mod.trans (Mod.refl _ _) (ed_2)
  have E25 : Ext w wd_2 := Mod.trans (E3) (ed_2)
  refine WA.take (i := 0) (m' := 1) (v := .agg #[U8 (a.op), U8 (a.rd), U8 (a.rs1), U8 (a.rs2), I64 (a.imm)]) rfl rfl rfl rfl (by kernel_rfl) rfl (fun _ _ _ h => h) (fun wx hS => ?_) (R24) ?_
  · have B27 := ((n3.blk).ext (ed_1)).ext (hS)
    exact WL.loadS [U8 (a.op), U8 (a.rd), U8 (a.rs1), U8 (a.rs2), I64 (a.imm)] rfl ag48 sz48 rfl (B27.sub (o := 0) (vs := [U8 (a.op), U8 (a.rd), U8 (a.rs1), U8 (a.rs2), I64 (a.imm)]) rfl) rfl (WL.nil ⟨rfl, rfl, rfl⟩)
  refine WA.take (i := 1) (m' := 3) (v := ptr b 0) rfl rfl rfl rfl (by kernel_rfl) rfl (fun _ _ _ h => h) (fun wx hS => ?_) (R24) ?_
  · exact WL.move (v := ptr b 0) rfl rfl (WL.nil ⟨rfl, rfl, rfl⟩)
  refine WA.takeN (i := 2) (m' := 7) (v := ptr b 0) rfl rfl rfl rfl (by kernel_rfl) rfl (fun _ _ _ h => h) (fun wx hS => ?_) (R24) ?_
  · exact WL.nilCheck rfl rfl (WL.nil ⟨rfl, rfl, rfl⟩)
  refine WA.take (i := 3) (m' := 15) (v := ptr b 35) rfl rfl rfl rfl (by kernel_rfl) rfl (fun _ _ _ h => h) (fun wx hS => ?_) (R24) ?_
  · exact WL.fieldAddr rfl fo85_4 rfl (WL.nil ⟨rfl, rfl, rfl⟩)
  refine WA.take (i := 4) (m' := 31) (v := U64 (M.pc)) rfl rfl rfl rfl (by kernel_rfl) rfl (fun _ _ _ h => h) (fun wx hS => ?_) (R24) ?_
  · have B32 := (((hb).ext (n3.ext)).ext (ed_1)).ext (hS)
    exact WL.load1 rfl ag39 (B32.cell (j := 35) rfl) rfl (WL.nil ⟨rfl, rfl, rfl⟩)
  refine WA.take (i := 5) (m' := 63) (v := U64 (M.x (a.rs1).toNat)) rfl rfl rfl rfl (by kernel_rfl) rfl (fun _ _ _ h => h) (fun wx hS => ?_) (R24) ?_
  · exact WL.move (v := U64 (M.x (a.rs1).toNat)) rfl rfl (WL.nil ⟨rfl, rfl, rfl⟩)
  refine WA.take (i := 6) (m' := 127) (v := U64 (M.x (a.rs2).toNat)) rfl rfl rfl rfl (by kernel_rfl) rfl (fun _ _ _ h => h) (fun wx hS => ?_) (R24) ?_
  · exact WL.move (v := U64 (M.x (a.rs2).toNat)) rfl rfl (WL.nil ⟨rfl, rfl, rfl⟩)
  refine WA.one (i := 7) (m' := 255) (by kernel_rfl) rfl rfl ?_
  refine WL.call ca53 (rfl) rfl (do_spec a.op a.rd a.rs1 a.rs2 a.imm M.pc (M.x (a.rs1).toNat) (M.x (a.rs2).toNat) _ ho1 ho2) ?_
  rintro _ wdo ⟨rfl, edo⟩
  have R35 : Ext wd_1 wdo := Mod.trans (R24) (edo)
  have E36 : Ext w wdo := Mod.trans (E25) (edo)
  refine WL.behind (R35) ?_
  refine WA.take (i := 8) (m' := 511) (v := .tuple #[U64 (doM (a.op).toNat a.imm M.pc (M.x (a.rs1).toNat) (M.x (a.rs2).toNat)).1, U64 (doM (a.op).toNat a.imm M.pc (M.x (a.rs1).toNat) (M.x (a.rs2).toNat)).2]) rfl rfl rfl rfl (by kernel_rfl) rfl (fun _ _ _ h => h) (fun wx hS => ?_) (R35) ?_
  · exact WL.move (v := .tuple #[U64 (doM (a.op).toNat a.imm M.pc (M.x (a.rs1).toNat) (M.x (a.rs2).toNat)).1, U64 (doM (a.op).toNat a.imm M.pc (M.x (a.rs1).toNat) (M.x (a.rs2).toNat)).2]) rfl rfl (WL.nil ⟨rfl, rfl, rfl⟩)
  refine WA.take (i := 9) (m' := 1023) (v := U64 ((doM (a.op).toNat a.imm M.pc (M.x (a.rs1).toNat) (M.x (a.rs2).toNat)).1)) rfl rfl rfl rfl (by kernel_rfl) rfl (fun _ _ _ h => h) (fun wx hS => ?_) (R35) ?_
  · exact WL.extract rfl rfl rfl (WL.nil ⟨rfl, rfl, rfl⟩)
  refine WA.take (i := 10) (m' := 2047) (v := U64 ((doM (a.op).toNat a.imm M.pc (M.x (a.rs1).toNat) (M.x (a.rs2).toNat)).2)) rfl rfl rfl rfl (by kernel_rfl) rfl (fun _ _ _ h => h) (fun wx hS => ?_) (R35) ?_
  · exact WL.extract rfl rfl rfl (WL.nil ⟨rfl, rfl, rfl⟩)
  refine WA.take (i := 11) (m' := 4095) (v := U64 ((doM (a.op).toNat a.imm M.pc (M.x (a.rs1).toNat) (M.x (a.rs2).toNat)).1)) rfl rfl rfl rfl (by kernel_rfl) rfl (fun _ _ _ h => h) (fun wx hS => ?_) (R35) ?_
  · exact WL.assign (v := U64 ((doM (a.op).toNat a.imm M.pc (M.x (a.rs1).toNat) (M.x (a.rs2).toNat)).1)) rfl rfl (WL.nil ⟨rfl, rfl, rfl⟩)
  refine WA.take (i := 12) (m' := 8191) (v := U64 ((doM (a.op).toNat a.imm M.pc (M.x (a.rs1).toNat) (M.x (a.rs2).toNat)).2)) rfl rfl rfl rfl (by kernel_rfl) rfl (fun _ _ _ h => h) (fun wx hS => ?_) (R35) ?_
  · exact WL.assign (v := U64 ((doM (a.op).toNat a.imm M.pc (M.x (a.rs1).toNat) (M.x (a.rs2).toNat)).2)) rfl rfl (WL.nil ⟨rfl, rfl, rfl⟩)
  refine WA.done (by kernel_rfl) ?_
  refine WC.seq (WC.region (WL.assign (v := .nilIface) rfl rfl (WL.nil (WC.seq (WC.seq (WC.region (WL.fieldAddr rfl fo48_0 rfl ?_)))))))
  have B42 := (((n3.blk).ext (ed_1)).ext (ed_2)).ext (edo)
  refine WL.load1 rfl ag5 (B42.cell (j := 0) rfl) rfl (WL.call ca68 (rfl) rfl (loads_spec a.op _ ho1 ho2) ?_)
  rintro v42 wlo ⟨hv42, elo⟩
  rw [hz] at hv42
  obtain rfl : v42 = .tuple #[IN 0, .bool false] := hv42
  have E43 : Ext w wlo := Mod.trans (E36) (elo)
  refine WL.move (v := .tuple #[IN 0, .bool false]) rfl rfl (WL.extract rfl rfl rfl (WL.extract rfl rfl rfl (WL.assign (v := IN (0)) rfl rfl (WL.assign (v := .bool (false)) rfl rfl (WL.nil (WC.block (WC.seq (WC.region (WL.move (v := IN (0)) rfl rfl ?_)))))))))
  refine WL.bin rfl rfl rfl (BinR.gtr) (WL.assign (v := .bool (decide ((0 : Int) < ((0 : Nat) : Int)))) rfl rfl (WL.nil (WC.condF (congrArg Value.bool (decide_eq_false (by omega))) (WC.seq (WC.region (WL.fieldAddr rfl fo48_0 rfl ?_))))))
  have B44 := (B42).ext (elo)
  refine WL.load1 rfl ag5 (B44.cell (j := 0) rfl) rfl (WL.bin (v := .bool (false)) rfl (vy := U8 (18#8)) rfl rfl (BinR.toB (BinR.geqU8) (h63)) (WL.move (v := .bool (false)) rfl rfl (WL.guardF (b' := false) (rfl) rfl rfl (WL.guardF (b' := false) (rfl) rfl rfl (WL.guardF (b' := false) (rfl) rfl rfl (WL.pick (b := false) rfl rfl rfl (WL.assign (v := .bool (false)) rfl rfl (WL.nil (WC.condF rfl ?_)))))))))
  refine WC.seq (WC.region (WL.fieldAddr rfl fo48_0 rfl (WL.load1 rfl ag5 (B44.cell (j := 0) rfl) rfl (WL.bin (v := .bool (false)) rfl (vy := U8 (64#8)) rfl rfl (BinR.toB (BinR.eqlU8) (h84)) (WL.assign (v := .bool (false)) rfl rfl (WL.nil (WC.condF rfl (WC.skip ?_))))))))
  rw [hR]
  have t3 : T b3 = 0 := by rcases Nat.eq_zero_or_pos (T b3) with h | h; exact h; have := (ht.lt b3 (by omega)).1; have := n3.num; omega
  exact tail_go T b b3 M a (doM (a.op).toNat a.imm M.pc (M.x (a.rs1).toNat) (M.x (a.rs2).toNat)).1 (doM (a.op).toNat a.imm M.pc (M.x (a.rs1).toNat) (M.x (a.rs2).toNat)).2 .nilIface none _ _ _ (hM0.ext (E43)) rfl rfl rfl rfl rfl B44 t3 rfl (hG.ext (E43)) (Mod.cell (E43) hX (fun h => h)) rfl (fun e h => by cases h) ho1 ho2 hrd (fun w2 h2 m2 e2 => TurnE.then h2 (Mod.ext (E43)) m2 (fun k h => .inl h) e2 (fun e h => by cases h))
end Go.Proofs.S
end
