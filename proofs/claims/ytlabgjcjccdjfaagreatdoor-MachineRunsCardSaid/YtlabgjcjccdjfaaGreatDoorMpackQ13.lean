/- Steps of the proof, packed by program: McRS McP1 McP2 McP3 McP4 McEs. -/
import Derived.Test.YtlabgjcjccdjfaaGreatDoorRows
import Derived.Test.YtlabgjcjccdjfaaGreatDoorMpackQ02
import Derived.Test.YtlabgjcjccdjfaaGreatDoorMpackQ11
import Derived.Test.YtlabgjcjccdjfaaGreatDoorMpackQ12
set_option linter.unusedVariables false
set_option linter.unusedSimpArgs false
set_option linter.unnecessarySimpa false
set_option maxRecDepth 100000
section
namespace Go.Proofs.S
open Go Go.Ux Go.Ux.Mach Go.Proofs Go.Proofs.M Go.Ux.Image
open Go.Proofs.N (doM loadsM)
set_option linter.unusedVariables false
theorem signedQ_int (y : BitVec 64) (b : Nat) (hb : b = 12 ∨ b = 13 ∨ b = 21 ∨ b = 32) (h : y.toNat < 2 ^ b) : (signedQ y b).toInt = if (2 : Int) ^ (b - 1) ≤ (y.toNat : Int) then (y.toNat : Int) - 2 ^ b else (y.toNat : Int) := by
 have c : ∀ s : Bool, (bif s then y - 1#64 <<< b else y).toInt = bif s then (y - 1#64 <<< b).toInt else y.toInt := fun s => by cases s <;> rfl
 unfold signedQ
 rw [c]
 have hy : y.toInt = (y.toNat : Int) := by rw [BitVec.toInt_eq_toNat_cond]; rcases hb with rfl | rfl | rfl | rfl <;> (split <;> omega)
 have h1 : (1#64 <<< (b - 1)).toInt = 2 ^ (b - 1) := by rcases hb with rfl | rfl | rfl | rfl <;> decide
 have h2 : (y - 1#64 <<< b).toNat = (18446744073709551616 - 2 ^ b + y.toNat) % 18446744073709551616 := by rw [BitVec.toNat_sub]; rcases hb with rfl | rfl | rfl | rfl <;> rfl
 have hs : BitVec.sle (1#64 <<< (b - 1)) y = decide ((2 : Int) ^ (b - 1) ≤ (y.toNat : Int)) := by unfold BitVec.sle; rw [h1, hy]
 rw [hs, hy, BitVec.toInt_eq_toNat_cond, h2]
 by_cases hc : (2 : Int) ^ (b - 1) ≤ (y.toNat : Int)
 ·rw [decide_eq_true hc, if_pos hc]
  simp only [cond_true]
  rcases hb with rfl | rfl | rfl | rfl <;> (split <;> omega)
 ·rw [decide_eq_false hc, if_neg hc]; rfl
theorem low_zero (n : BitVec 64) (k : Nat) (hk : k < 64) (h : n.toNat % 2 ^ k = 0) : (n &&& BitVec.ofNat 64 (2 ^ k - 1)) = 0#64 := by
 apply BitVec.eq_of_toNat_eq
 rw [and_low _ _ hk, h]; rfl
theorem fits_sgn (f : RvForm) (y : BitVec 64) (b k : Nat) (hb : b = 12 ∨ b = 13 ∨ b = 21 ∨ b = 32) (hk : k < b) (h : y.toNat < 2 ^ b) (hy : y.toNat % 2 ^ k = 0) (lo hi : BitVec 64) (hlo : lo.toInt = -(2 : Int) ^ (b - 1)) (hhi : hi.toInt = (2 : Int) ^ (b - 1))
  (hf : fitsF f (signedQ y b) = (BitVec.sle lo (signedQ y b) && BitVec.slt (signedQ y b) hi && ((signedQ y b &&& BitVec.ofNat 64 (2 ^ k - 1)) == 0#64))) : fitsF f (signedQ y b) = true := by
 have hz := signedQ_int y b hb h
 rw [hf, low_zero]
 ·simp only [BitVec.sle, BitVec.slt, hlo, hhi, Bool.and_eq_true, decide_eq_true_eq]
  refine ⟨⟨?_, ?_⟩, by decide⟩ <;> (rw [hz]; rcases hb with rfl | rfl | rfl | rfl <;> (split <;> omega))
 ·omega
 ·have := nat_of_int hz
  have e : (2 : Nat) ^ b = 2 ^ (b - k) * 2 ^ k := by rw [← Nat.pow_add]; congr 1; omega
  by_cases hc : (2 : Int) ^ (b - 1) ≤ (y.toNat : Int)
  ·rw [if_pos hc] at this
   have hneg : (y.toNat : Int) - 2 ^ b < 0 := by rcases hb with rfl | rfl | rfl | rfl <;> omega
   rw [if_pos hneg] at this
   have e2 : (signedQ y b).toNat = y.toNat + (18446744073709551616 - 2 ^ b) := by rcases hb with rfl | rfl | rfl | rfl <;> omega
   have e3 : (18446744073709551616 - 2 ^ b) % 2 ^ k = 0 := by
    have : (18446744073709551616 : Nat) = 2 ^ (64 - b) * 2 ^ b := by rw [← Nat.pow_add]; rw [show 64 - b + b = 64 by omega]
    have h6 : (18446744073709551616 : Nat) - 2 ^ b = (2 ^ (64 - b) - 1) * 2 ^ b := by rw [this, Nat.sub_mul, Nat.one_mul]
    rw [h6, e, ← Nat.mul_assoc]; exact Nat.mul_mod_left _ _
   rw [e2, Nat.add_mod, hy, e3]; rfl
  ·rw [if_neg hc] at this
   have h0 : ¬ ((y.toNat : Int) < 0) := by omega
   rw [if_neg h0] at this
   have e2 : (signedQ y b).toNat = y.toNat := by omega
   rw [e2]; exact hy
set_option maxHeartbeats 4000000 in
theorem fits_num (x : BitVec 32) (k : FK) : fitsF (formOf k) (number (formOf k) x) = true := by
 have hq := number_eq x k
 rw [← hq]
 cases k
 ·show fitsF (formOf .R) (numberQ x (fch .R)) = true
  rw [show numberQ x (fch _) = 0#64 from rfl]; rfl
 ·exact fits_sgn (formOf .I) ((fieldQ x 20 12).setWidth 64) 12 0 (.inl rfl) (by decide) (by rw [sw64]; exact fld_lt x 20 12 (by decide)) (Nat.mod_one _) (BitVec.ofInt 64 (-2048)) (BitVec.ofInt 64 2048) (by decide) (by decide) (by kernel_rfl)
 ·show fitsF (formOf .H) ((fieldQ x 20 6).setWidth 64) = true
  have h := fld_lt x 20 6 (by decide)
  have e := sw64 (fieldQ x 20 6)
  generalize (fieldQ x 20 6).setWidth 64 = n at *
  show (BitVec.sle 0#64 n && BitVec.slt n 64#64 && ((n &&& 0#64) == 0#64)) = true
  have hn : n.toInt = (n.toNat : Int) := by rw [BitVec.toInt_eq_toNat_cond]; split <;> omega
  have h0 : (0#64).toInt = 0 := rfl
  have h64 : (64#64).toInt = 64 := rfl
  simp only [BitVec.sle, BitVec.slt, hn, h0, h64, BitVec.and_zero, Bool.and_eq_true, decide_eq_true_eq]
  exact ⟨⟨by omega, by omega⟩, by decide⟩
 ·show fitsF (formOf .W) ((fieldQ x 20 5).setWidth 64) = true
  have h := fld_lt x 20 5 (by decide)
  have e := sw64 (fieldQ x 20 5)
  generalize (fieldQ x 20 5).setWidth 64 = n at *
  show (BitVec.sle 0#64 n && BitVec.slt n 32#64 && ((n &&& 0#64) == 0#64)) = true
  have hn : n.toInt = (n.toNat : Int) := by rw [BitVec.toInt_eq_toNat_cond]; split <;> omega
  have h0 : (0#64).toInt = 0 := rfl
  have h32 : (32#64).toInt = 32 := rfl
  simp only [BitVec.sle, BitVec.slt, hn, h0, h32, BitVec.and_zero, Bool.and_eq_true, decide_eq_true_eq]
  exact ⟨⟨by omega, by omega⟩, by decide⟩
 ·obtain ⟨h1, h2⟩ := num_S (fieldQ x 25 7) (fieldQ x 7 5) (fld_lt x 25 7 (by decide)) (fld_lt x 7 5 (by decide))
  exact fits_sgn (formOf .S) ((fieldQ x 25 7 <<< 5 ||| fieldQ x 7 5).setWidth 64) 12 0 (.inl G) (by decide) h2 (Nat.mod_one _) (BitVec.ofInt 64 (-2048)) (BitVec.ofInt 64 2048) (by decide) (by decide) (by kernel_rfl)
 ·obtain ⟨h1, h2⟩ := num_B (fieldQ x 31 1) (fieldQ x 7 1) (fieldQ x 25 6) (fieldQ x 8 4) (fld_lt x 31 1 (by decide)) (fld_lt x 7 1 (by decide)) (fld_lt x 25 6 (by decide)) (fld_lt x 8 4 (by decide))
  refine fits_sgn (formOf .B) ((fieldQ x 31 1 <<< 12 ||| fieldQ x 7 1 <<< 11 ||| fieldQ x 25 6 <<< 5 ||| fieldQ x 8 4 <<< 1).setWidth 64) 13 1 (.inr (.inl G)) (by decide) h2 ?_ (BitVec.ofInt 64 (-4096)) (BitVec.ofInt 64 4096) (by decide) (by decide) (by kernel_rfl)
  rw [h1, BitVec.toNat_shiftLeft, Nat.shiftLeft_eq]; omega
 ·have h := fld_lt x 12 20 (by decide)
  have h2 : ((fieldQ x 12 20).setWidth 64 <<< 12).toNat < 2 ^ 32 := by rw [sl64 _ 12 (by rw [sw64]; omega), sw64]; omega
  refine fits_sgn (formOf .U) ((fieldQ x 12 20).setWidth 64 <<< 12) 32 12 (.inr (.inr (.inr G))) (by decide) h2 ?_ (BitVec.ofInt 64 (-2147483648)) (BitVec.ofInt 64 2147483648) (by decide) (by decide) (by kernel_rfl)
  rw [BitVec.toNat_shiftLeft, Nat.shiftLeft_eq]; omega
 ·obtain ⟨h1, h2⟩ := num_J (fieldQ x 31 1) (fieldQ x 12 8) (fieldQ x 20 1) (fieldQ x 21 10) (fld_lt x 31 1 (by decide)) (fld_lt x 12 8 (by decide)) (fld_lt x 20 1 (by decide)) (fld_lt x 21 10 (by decide))
  refine fits_sgn (formOf .J) ((fieldQ x 31 1 <<< 20 ||| fieldQ x 12 8 <<< 12 ||| fieldQ x 20 1 <<< 11 ||| fieldQ x 21 10 <<< 1).setWidth 64) 21 1 (.inr (.inr (.inl G))) (by decide) h2 ?_ (BitVec.ofInt 64 (-1048576)) (BitVec.ofInt 64 1048576) (by decide) (by decide) (by kernel_rfl)
  rw [h1, BitVec.toNat_shiftLeft, Nat.shiftLeft_eq]; omega
 ·show fitsF (formOf .E) (numberQ x (fch .E)) = true
  rw [show numberQ x (fch _) = 0#64 from rfl]; rfl
 ·show fitsF (formOf .Z) (numberQ x (fch .Z)) = true
  rw [show numberQ x (fch _) = 0#64 from rfl]; rfl
theorem num_none (x : BitVec 32) (k : FK) (h : (formOf k).imm.length = 0) : number (formOf k) x = 0#64 := by
 cases k <;> first | (exfalso; revert h; decide) | kernel_rfl
theorem may_reg (has : Bool) (q : Nat) (x : BitVec 32) : mayF has (decReg has (q, 5) x) = true := by
 have h := decReg_lt has q x
 unfold mayF
 have h1 : BitVec.ult (decReg has (q, 5) x) 32#8 = true := by unfold BitVec.ult; exact decide_eq_true (by show _ < 32; exact h)
 rw [h1]
 cases has
 ·rfl
 ·rfl
theorem enc_dec {x : BitVec 32} {i : Nat} (h0 : 1 ≤ i) (h : i < 66) : (encodeR (decodeAt i x)).2 = 0 := by
 have ho : (decodeAt i x).op.toNat = i := by show (BitVec.ofNat 8 i).toNat = i; rw [BitVec.toNat_ofNat]; omega
 have hb : encBad (decodeAt i x) = false := by
  unfold encBad
  rw [ho]
  have h1 : mayF (formOf (rvAt i).k).rd (decodeAt i x).rd = true := may_reg _ 7 x
  have h2 : mayF (formOf (rvAt i).k).rs1 (decodeAt i x).rs1 = true := may_reg _ 15 x
  have h3 : mayF (formOf (rvAt i).k).rs2 (decodeAt i x).rs2 = true := may_reg _ 20 x
  rw [h1, h2, h3]
  rcases hl : (((((formOf (rvAt i).k).imm.length : Nat) : Int) == (0 : Int))) with _ | _
  ·rfl
  ·have : (formOf (rvAt i).k).imm.length = 0 := by simpa using hl
   have hz : (decodeAt i x).imm = 0#64 := num_none x (rvAt i).k this
   rw [hz]; rfl
 have hf : fitsF (formOf (rvAt (decodeAt i x).op.toNat).k) (decodeAt i x).imm = true := by rw [ho]; exact fits_num x _
 unfold encodeR
 rw [if_neg (by rw [ho]; omega), hb, hf]; rfl
theorem writes_dec {x : BitVec 32} {i : Nat} (h0 : 1 ≤ i) (h : i < 66) : writesF (decodeAt i x) = !((decodeAt i x).rd == 0#8) := by
 have ho : (decodeAt i x).op.toNat = i := by show (BitVec.ofNat 8 i).toNat = i; rw [BitVec.toNat_ofNat]; omega
 rw [writes_of (enc_dec h0 h), ho]
 have e : (decodeAt i x).rd = decReg (formOf (rvAt i).k).rd (7, 5) x := rfl
 rw [e]
 cases (formOf (rvAt i).k).rd <;> rfl
def c0 (i : Nat) : BitVec 8 := ((rvAt i).name.getD 0 0).toBitVec
def cL (i : Nat) : BitVec 8 := ((rvAt i).name.getD ((rvAt i).name.length - 1) 0).toBitVec
theorem say_loads : ((List.range 66).all fun i => !(decide (0 < (loadsM i).1)) || ((c0 i == 108#8) && (sizeQ (rvAt i).name == (loadsM i).1) && ((cL i != 117#8) == (loadsM i).2))) = true := by kernel_rfl
theorem say_stores : ((List.range 66).all fun i => !(decide (18 ≤ i ∧ i ≤ 21)) || ((c0 i == 115#8) && !(c0 i == 108#8) && (sizeQ (rvAt i).name == 2 ^ (i - 18)))) = true := by kernel_rfl
theorem say_else : ((List.range 66).all fun i => decide (0 < (loadsM i).1) || decide (18 ≤ i ∧ i ≤ 21) || i == 64 || i == 65 || i == 0 || ((sizeQ (rvAt i).name == 0) && !(c0 i == 101#8))) = true := by kernel_rfl
theorem say_call : (c0 64 == 108#8) = false ∧ (c0 64 == 115#8) = false ∧ (c0 64 == 101#8) = true := by decide
theorem say_fence : ((List.range 66).all fun i => ((rvAt i).name == [102, 101, 110, 99, 101]) == (i == 63)) = true := by kernel_rfl
theorem say_break : ((List.range 66).all fun i => ((rvAt i).name == [101, 98, 114, 101, 97, 107]) == (i == 65)) = true := by kernel_rfl
theorem say_long : ((List.range 66).all fun i => i == 0 || decide (0 < (rvAt i).name.length)) = true := by kernel_rfl
theorem loads_size {i : Nat} (h : 0 < (loadsM i).1) : (loadsM i).1 = 1 ∨ (loadsM i).1 = 2 ∨ (loadsM i).1 = 4 ∨ (loadsM i).1 = 8 := by
 unfold loadsM at h ⊢
 split at h <;> first | (exfalso; revert h; decide) | decide
end Go.Proofs.S
end
section
set_option linter.unusedSimpArgs false
set_option linter.unusedVariables false
namespace Go.Proofs.S
open Go Go.Ux Go.Ux.Mach Go.Proofs
theorem ca47 : callable Tryz.prog 47 = true := by kernel_rfl
theorem fo70_5 : fieldOff Tryz.prog 70 5 = some 36 := by kernel_rfl
theorem ca39 : callable Tryz.prog 39 = true := by kernel_rfl
theorem ca43 : callable Tryz.prog 43 = true := by kernel_rfl
theorem ca24 : callable Tryz.prog 24 = true := by kernel_rfl
theorem ca44 : callable Tryz.prog 44 = true := by kernel_rfl
theorem ca45 : callable Tryz.prog 45 = true := by kernel_rfl
theorem ca46 : callable Tryz.prog 46 = true := by kernel_rfl
open Go.Ux.Image
noncomputable def mid26 : Code := match Tryz.f26.body with
 | some c => codeFrom 12 c
 | none => .skip
noncomputable def tail26 : Code := match Tryz.f26.body with
 | some c => codeFrom 13 c
 | none => .skip
abbrev Fin26 (S : Value → World → Prop) : Exit → Fr → World → Prop := Ux.Fin Tryz.prog Tryz.f26 165 S
def putQ (M : MS) (nm : List UInt8) (rd : BitVec 8) (v nx : BitVec 64) : MS := { putR M (if (nm == [102, 101, 110, 99, 101]) = true then 0#8 else rd) v with pc := nx }
theorem loadRR_some (T : Nat → Nat) (b : Nat) (M : MS) (ws : List (BitVec 32)) (w : World) (h : RR T w b M ws) (addr : BitVec 64) (z : Nat) (k : Bool) (o : Nat) (hz : z = 1 ∨ z = 2 ∨ z = 4 ∨ z = 8) (hW : whereM M.n addr z = some (k, o)) :
  CallsR Tryz.prog 24 #[ptr b 0, U64 addr, IN z] w (fun v w' => v = .tuple #[U64 (loadB (if k then M.d else M.s) o z), .bool true] ∧ Ext w w') := by
 obtain ⟨cv, dv, sv, iv, ev, hb, ht⟩ := h
 have h1 := whereR_some hz hW
 have h2 := whereM_le hW
 cases k
 ·have := load_r2 addr z o b cv dv sv iv M.x M.pc ev M.fin.isSome (M.fin == some true) (I64 M.steps) M.n M.d M.s w hb ht.data.sl ht.n_le ht.stk.sl hz h1 h2
  rw [loadT_eq] at this; exact this
 ·have := load_r1 addr z o b cv dv sv iv M.x M.pc ev M.fin.isSome (M.fin == some true) (I64 M.steps) M.n M.d M.s w hb ht.data.sl ht.n_le ht.stk.sl hz h1 h2
  rw [loadT_eq] at this; exact this
theorem loadRR_none (T : Nat → Nat) (b : Nat) (M : MS) (ws : List (BitVec 32)) (w : World) (h : RR T w b M ws) (addr : BitVec 64) (z : Nat) (hz : z = 1 ∨ z = 2 ∨ z = 4 ∨ z = 8) (hW : whereM M.n addr z = none) :
  CallsR Tryz.prog 24 #[ptr b 0, U64 addr, IN z] w (fun v w' => v = .tuple #[U64 0#64, .bool false] ∧ Ext w w') := by
 obtain ⟨cv, dv, sv, iv, ev, hb, ht⟩ := h
 exact load_r0 addr z b cv dv sv iv M.x M.pc ev M.fin.isSome (M.fin == some true) (I64 M.steps) M.n M.d (fun _ => 0#8) w hb ht.data.sl ht.n_le hz (whereR_none hz hW)
theorem storeRR_some (T : Nat → Nat) (b : Nat) (M : MS) (ws : List (BitVec 32)) (w : World) (h : RR T w b M ws) (addr q : BitVec 64) (z : Nat) (k : Bool) (o : Nat) (hz : z = 1 ∨ z = 2 ∨ z = 4 ∨ z = 8) (hW : whereM M.n addr z = some (k, o)) :
  CallsR Tryz.prog 45 #[ptr b 0, U64 addr, IN z, U64 q] w (fun v w' => v = .bool true ∧ TurnR T w b (storeM M k o z q) ws w') := by
 cases k
 ·exact storeR_false T b M ws w h addr q z hz o hW
 ·exact storeR_true T b M ws w h addr q z hz o hW
theorem tailR_ok (T : Nat → Nat) (b : Nat) (M : MS) (ws : List (BitVec 32)) (nm : List UInt8) (y nx : BitVec 64) (rd : BitVec 8) (S : Value → World → Prop) (f : Fr) (w : World) (hM : RR T w b M ws) (f0 : f 0 = ptr b 0) (f6 : f 6 = St nm) (f9 : f 9 = U64 y) (f10 : f 10 = U64 nx) (f12 : f 12 = U8 rd) (f11 : f 11 = .bool true) (hr : rd.toNat < 32) (hS : ∀ w', TurnR T w b (putQ M nm rd y nx) ws w' → S (.bool true) w') : WC Tryz.prog tail26 165 f w (Fin26 S) := by
 refine Sq (Sr (Mv (St nm) f6 (Bn (vy := St [102, 101, 110, 99, 101]) G G BinR.eqlS (Ni ?_))))
 refine WC.cond G (fun hc152 => ?_) (fun hc152 => ?_)
 ·refine Rg (An (U8 (0#8)) G (Ni (Sq (Sr (Mv (.bool true) f11 (WL.un G G UnR.not (Ni (Cf G ?_))))))))
  refine WC.skip (Sr (Mv (ptr b 0) f0 (Mv (U8 (0#8)) G (Mv (U64 y) f9 (WL.call ca47 G G (put_q T b M ws _ hM (0#8) y (by decide)) ?_)))))
  rintro v160 w1 ⟨T1, hR1, mp1, hs1⟩
  obtain ⟨M1, hM1⟩ : ∃ M1, M1 = putR M (0#8) y := ⟨_, rfl⟩
  rw [← hM1] at hR1
  obtain ⟨cv, dv, sv, iv, ev, hb, ht⟩ := hR1
  refine Ni (Sr (Mv (ptr b 0) f0 (Mv (U64 nx) f10 (WL.nilCheck G G (Fa G fo70_5 (WL.storeB (v := U64 nx) G G G sz39 hb (Nat.le_of_ble_eq_true G) ?_))))))
  intro ws1 ms1 bs1 zs1
  have E1 : Mod (fun k => T1 k = 1) w1 ws1 := (ms1.imp (fun i _ e => by subst e; exact ht.tb))
  refine Ni (Sr (An (.bool true) G (Ni (WC.ret ?_))))
  have htn : TurnR T w b (putQ M nm rd y nx) ws ws1 := by
   have hq : putQ M nm rd y nx = { M1 with pc := nx } := by unfold putQ; rw [hM1, hc152]; rfl
   rw [hq]; exact TurnR.trans mp1 hs1 (TurnR.own ⟨cv, dv, sv, iv, ev, bs1, (ht.own E1).regs M1.x nx M1.steps M1.fin⟩ (Mod.fp E1))
  exact ⟨_, Res.one (v := .bool true) G G, hS _ htn⟩
 ·refine WC.skip (Sq (Sr (Mv (.bool true) f11 (WL.un G G UnR.not (Ni (Cf G (WC.skip (Sq ?_))))))))
  refine Rg (Mv (ptr b 0) f0 (Mv (U8 rd) f12 (Mv (U64 y) f9 (WL.call ca47 G G (put_q T b M ws _ hM rd y hr) ?_))))
  rintro v160 w1 ⟨T1, hR1, mp1, hs1⟩
  obtain ⟨M1, hM1⟩ : ∃ M1, M1 = putR M rd y := ⟨_, rfl⟩
  rw [← hM1] at hR1
  obtain ⟨cv, dv, sv, iv, ev, hb, ht⟩ := hR1
  refine Ni (Sr (Mv (ptr b 0) f0 (Mv (U64 nx) f10 (WL.nilCheck G G (Fa G fo70_5 (WL.storeB (v := U64 nx) G G G sz39 hb (Nat.le_of_ble_eq_true G) ?_))))))
  intro ws2 ms2 bs2 zs2
  have E2 : Mod (fun k => T1 k = 1) w1 ws2 := (ms2.imp (fun i _ e => by subst e; exact ht.tb))
  refine Ni (Sr (An (.bool true) G (Ni (WC.ret ?_))))
  have htn : TurnR T w b (putQ M nm rd y nx) ws ws2 := by
   have hq : putQ M nm rd y nx = { M1 with pc := nx } := by unfold putQ; rw [hM1, hc152]; rfl
   rw [hq]; exact TurnR.trans mp1 hs1 (TurnR.own ⟨cv, dv, sv, iv, ev, bs2, (ht.own E2).regs M1.x nx M1.steps M1.fin⟩ (Mod.fp E2))
  exact ⟨_, Res.one (v := .bool true) G G, hS _ htn⟩
theorem tailR_no (T : Nat → Nat) (b : Nat) (M : MS) (ws : List (BitVec 32)) (nm : List UInt8) (y nx : BitVec 64) (rd : BitVec 8) (S : Value → World → Prop) (f : Fr) (w : World) (hM : RR T w b M ws) (f0 : f 0 = ptr b 0) (f6 : f 6 = St nm) (f9 : f 9 = U64 y) (f10 : f 10 = U64 nx) (f12 : f 12 = U8 rd) (f11 : f 11 = .bool false) (hS : ∀ w', TurnR T w b { M with fin := some true } ws w' → S (.bool true) w') : WC Tryz.prog tail26 165 f w (Fin26 S) := by
 refine Sq (Sr (Mv (St nm) f6 (Bn (vy := St [102, 101, 110, 99, 101]) G G BinR.eqlS (Ni ?_))))
 refine WC.cond G (fun hc152 => ?_) (fun hc152 => ?_)
 ·refine Rg (An (U8 (0#8)) G (Ni (Sq (Sr (Mv (.bool false) f11 (WL.un G G UnR.not (Ni (Ct G ?_))))))))
  refine Sr (Mv (ptr b 0) f0 (WL.call ca39 G G (trap_q T b M ws _ hM) ?_))
  rintro v155 w1 htn
  refine Ni (Sr (An (.bool true) G (Ni (WC.ret ?_))))
  exact ⟨_, Res.one (v := .bool true) G G, hS _ htn⟩
 ·refine WC.skip (Sq (Sr (Mv (.bool false) f11 (WL.un G G UnR.not (Ni (Ct G (Sr ?_)))))))
  refine Mv (ptr b 0) f0 (WL.call ca39 G G (trap_q T b M ws _ hM) ?_)
  rintro v155 w1 htn
  refine Ni (Sr (An (.bool true) G (Ni (WC.ret ?_))))
  exact ⟨_, Res.one (v := .bool true) G G, hS _ htn⟩
theorem TurnR.pre {T : Nat → Nat} {w w1 w' : World} {b : Nat} {M : MS} {ws : List (BitVec 32)} (m : Ext w w1) (h : TurnR T w1 b M ws w') : TurnR T w b M ws w' := TurnR.trans (Mod.ext m) (fun _ h => .inl h) h
theorem mid_l0 (T : Nat → Nat) (b b4 : Nat) (M : MS) (ws : List (BitVec 32)) (a : RvInst) (nm : List UInt8) (p q y nx : BitVec 64) (S : Value → World → Prop) (f : Fr) (w : World) (hM : RR T w b M ws) (f0 : f 0 = ptr b 0) (f4 : f 4 = ptr b4 0) (f6 : f 6 = St nm) (f7 : f 7 = U64 p) (f8 : f 8 = U64 q) (f9 : f 9 = U64 y) (f10 : f 10 = U64 nx) (f11 : f 11 = .bool true) (f12 : f 12 = U8 a.rd) (h4 : Blk w b4 #[U8 a.op, U8 a.rd, U8 a.rs1, U8 a.rs2, I64 a.imm] 104) (hl0 : 0 < nm.length) (hr : a.rd.toNat < 32) (k1 : ((nm.getD 0 0).toBitVec == 108#8) = true) (k2 : ((nm.getD 0 0).toBitVec == 115#8) = false) (k3 : ((nm.getD 0 0).toBitVec == 101#8) = false) (z : Nat) (hz : sizeQ nm = z) (h0 : z = 0) (hS : ∀ w', TurnR T w b (putQ M nm a.rd y nx) ws w' → S (.bool true) w') : WC Tryz.prog mid26 165 f w (Fin26 S) := by
 refine Sq (Sr (Mv (St nm) f6 (WL.indexSt (i := 0) Tryz.underlying9 G G hl0 G (Ni (Bk (Sr (Bn (v := .bool true) (vy := U8 (108#8)) G G (BinR.toB BinR.eqlU8 k1) ?_)))))))
 refine An (.bool true) G (Ni (Ct G (Sr (Mv (St nm) f6 (WL.call ca43 G G (size_q nm _) ?_)))))
 rintro _ wz108 ⟨rfl, ez108⟩
 rw [hz]
 have E1 : Ext w wz108 := ez108
 refine Bn (v := .bool false) G G (BinR.toB BinR.gtr (decide_eq_false (by omega))) (Ni (Cf G (WC.skip ?_)))
 exact tailR_ok T b M ws nm _ nx a.rd S _ _ (hM.ext E1) f0 f6 f9 f10 f12 f11 hr (fun w2 h => hS w2 (TurnR.pre E1 h))
theorem mid_s0 (T : Nat → Nat) (b b4 : Nat) (M : MS) (ws : List (BitVec 32)) (a : RvInst) (nm : List UInt8) (p q y nx : BitVec 64) (S : Value → World → Prop) (f : Fr) (w : World) (hM : RR T w b M ws) (f0 : f 0 = ptr b 0) (f4 : f 4 = ptr b4 0) (f6 : f 6 = St nm) (f7 : f 7 = U64 p) (f8 : f 8 = U64 q) (f9 : f 9 = U64 y) (f10 : f 10 = U64 nx) (f11 : f 11 = .bool true) (f12 : f 12 = U8 a.rd) (h4 : Blk w b4 #[U8 a.op, U8 a.rd, U8 a.rs1, U8 a.rs2, I64 a.imm] 104) (hl0 : 0 < nm.length) (hr : a.rd.toNat < 32) (k1 : ((nm.getD 0 0).toBitVec == 108#8) = false) (k2 : ((nm.getD 0 0).toBitVec == 115#8) = true) (k3 : ((nm.getD 0 0).toBitVec == 101#8) = false) (z : Nat) (hz : sizeQ nm = z) (h0 : z = 0) (hS : ∀ w', TurnR T w b (putQ M nm a.rd y nx) ws w' → S (.bool true) w') : WC Tryz.prog mid26 165 f w (Fin26 S) := by
 refine Sq (Sr (Mv (St nm) f6 (WL.indexSt (i := 0) Tryz.underlying9 G G hl0 G (Ni (Bk (Sr (Bn (v := .bool false) (vy := U8 (108#8)) G G (BinR.toB BinR.eqlU8 k1) ?_)))))))
 refine An (.bool false) G (Ni (Cf G (Sr (Bn (v := .bool true) (vy := U8 (115#8)) G G (BinR.toB BinR.eqlU8 k2) (An (.bool true) G (Ni (Ct G (Sq ?_))))))))
 refine Rg (Mv (St nm) f6 (WL.call ca43 G G (size_q nm _) ?_))
 rintro _ wz135 ⟨rfl, ez135⟩
 rw [hz]
 have E1 : Ext w wz135 := ez135
 refine Bn (v := .bool false) G G (BinR.toB BinR.gtr (decide_eq_false (by omega))) (Ni (Cf G (WC.skip ?_)))
 exact tailR_ok T b M ws nm _ nx a.rd S _ _ (hM.ext E1) f0 f6 f9 f10 f12 f11 hr (fun w2 h => hS w2 (TurnR.pre E1 h))
theorem mid_o0 (T : Nat → Nat) (b b4 : Nat) (M : MS) (ws : List (BitVec 32)) (a : RvInst) (nm : List UInt8) (p q y nx : BitVec 64) (S : Value → World → Prop) (f : Fr) (w : World) (hM : RR T w b M ws) (f0 : f 0 = ptr b 0) (f4 : f 4 = ptr b4 0) (f6 : f 6 = St nm) (f7 : f 7 = U64 p) (f8 : f 8 = U64 q) (f9 : f 9 = U64 y) (f10 : f 10 = U64 nx) (f11 : f 11 = .bool true) (f12 : f 12 = U8 a.rd) (h4 : Blk w b4 #[U8 a.op, U8 a.rd, U8 a.rs1, U8 a.rs2, I64 a.imm] 104) (hl0 : 0 < nm.length) (hr : a.rd.toNat < 32) (k1 : ((nm.getD 0 0).toBitVec == 108#8) = false) (k2 : ((nm.getD 0 0).toBitVec == 115#8) = false) (k3 : ((nm.getD 0 0).toBitVec == 101#8) = false) (hS : ∀ w', TurnR T w b (putQ M nm a.rd y nx) ws w' → S (.bool true) w') : WC Tryz.prog mid26 165 f w (Fin26 S) := by
 refine Sq (Sr (Mv (St nm) f6 (WL.indexSt (i := 0) Tryz.underlying9 G G hl0 G (Ni (Bk (Sr (Bn (v := .bool false) (vy := U8 (108#8)) G G (BinR.toB BinR.eqlU8 k1) ?_)))))))
 refine An (.bool false) G (Ni (Cf G (Sr (Bn (v := .bool false) (vy := U8 (115#8)) G G (BinR.toB BinR.eqlU8 k2) (An (.bool false) G (Ni (Cf G (Sq ?_))))))))
 refine Rg (Bn (v := .bool false) (vy := U8 (101#8)) G G (BinR.toB BinR.eqlU8 k3) (An (.bool false) G (Ni (Cf G (WC.skip ?_)))))
 exact tailR_ok T b M ws nm _ nx a.rd S _ _ hM f0 f6 f9 f10 f12 f11 hr hS
theorem mid_load_true (T : Nat → Nat) (b b4 : Nat) (M : MS) (ws : List (BitVec 32)) (a : RvInst) (nm : List UInt8) (p q y nx : BitVec 64) (S : Value → World → Prop) (f : Fr) (w : World) (hM : RR T w b M ws) (f0 : f 0 = ptr b 0) (f4 : f 4 = ptr b4 0) (f6 : f 6 = St nm) (f7 : f 7 = U64 p) (f8 : f 8 = U64 q) (f9 : f 9 = U64 y) (f10 : f 10 = U64 nx) (f11 : f 11 = .bool true) (f12 : f 12 = U8 a.rd) (h4 : Blk w b4 #[U8 a.op, U8 a.rd, U8 a.rs1, U8 a.rs2, I64 a.imm] 104) (hl0 : 0 < nm.length) (hr : a.rd.toNat < 32) (k1 : ((nm.getD 0 0).toBitVec == 108#8) = true) (k2 : ((nm.getD 0 0).toBitVec == 115#8) = false) (k3 : ((nm.getD 0 0).toBitVec == 101#8) = false) (z : Nat) (hz : sizeQ nm = z) (hzz : z = 1 ∨ z = 2 ∨ z = 4 ∨ z = 8) (hl9 : nm.length ≤ 1000) (hsg : ((nm.getD (nm.length - 1) 0).toBitVec != 117#8) = true) (k : Bool) (o : Nat) (hW : whereM M.n (p + a.imm) z = some (k, o)) (hS : ∀ w', TurnR T w b (putQ M nm a.rd (loadV M.d M.s k o z true) nx) ws w' → S (.bool true) w') : WC Tryz.prog mid26 165 f w (Fin26 S) := by
 refine Sq (Sr (Mv (St nm) f6 (WL.indexSt (i := 0) Tryz.underlying9 G G hl0 G (Ni (Bk (Sr (Bn (v := .bool true) (vy := U8 (108#8)) G G (BinR.toB BinR.eqlU8 k1) ?_)))))))
 refine An (.bool true) G (Ni (Ct G (Sr (Mv (St nm) f6 (WL.call ca43 G G (size_q nm _) ?_)))))
 rintro _ wz108 ⟨rfl, ez108⟩
 rw [hz]
 have E1 : Ext w wz108 := ez108
 refine Bn (v := .bool true) G G (BinR.toB BinR.gtr (decide_eq_true (by omega))) (Ni (Ct G (Sq (WC.draw (fun w_ => Ext wz108 w_) 14 G mixed ?_))))
 intro wd_20 ed_20
 have R2 : Ext wz108 wd_20 := ed_20
 have E3 := Mt E1 ed_20
 refine Tk 0 (ptr b 0) G G (fun _ _ => Mv (ptr b 0) f0 Ok) R2 (Tk 1 (U64 p) G G (fun _ _ => Mv (U64 p) f7 Ok) R2 (Tk 2 (ptr b4 4) G G (fun _ _ => Fa f4 fo104_4 Ok) R2 (Tk 3 (I64 a.imm) G G (fun _ hS => Lo G ag2 (((h4.ext ez108).ext hS).cell (j := 4) G) Ok) R2 (Tk 4 (U64 a.imm) G G (fun _ _ => Cv G (ConvR.i64u64 Tryz.underlying2 Tryz.underlying39) Ok) R2 (Tk 5 (U64 ((p + a.imm))) G G (fun _ _ => Bn G G BinR.addU64 Ok) R2 (Tk 6 (St nm) G G (fun _ _ => Mv (St nm) f6 Ok) R2 (WA.one (i := 7) (m' := 255) (by kernel_rfl) G G (WL.call ca43 G G (size_q nm _) ?_))))))))
 rintro _ wz118 ⟨rfl, ez118⟩
 rw [hz]
 have R12 := Mt R2 ez118
 have E13 := Mt E3 ez118
 refine WL.behind R12 (WA.one (i := 8) (m' := 511) (by kernel_rfl) G G (WL.call ca24 G G (loadRR_some T b M ws _ (hM.ext E13) (p + a.imm) z k o hzz hW) ?_))
 rintro _ wl ⟨rfl, el⟩
 have R14 := Mt R12 el
 have E15 := Mt E13 el
 refine WL.behind R14 (Tk 9 (.tuple #[U64 ((loadB (if k then M.d else M.s) o z)), .bool true]) G G (fun _ _ => Mv _ G Ok) R14 (Tk 10 (U64 ((loadB (if k then M.d else M.s) o z))) G G (fun _ _ => Et G G Ok) R14 (Tk 11 (.bool true) G G (fun _ _ => Et G G Ok) R14 (Tk 12 (U64 ((loadB (if k then M.d else M.s) o z))) G G (fun _ _ => An _ G Ok) R14 (Tk 13 (.bool true) G G (fun _ _ => An _ G Ok) R14 (WA.done (by kernel_rfl) (Sr (Mv (St nm) f6 ?_))))))))
 refine Mv (St nm) f6 (WL.lenSt Tryz.underlying9 G G (Bn G G (BinR.subN (b := 1) (by omega) (by omega)) (WL.indexSt (i := nm.length - 1) Tryz.underlying9 G G (by omega) G (Bn (v := .bool true) (vy := U8 (117#8)) G G (BinR.toB BinR.neqU8 hsg) (Ni (Ct G (Rg (Mv (U64 ((loadB (if k then M.d else M.s) o z))) G (Mv (St nm) f6 ?_)))))))))
 refine WL.call ca43 G G (size_q nm _) ?_
 rintro _ wz130 ⟨rfl, ez130⟩
 rw [hz]
 have E21 := Mt E15 ez130
 refine WL.call ca44 G G (wide_q ((loadB (if k then M.d else M.s) o z)) z _ (by omega)) ?_
 rintro _ ww ⟨rfl, eww⟩
 have E22 := Mt E21 eww
 refine An (U64 ((signW ((loadB (if k then M.d else M.s) o z)) (8 * z)))) G (Ni ?_)
 exact tailR_ok T b M ws nm _ nx a.rd S _ _ (hM.ext E22) f0 f6 G f10 f12 G hr (fun w2 h => hS w2 (TurnR.pre E22 h))
theorem mid_load_false (T : Nat → Nat) (b b4 : Nat) (M : MS) (ws : List (BitVec 32)) (a : RvInst) (nm : List UInt8) (p q y nx : BitVec 64) (S : Value → World → Prop) (f : Fr) (w : World) (hM : RR T w b M ws) (f0 : f 0 = ptr b 0) (f4 : f 4 = ptr b4 0) (f6 : f 6 = St nm) (f7 : f 7 = U64 p) (f8 : f 8 = U64 q) (f9 : f 9 = U64 y) (f10 : f 10 = U64 nx) (f11 : f 11 = .bool true) (f12 : f 12 = U8 a.rd) (h4 : Blk w b4 #[U8 a.op, U8 a.rd, U8 a.rs1, U8 a.rs2, I64 a.imm] 104) (hl0 : 0 < nm.length) (hr : a.rd.toNat < 32) (k1 : ((nm.getD 0 0).toBitVec == 108#8) = true) (k2 : ((nm.getD 0 0).toBitVec == 115#8) = false) (k3 : ((nm.getD 0 0).toBitVec == 101#8) = false) (z : Nat) (hz : sizeQ nm = z) (hzz : z = 1 ∨ z = 2 ∨ z = 4 ∨ z = 8) (hl9 : nm.length ≤ 1000) (hsg : ((nm.getD (nm.length - 1) 0).toBitVec != 117#8) = false) (k : Bool) (o : Nat) (hW : whereM M.n (p + a.imm) z = some (k, o)) (hS : ∀ w', TurnR T w b (putQ M nm a.rd (loadV M.d M.s k o z false) nx) ws w' → S (.bool true) w') : WC Tryz.prog mid26 165 f w (Fin26 S) := by
 refine Sq (Sr (Mv (St nm) f6 (WL.indexSt (i := 0) Tryz.underlying9 G G hl0 G (Ni (Bk (Sr (Bn (v := .bool true) (vy := U8 (108#8)) G G (BinR.toB BinR.eqlU8 k1) ?_)))))))
 refine An (.bool true) G (Ni (Ct G (Sr (Mv (St nm) f6 (WL.call ca43 G G (size_q nm _) ?_)))))
 rintro _ wz108 ⟨rfl, ez108⟩
 rw [hz]
 have E1 : Ext w wz108 := ez108
 refine Bn (v := .bool true) G G (BinR.toB BinR.gtr (decide_eq_true (by omega))) (Ni (Ct G (Sq (WC.draw (fun w_ => Ext wz108 w_) 14 G mixed ?_))))
 intro wd_20 ed_20
 have R2 : Ext wz108 wd_20 := ed_20
 have E3 := Mt E1 ed_20
 refine Tk 0 (ptr b 0) G G (fun _ _ => Mv (ptr b 0) f0 Ok) R2 (Tk 1 (U64 p) G G (fun _ _ => Mv (U64 p) f7 Ok) R2 (Tk 2 (ptr b4 4) G G (fun _ _ => Fa f4 fo104_4 Ok) R2 (Tk 3 (I64 a.imm) G G (fun _ hS => Lo G ag2 (((h4.ext ez108).ext hS).cell (j := 4) G) Ok) R2 (Tk 4 (U64 a.imm) G G (fun _ _ => Cv G (ConvR.i64u64 Tryz.underlying2 Tryz.underlying39) Ok) R2 (Tk 5 (U64 ((p + a.imm))) G G (fun _ _ => Bn G G BinR.addU64 Ok) R2 (Tk 6 (St nm) G G (fun _ _ => Mv (St nm) f6 Ok) R2 (WA.one (i := 7) (m' := 255) (by kernel_rfl) G G (WL.call ca43 G G (size_q nm _) ?_))))))))
 rintro _ wz118 ⟨rfl, ez118⟩
 rw [hz]
 have R12 := Mt R2 ez118
 have E13 := Mt E3 ez118
 refine WL.behind R12 (WA.one (i := 8) (m' := 511) (by kernel_rfl) G G (WL.call ca24 G G (loadRR_some T b M ws _ (hM.ext E13) (p + a.imm) z k o hzz hW) ?_))
 rintro _ wl ⟨rfl, el⟩
 have R14 := Mt R12 el
 have E15 := Mt E13 el
 refine WL.behind R14 (Tk 9 (.tuple #[U64 ((loadB (if k then M.d else M.s) o z)), .bool true]) G G (fun _ _ => Mv _ G Ok) R14 (Tk 10 (U64 ((loadB (if k then M.d else M.s) o z))) G G (fun _ _ => Et G G Ok) R14 (Tk 11 (.bool true) G G (fun _ _ => Et G G Ok) R14 (Tk 12 (U64 ((loadB (if k then M.d else M.s) o z))) G G (fun _ _ => An _ G Ok) R14 (Tk 13 (.bool true) G G (fun _ _ => An _ G Ok) R14 (WA.done (by kernel_rfl) (Sr (Mv (St nm) f6 ?_))))))))
 refine Mv (St nm) f6 (WL.lenSt Tryz.underlying9 G G (Bn G G (BinR.subN (b := 1) (by omega) (by omega)) (WL.indexSt (i := nm.length - 1) Tryz.underlying9 G G (by omega) G (Bn (v := .bool false) (vy := U8 (117#8)) G G (BinR.toB BinR.neqU8 hsg) (Ni (Cf G (WC.skip ?_)))))))
 exact tailR_ok T b M ws nm _ nx a.rd S _ _ (hM.ext E15) f0 f6 G f10 f12 G hr (fun w2 h => hS w2 (TurnR.pre E15 h))
theorem mid_loadno (T : Nat → Nat) (b b4 : Nat) (M : MS) (ws : List (BitVec 32)) (a : RvInst) (nm : List UInt8) (p q y nx : BitVec 64) (S : Value → World → Prop) (f : Fr) (w : World) (hM : RR T w b M ws) (f0 : f 0 = ptr b 0) (f4 : f 4 = ptr b4 0) (f6 : f 6 = St nm) (f7 : f 7 = U64 p) (f8 : f 8 = U64 q) (f9 : f 9 = U64 y) (f10 : f 10 = U64 nx) (f11 : f 11 = .bool true) (f12 : f 12 = U8 a.rd) (h4 : Blk w b4 #[U8 a.op, U8 a.rd, U8 a.rs1, U8 a.rs2, I64 a.imm] 104) (hl0 : 0 < nm.length) (hr : a.rd.toNat < 32) (k1 : ((nm.getD 0 0).toBitVec == 108#8) = true) (k2 : ((nm.getD 0 0).toBitVec == 115#8) = false) (k3 : ((nm.getD 0 0).toBitVec == 101#8) = false) (z : Nat) (hz : sizeQ nm = z) (hzz : z = 1 ∨ z = 2 ∨ z = 4 ∨ z = 8) (hl9 : nm.length ≤ 1000) (hW : whereM M.n (p + a.imm) z = none) (hS : ∀ w', TurnR T w b ({ M with fin := some true }) ws w' → S (.bool true) w') : WC Tryz.prog mid26 165 f w (Fin26 S) := by
 refine Sq (Sr (Mv (St nm) f6 (WL.indexSt (i := 0) Tryz.underlying9 G G hl0 G (Ni (Bk (Sr (Bn (v := .bool true) (vy := U8 (108#8)) G G (BinR.toB BinR.eqlU8 k1) ?_)))))))
 refine An (.bool true) G (Ni (Ct G (Sr (Mv (St nm) f6 (WL.call ca43 G G (size_q nm _) ?_)))))
 rintro _ wz108 ⟨rfl, ez108⟩
 rw [hz]
 have E1 : Ext w wz108 := ez108
 refine Bn (v := .bool true) G G (BinR.toB BinR.gtr (decide_eq_true (by omega))) (Ni (Ct G (Sq (WC.draw (fun w_ => Ext wz108 w_) 14 G mixed ?_))))
 intro wd_20 ed_20
 have R2 : Ext wz108 wd_20 := ed_20
 have E3 := Mt E1 ed_20
 refine Tk 0 (ptr b 0) G G (fun _ _ => Mv (ptr b 0) f0 Ok) R2 (Tk 1 (U64 p) G G (fun _ _ => Mv (U64 p) f7 Ok) R2 (Tk 2 (ptr b4 4) G G (fun _ _ => Fa f4 fo104_4 Ok) R2 (Tk 3 (I64 a.imm) G G (fun _ hS => Lo G ag2 (((h4.ext ez108).ext hS).cell (j := 4) G) Ok) R2 (Tk 4 (U64 a.imm) G G (fun _ _ => Cv G (ConvR.i64u64 Tryz.underlying2 Tryz.underlying39) Ok) R2 (Tk 5 (U64 ((p + a.imm))) G G (fun _ _ => Bn G G BinR.addU64 Ok) R2 (Tk 6 (St nm) G G (fun _ _ => Mv (St nm) f6 Ok) R2 (WA.one (i := 7) (m' := 255) (by kernel_rfl) G G (WL.call ca43 G G (size_q nm _) ?_))))))))
 rintro _ wz118 ⟨rfl, ez118⟩
 rw [hz]
 have R12 := Mt R2 ez118
 have E13 := Mt E3 ez118
 refine WL.behind R12 (WA.one (i := 8) (m' := 511) (by kernel_rfl) G G (WL.call ca24 G G (loadRR_none T b M ws _ (hM.ext E13) (p + a.imm) z hzz hW) ?_))
 rintro _ wl ⟨rfl, el⟩
 have R14 := Mt R12 el
 have E15 := Mt E13 el
 refine WL.behind R14 (Tk 9 (.tuple #[U64 (0#64), .bool false]) G G (fun _ _ => Mv _ G Ok) R14 (Tk 10 (U64 (0#64)) G G (fun _ _ => Et G G Ok) R14 (Tk 11 (.bool false) G G (fun _ _ => Et G G Ok) R14 (Tk 12 (U64 (0#64)) G G (fun _ _ => An _ G Ok) R14 (Tk 13 (.bool false) G G (fun _ _ => An _ G Ok) R14 (WA.done (by kernel_rfl) (Sr (Mv (St nm) f6 ?_))))))))
 refine Mv (St nm) f6 (WL.lenSt Tryz.underlying9 G G (Bn G G (BinR.subN (b := 1) (by omega) (by omega)) (WL.indexSt (i := nm.length - 1) Tryz.underlying9 G G (by omega) G (Bn (vy := U8 (117#8)) G G BinR.neqU8 (Ni ?_)))))
 refine WC.cond G (fun hc127 => ?_) (fun hc127 => ?_)
 ·refine Rg (Mv (U64 (0#64)) G (Mv (St nm) f6 (WL.call ca43 G G (size_q nm _) ?_)))
  rintro _ wz130 ⟨rfl, ez130⟩
  rw [hz]
  have E21 := Mt E15 ez130
  refine WL.call ca44 G G (wide_q (0#64) z _ (by omega)) ?_
  rintro _ ww ⟨rfl, eww⟩
  have E22 := Mt E21 eww
  refine An (U64 ((signW (0#64) (8 * z)))) G (Ni ?_)
  exact tailR_no T b M ws nm _ nx a.rd S _ _ (hM.ext E22) f0 f6 G f10 f12 G (fun w2 h => hS w2 (TurnR.pre E22 h))
 ·refine WC.skip ?_
  exact tailR_no T b M ws nm _ nx a.rd S _ _ (hM.ext E15) f0 f6 G f10 f12 G (fun w2 h => hS w2 (TurnR.pre E15 h))
theorem mid_store (T : Nat → Nat) (b b4 : Nat) (M : MS) (ws : List (BitVec 32)) (a : RvInst) (nm : List UInt8) (p q y nx : BitVec 64) (S : Value → World → Prop) (f : Fr) (w : World) (hM : RR T w b M ws) (f0 : f 0 = ptr b 0) (f4 : f 4 = ptr b4 0) (f6 : f 6 = St nm) (f7 : f 7 = U64 p) (f8 : f 8 = U64 q) (f9 : f 9 = U64 y) (f10 : f 10 = U64 nx) (f11 : f 11 = .bool true) (f12 : f 12 = U8 a.rd) (h4 : Blk w b4 #[U8 a.op, U8 a.rd, U8 a.rs1, U8 a.rs2, I64 a.imm] 104) (hl0 : 0 < nm.length) (hr : a.rd.toNat < 32) (k1 : ((nm.getD 0 0).toBitVec == 108#8) = false) (k2 : ((nm.getD 0 0).toBitVec == 115#8) = true) (k3 : ((nm.getD 0 0).toBitVec == 101#8) = false) (t4 : T b4 = 0) (z : Nat) (hz : sizeQ nm = z) (hzz : z = 1 ∨ z = 2 ∨ z = 4 ∨ z = 8) (k : Bool) (o : Nat) (hW : whereM M.n (p + a.imm) z = some (k, o)) (hS : ∀ w', TurnR T w b (putQ (storeM M k o z q) nm a.rd y nx) ws w' → S (.bool true) w') : WC Tryz.prog mid26 165 f w (Fin26 S) := by
 refine Sq (Sr (Mv (St nm) f6 (WL.indexSt (i := 0) Tryz.underlying9 G G hl0 G (Ni (Bk (Sr (Bn (v := .bool false) (vy := U8 (108#8)) G G (BinR.toB BinR.eqlU8 k1) ?_)))))))
 refine An (.bool false) G (Ni (Cf G (Sr (Bn (v := .bool true) (vy := U8 (115#8)) G G (BinR.toB BinR.eqlU8 k2) (An (.bool true) G (Ni (Ct G (Sq ?_))))))))
 refine Rg (Mv (St nm) f6 (WL.call ca43 G G (size_q nm _) ?_))
 rintro _ wz135 ⟨rfl, ez135⟩
 rw [hz]
 have E1 : Ext w wz135 := ez135
 refine Bn (v := .bool true) G G (BinR.toB BinR.gtr (decide_eq_true (by omega))) (Ni (Ct G (WC.draw (fun w_ => Blk w_ b4 #[U8 a.op, U8 a.rd, U8 a.rs1, U8 a.rs2, I64 a.imm] 104) 11 G mixed ?_)))
 intro wd_25 ed_25
 have E2 := Mt E1 ed_25
 have B3 := (h4.ext ez135).ext ed_25
 refine Tk 0 (ptr b 0) G G (fun _ _ => Mv (ptr b 0) f0 Ok) B3 (Tk 1 (U64 p) G G (fun _ _ => Mv (U64 p) f7 Ok) B3 (Tk 2 (ptr b4 4) G G (fun _ _ => Fa f4 fo104_4 Ok) B3 (Tk 3 (I64 a.imm) G G (fun _ hS => Lo G ag2 (hS.cell (j := 4) G) Ok) B3 (Tk 4 (U64 a.imm) G G (fun _ _ => Cv G (ConvR.i64u64 Tryz.underlying2 Tryz.underlying39) Ok) B3 (Tk 5 (U64 ((p + a.imm))) G G (fun _ _ => Bn G G BinR.addU64 Ok) B3 (Tk 6 (St nm) G G (fun _ _ => Mv (St nm) f6 Ok) B3 (Tk 8 (U64 q) G G (fun _ _ => Mv (U64 q) f8 Ok) B3 (WA.one (i := 7) (m' := 511) (by kernel_rfl) G G (WL.call ca43 G G (size_q nm _) ?_)))))))))
 rintro _ wz144 ⟨rfl, ez144⟩
 rw [hz]
 have E4 := Mt E2 ez144
 have B5 := B3.ext ez144
 refine WL.behind B5 (WA.one (i := 9) (m' := 1023) (by kernel_rfl) G G (WL.call ca45 G G (storeRR_some T b M ws _ (hM.ext E4) (p + a.imm) q z k o hzz hW) ?_))
 rintro _ wl ⟨rfl, T1, hR1, mp1, hs1⟩
 have hS1 : ∀ w2, TurnR T1 wl b (putQ (storeM M k o z q) nm a.rd y nx) ws w2 → S (.bool true) w2 := fun w2 h => hS w2 (TurnR.pre E4 (TurnR.trans mp1 hs1 h))
 have h4b := B5.mod mp1 (fun e => e t4)
 refine WL.behind h4b (Tk 10 (.bool true) G G (fun _ _ => An _ G Ok) h4b (WA.done (by kernel_rfl) ?_))
 exact tailR_ok T1 b (storeM M k o z q) ws nm _ nx a.rd S _ _ hR1 f0 f6 f9 f10 f12 G hr hS1
theorem mid_storeno (T : Nat → Nat) (b b4 : Nat) (M : MS) (ws : List (BitVec 32)) (a : RvInst) (nm : List UInt8) (p q y nx : BitVec 64) (S : Value → World → Prop) (f : Fr) (w : World) (hM : RR T w b M ws) (f0 : f 0 = ptr b 0) (f4 : f 4 = ptr b4 0) (f6 : f 6 = St nm) (f7 : f 7 = U64 p) (f8 : f 8 = U64 q) (f9 : f 9 = U64 y) (f10 : f 10 = U64 nx) (f11 : f 11 = .bool true) (f12 : f 12 = U8 a.rd) (h4 : Blk w b4 #[U8 a.op, U8 a.rd, U8 a.rs1, U8 a.rs2, I64 a.imm] 104) (hl0 : 0 < nm.length) (hr : a.rd.toNat < 32) (k1 : ((nm.getD 0 0).toBitVec == 108#8) = false) (k2 : ((nm.getD 0 0).toBitVec == 115#8) = true) (k3 : ((nm.getD 0 0).toBitVec == 101#8) = false) (z : Nat) (hz : sizeQ nm = z) (hzz : z = 1 ∨ z = 2 ∨ z = 4 ∨ z = 8) (hW : whereM M.n (p + a.imm) z = none) (hS : ∀ w', TurnR T w b ({ M with fin := some true }) ws w' → S (.bool true) w') : WC Tryz.prog mid26 165 f w (Fin26 S) := by
 refine Sq (Sr (Mv (St nm) f6 (WL.indexSt (i := 0) Tryz.underlying9 G G hl0 G (Ni (Bk (Sr (Bn (v := .bool false) (vy := U8 (108#8)) G G (BinR.toB BinR.eqlU8 k1) ?_)))))))
 refine An (.bool false) G (Ni (Cf G (Sr (Bn (v := .bool true) (vy := U8 (115#8)) G G (BinR.toB BinR.eqlU8 k2) (An (.bool true) G (Ni (Ct G (Sq ?_))))))))
 refine Rg (Mv (St nm) f6 (WL.call ca43 G G (size_q nm _) ?_))
 rintro _ wz135 ⟨rfl, ez135⟩
 rw [hz]
 have E1 : Ext w wz135 := ez135
 refine Bn (v := .bool true) G G (BinR.toB BinR.gtr (decide_eq_true (by omega))) (Ni (Ct G (WC.draw (fun w_ => Ext wz135 w_) 11 G mixed ?_)))
 intro wd_25 ed_25
 have R2 : Ext wz135 wd_25 := ed_25
 have E3 := Mt E1 ed_25
 refine Tk 0 (ptr b 0) G G (fun _ _ => Mv (ptr b 0) f0 Ok) R2 (Tk 1 (U64 p) G G (fun _ _ => Mv (U64 p) f7 Ok) R2 (Tk 2 (ptr b4 4) G G (fun _ _ => Fa f4 fo104_4 Ok) R2 (Tk 3 (I64 a.imm) G G (fun _ hS => Lo G ag2 (((h4.ext ez135).ext hS).cell (j := 4) G) Ok) R2 (Tk 4 (U64 a.imm) G G (fun _ _ => Cv G (ConvR.i64u64 Tryz.underlying2 Tryz.underlying39) Ok) R2 (Tk 5 (U64 ((p + a.imm))) G G (fun _ _ => Bn G G BinR.addU64 Ok) R2 (Tk 6 (St nm) G G (fun _ _ => Mv (St nm) f6 Ok) R2 (Tk 8 (U64 q) G G (fun _ _ => Mv (U64 q) f8 Ok) R2 (WA.one (i := 7) (m' := 511) (by kernel_rfl) G G (WL.call ca43 G G (size_q nm _) ?_)))))))))
 rintro _ wz144 ⟨rfl, ez144⟩
 rw [hz]
 have R13 := Mt R2 ez144
 have E14 := Mt E3 ez144
 refine WL.behind R13 (WA.one (i := 9) (m' := 1023) (by kernel_rfl) G G (WL.call ca45 G G (storeR_no T b M ws _ (hM.ext E14) (p + a.imm) q z hzz hW) ?_))
 rintro _ wl ⟨rfl, el⟩
 have R15 := Mt R13 el
 have E16 := Mt E14 el
 refine WL.behind R15 (Tk 10 (.bool false) G G (fun _ _ => An _ G Ok) R15 (WA.done (by kernel_rfl) ?_))
 exact tailR_no T b M ws nm _ nx a.rd S _ _ (hM.ext E16) f0 f6 f9 f10 f12 G (fun w2 h => hS w2 (TurnR.pre E16 h))
theorem mid_call (T : Nat → Nat) (b b4 : Nat) (M : MS) (ws : List (BitVec 32)) (a : RvInst) (nm : List UInt8) (p q y nx : BitVec 64) (S : Value → World → Prop) (f : Fr) (w : World) (hM : RR T w b M ws) (f0 : f 0 = ptr b 0) (f4 : f 4 = ptr b4 0) (f6 : f 6 = St nm) (f7 : f 7 = U64 p) (f8 : f 8 = U64 q) (f9 : f 9 = U64 y) (f10 : f 10 = U64 nx) (f11 : f 11 = .bool true) (f12 : f 12 = U8 a.rd) (h4 : Blk w b4 #[U8 a.op, U8 a.rd, U8 a.rs1, U8 a.rs2, I64 a.imm] 104) (hl0 : 0 < nm.length) (hr : a.rd.toNat < 32) (k1 : ((nm.getD 0 0).toBitVec == 108#8) = false) (k2 : ((nm.getD 0 0).toBitVec == 115#8) = false) (k3 : ((nm.getD 0 0).toBitVec == 101#8) = true) (he : M.events.length < 8796093022208) (hfin : M.fin = none) (hok : ((callsM M).2 == some true) = false) (hS : ∀ w', TurnR T w b (putQ (callsR M) nm a.rd y nx) ws w' → S (.bool true) w') : WC Tryz.prog mid26 165 f w (Fin26 S) := by
 refine Sq (Sr (Mv (St nm) f6 (WL.indexSt (i := 0) Tryz.underlying9 G G hl0 G (Ni (Bk (Sr (Bn (v := .bool false) (vy := U8 (108#8)) G G (BinR.toB BinR.eqlU8 k1) ?_)))))))
 refine An (.bool false) G (Ni (Cf G (Sr (Bn (v := .bool false) (vy := U8 (115#8)) G G (BinR.toB BinR.eqlU8 k2) (An (.bool false) G (Ni (Cf G (Sq ?_))))))))
 refine Rg (Bn (v := .bool true) (vy := U8 (101#8)) G G (BinR.toB BinR.eqlU8 k3) (An (.bool true) G (Ni (Ct G (Rg (Mv (ptr b 0) f0 (WL.call ca46 G G (callsR_spec T b M ws _ hM he hfin) ?_)))))))
 rintro _ wl ⟨rfl, T1, hR1, mp1, hs1⟩
 rw [hok]
 refine An (.bool true) G (Ni ?_)
 exact tailR_ok T1 b (callsR M) ws nm _ nx a.rd S _ _ hR1 f0 f6 f9 f10 f12 G hr (fun w2 h => hS w2 (TurnR.trans mp1 hs1 h))
theorem mid_callno (T : Nat → Nat) (b b4 : Nat) (M : MS) (ws : List (BitVec 32)) (a : RvInst) (nm : List UInt8) (p q y nx : BitVec 64) (S : Value → World → Prop) (f : Fr) (w : World) (hM : RR T w b M ws) (f0 : f 0 = ptr b 0) (f4 : f 4 = ptr b4 0) (f6 : f 6 = St nm) (f7 : f 7 = U64 p) (f8 : f 8 = U64 q) (f9 : f 9 = U64 y) (f10 : f 10 = U64 nx) (f11 : f 11 = .bool true) (f12 : f 12 = U8 a.rd) (h4 : Blk w b4 #[U8 a.op, U8 a.rd, U8 a.rs1, U8 a.rs2, I64 a.imm] 104) (hl0 : 0 < nm.length) (hr : a.rd.toNat < 32) (k1 : ((nm.getD 0 0).toBitVec == 108#8) = false) (k2 : ((nm.getD 0 0).toBitVec == 115#8) = false) (k3 : ((nm.getD 0 0).toBitVec == 101#8) = true) (he : M.events.length < 8796093022208) (hfin : M.fin = none) (hok : ((callsM M).2 == some true) = true) (hS : ∀ w', TurnR T w b ({ callsR M with fin := some true }) ws w' → S (.bool true) w') : WC Tryz.prog mid26 165 f w (Fin26 S) := by
 refine Sq (Sr (Mv (St nm) f6 (WL.indexSt (i := 0) Tryz.underlying9 G G hl0 G (Ni (Bk (Sr (Bn (v := .bool false) (vy := U8 (108#8)) G G (BinR.toB BinR.eqlU8 k1) ?_)))))))
 refine An (.bool false) G (Ni (Cf G (Sr (Bn (v := .bool false) (vy := U8 (115#8)) G G (BinR.toB BinR.eqlU8 k2) (An (.bool false) G (Ni (Cf G (Sq ?_))))))))
 refine Rg (Bn (v := .bool true) (vy := U8 (101#8)) G G (BinR.toB BinR.eqlU8 k3) (An (.bool true) G (Ni (Ct G (Rg (Mv (ptr b 0) f0 (WL.call ca46 G G (callsR_spec T b M ws _ hM he hfin) ?_)))))))
 rintro _ wl ⟨rfl, T1, hR1, mp1, hs1⟩
 rw [hok]
 refine An (.bool false) G (Ni ?_)
 exact tailR_no T1 b (callsR M) ws nm _ nx a.rd S _ _ hR1 f0 f6 f9 f10 f12 G (fun w2 h => hS w2 (TurnR.trans mp1 hs1 h))
end Go.Proofs.S
end
section
set_option linter.unusedSimpArgs false
set_option linter.unusedVariables false
namespace Go.Proofs.S
open Go Go.Ux Go.Ux.Mach Go.Proofs
theorem fo70_9 : fieldOff Tryz.prog 70 9 = some 40 := by kernel_rfl
theorem ca40 : callable Tryz.prog 40 = true := by kernel_rfl
theorem ca42 : callable Tryz.prog 42 = true := by kernel_rfl
open Go.Proofs.M (instV findRow findRow_lt decodeAt)
open Go.Ux.Image
open Go.Proofs.N (doM loadsM)
def pcBad (M : MS) (ws : List (BitVec 32)) : Bool := (BitVec.ult M.pc 65536#64 || (((M.pc - 65536#64) % 4#64 != 0#64) || BitVec.ule (BitVec.ofNat 64 ws.length) ((M.pc - 65536#64) / 4#64)))
theorem dec_op_lt (x : BitVec 32) : (decI x).op.toNat < 66 := by
 unfold decI
 rcases h : findRow x tableD with _ | i
 ·show (0#8).toNat < 66; decide
 ·have hi := findRow_lt h
  rw [tableD_length] at hi
  show (BitVec.ofNat 8 i).toNat < 66
  rw [BitVec.toNat_ofNat]; omega
theorem stepR_end (T : Nat → Nat) (b : Nat) (M : MS) (ws : List (BitVec 32)) (w : World) (h : RR T w b M ws) (t : Bool) (hfin : M.fin = some t) : CallsR Tryz.prog 26 #[ptr b 0] w (fun v w' => v = .bool false ∧ Ext w w') := by
 obtain ⟨cv, dv, sv, iv, ev, hb, ht⟩ := h
 refine callsR_of Tryz.func26 G G G ?_
 refine Sr (An (.bool false) G (Ni (Sq (Sr (Mv (ptr b 0) G (WL.nilCheck G G (Fa G fo70_7 ?_)))))))
 refine Lo G ag4 (hb.cell (j := 38) G) (Ni (Ct (congrArg Value.bool (by rw [hfin]; rfl)) (Sr (An (.bool false) G (Ni (WC.ret ?_))))))
 exact ⟨_, Res.one (v := .bool false) G G, G, Mod.refl _ _⟩
theorem stepR_bad (T : Nat → Nat) (b : Nat) (M : MS) (ws : List (BitVec 32)) (w : World) (h : RR T w b M ws) (hfin : M.fin = none) (hp : pcBad M ws = true) : CallsR Tryz.prog 26 #[ptr b 0] w (fun v w' => v = .bool true ∧ TurnR T w b { M with steps := M.steps + 1#64, fin := some true } ws w') := by
 obtain ⟨cv, dv, sv, iv, ev, hb, ht⟩ := h
 have hb0 : Blk w b (refCells cv dv sv iv M.x M.pc ev false false (I64 M.steps)) 70 := by have h0 := hb; unfold RCells at h0; rw [hfin] at h0; exact h0
 refine callsR_of Tryz.func26 G G G ?_
 refine Sr (An (.bool false) G (Ni (Sq (Sr (Mv (ptr b 0) G (WL.nilCheck G G (Fa G fo70_7 ?_)))))))
 refine Lo G ag4 (hb0.cell (j := 38) G) (Ni (Cf G (WC.skip (Sr (Mv (ptr b 0) G (Mv (ptr b 0) G (WL.nilCheck G G (Fa G fo70_9 ?_))))))))
 refine Lo G ag3 (hb0.cell (j := 40) G) (Bn (vy := I64 (1#64)) G G BinR.add64 (WL.nilCheck G G (Fa G fo70_9 (WL.storeB (v := I64 ((M.steps + 1#64))) G G G sz3 hb0 (Nat.le_of_ble_eq_true G) ?_))))
 intro ws1 ms1 bs1 zs1
 have E1 : Mod (fun k => T k = 1) w ws1 := (ms1.imp (fun i _ e => by subst e; exact ht.tb))
 refine Ni (Sr (Mv (ptr b 0) G (WL.nilCheck G G (Fa G fo70_5 (Lo G ag39 (bs1.cell (j := 36) G) (Bn (vy := U64 (65536#64)) G G BinR.subU64 (An (U64 ((M.pc - 65536#64))) G (Ni ?_))))))))
 refine Sq (Sq ?_)
 refine WC.cut (fun f' w_ => f' 0 = ptr b 0 ∧ f' 2 = .bool false ∧ f' 3 = U64 ((M.pc - 65536#64)) ∧ f' 13 = ptr b 0 ∧ f' 14 = ptr b 0 ∧ f' 15 = ptr b 38 ∧ f' 16 = .bool false ∧ f' 17 = ptr b 0 ∧ f' 18 = ptr b 0 ∧ f' 19 = ptr b 0 ∧ f' 20 = ptr b 40 ∧ f' 21 = I64 M.steps ∧ f' 22 = I64 ((M.steps + 1#64)) ∧ f' 23 = ptr b 0 ∧ f' 24 = ptr b 40 ∧ f' 25 = ptr b 0 ∧ f' 26 = ptr b 0 ∧ f' 27 = ptr b 36 ∧ f' 28 = U64 M.pc ∧ f' 29 = U64 ((M.pc - 65536#64)) ∧ f' 50 = .bool ((BitVec.ult M.pc 65536#64 || (((M.pc - 65536#64) % 4#64 != 0#64) || BitVec.ule (BitVec.ofNat 64 ws.length) ((M.pc - 65536#64) / 4#64)))) ∧ ws1 = w_) ?_ ?_
 ·refine Rg (Mv (ptr b 0) G (WL.nilCheck G G (Fa G fo70_5 (Lo G ag39 (bs1.cell (j := 36) G) (Bn (vy := U64 (65536#64)) G G BinR.lssU64 (Mv (.bool (BitVec.ult M.pc (65536#64))) G ?_))))))
  rcases Bool.eq_false_or_eq_true (BitVec.ult M.pc (65536#64)) with hg35 | hg35
  ·refine Gf true (Yb G G hg35) (Gf true (Yb G G hg35) (Gf true (Yb G G hg35) (Pk (b := true) (congrArg Value.bool hg35) G (Mv (.bool true) G (Gf true G (Gf true G (Gf true G (Gf true G (Gf true G ?_)))))))))
   refine Gf true G (Gf true G (Gf true G (Gf true G (Pk (b := true) G G (Ni ?_)))))
   have hcut : true = (BitVec.ult M.pc 65536#64 || (((M.pc - 65536#64) % 4#64 != 0#64) || BitVec.ule (BitVec.ofNat 64 ws.length) ((M.pc - 65536#64) / 4#64))) := by first | (rw [hg35]; rfl) | (rw [hg35, hg40]; rfl)
   exact ⟨G, G, G, G, G, G, G, G, G, G, G, G, G, G, G, G, G, G, G, G, G, congrArg Value.bool hcut, G⟩
  ·refine Gt (Yb G G hg35) (Mv (U64 ((M.pc - 65536#64))) G (Gt (Yb G G hg35) (Bn (vy := U64 (4#64)) G G (BinR.remU64 (by decide)) (Gt (Yb G G hg35) (Bn (vy := U64 (0#64)) G G BinR.neqU64 (Pk (b := false) (congrArg Value.bool hg35) G (Mv (.bool ((((M.pc - 65536#64) % 4#64) != 0#64))) G ?_)))))))
   rcases Bool.eq_false_or_eq_true ((((M.pc - 65536#64) % 4#64) != 0#64)) with hg40 | hg40
   ·refine Gf true (Yb G G hg40) (Gf true (Yb G G hg40) (Gf true (Yb G G hg40) (Gf true (Yb G G hg40) (Gf true (Yb G G hg40) (Gf true (Yb G G hg40) (Gf true (Yb G G hg40) (Gf true (Yb G G hg40) (Gf true (Yb G G hg40) (Pk (b := true) (congrArg Value.bool hg40) G ?_)))))))))
    refine Ni ?_
    have hcut : true = (BitVec.ult M.pc 65536#64 || (((M.pc - 65536#64) % 4#64 != 0#64) || BitVec.ule (BitVec.ofNat 64 ws.length) ((M.pc - 65536#64) / 4#64))) := by first | (rw [hg35]; rfl) | (rw [hg35, hg40]; rfl)
    exact ⟨G, G, G, G, G, G, G, G, G, G, G, G, G, G, G, G, G, G, G, G, G, congrArg Value.bool hcut, G⟩
   ·refine Gt (Yb G G hg40) (Mv (U64 ((M.pc - 65536#64))) G (Gt (Yb G G hg40) (Bn (vy := U64 (4#64)) G G (BinR.quoU64 (by decide)) (Gt (Yb G G hg40) (Mv (ptr b 0) G (Gt (Yb G G hg40) (WL.nilCheck G G (Gt (Yb G G hg40) (Fa G fo70_0 ?_)))))))))
    refine Gt (Yb G G hg40) (Lo G ag23 (bs1.cell (j := 0) G) (Gt (Yb G G hg40) ?_))
    have S2 := ht.code.mod' ms1 (fun g hg e => (fun e => by have := ht.tc b e; rw [ht.tb] at this; cases this) (hg.trans (congrArg some e)))
    refine WL.lenSl (sz := 1) (m := ws.length) (xs := wordCells ws) el23 G S2 G (Gt (Yb G G hg40) (Cv G (ConvR.nu64 Tryz.underlying3 Tryz.underlying39) (Gt (Yb G G hg40) (Bn G G BinR.geqU64 (Pk (b := false) (congrArg Value.bool hg40) G (Ni ?_))))))
    have hcut : (BitVec.ule (BitVec.ofNat 64 ws.length) (((M.pc - 65536#64) / 4#64))) = (BitVec.ult M.pc 65536#64 || (((M.pc - 65536#64) % 4#64 != 0#64) || BitVec.ule (BitVec.ofNat 64 ws.length) ((M.pc - 65536#64) / 4#64))) := by first | (rw [hg35]; rfl) | (rw [hg35, hg40]; rfl)
    exact ⟨G, G, G, G, G, G, G, G, G, G, G, G, G, G, G, G, G, G, G, G, G, congrArg Value.bool hcut, G⟩
 rintro fc5 _ ⟨hc5_0, hc5_2, hc5_3, hc5_13, hc5_14, hc5_15, hc5_16, hc5_17, hc5_18, hc5_19, hc5_20, hc5_21, hc5_22, hc5_23, hc5_24, hc5_25, hc5_26, hc5_27, hc5_28, hc5_29, hc5_50, rfl⟩
 refine Ct (hc5_50.trans (congrArg Value.bool hp)) (Sr (Mv (ptr b 0) hc5_0 ?_))
 have hR1 := (⟨cv, dv, sv, iv, ev, (by unfold RCells; dsimp only; rw [hfin]; exact bs1), (ht.own E1).regs M.x M.pc (M.steps + 1#64) M.fin⟩ : RR T ws1 b { M with steps := M.steps + 1#64 } ws)
 have mp1 := E1
 refine WL.call ca39 G G (trap_q T b { M with steps := M.steps + 1#64 } ws _ hR1) ?_
 rintro v52 wt htn
 refine Ni (Sr (An (.bool true) G (Ni (WC.ret ?_))))
 exact ⟨_, Res.one (v := .bool true) G G, G, TurnR.trans (Mod.fp mp1) (fun _ h => .inl h) htn⟩
theorem stepR_dec (T : Nat → Nat) (b : Nat) (M : MS) (ws : List (BitVec 32)) (w : World) (h : RR T w b M ws) (hfin : M.fin = none) (hp : pcBad M ws = false) (x : BitVec 32) (hx : ws[((M.pc - 65536#64) / 4#64).toNat]? = some x) (a : RvInst) (ha : a = decI x) (nm : List UInt8) (hnm : nm = (rvAt a.op.toNat).name) (hbad : ((((decE x : Nat) : Int) != (0 : Int)) || (nm == [101, 98, 114, 101, 97, 107])) = true) : CallsR Tryz.prog 26 #[ptr b 0] w (fun v w' => v = .bool true ∧ TurnR T w b { M with steps := M.steps + 1#64, fin := some true } ws w') := by
 obtain ⟨cv, dv, sv, iv, ev, hb, ht⟩ := h
 have hb0 : Blk w b (refCells cv dv sv iv M.x M.pc ev false false (I64 M.steps)) 70 := by have h0 := hb; unfold RCells at h0; rw [hfin] at h0; exact h0
 have hi : ((M.pc - 65536#64) / 4#64).toNat < ws.length := (List.getElem?_eq_some_iff.1 hx).1
 have hxc : (wordCells ws)[((M.pc - 65536#64) / 4#64).toNat]? = some (U32 x) := by unfold wordCells; rw [List.getElem?_map, hx]; rfl
 have hop : a.op.toNat < 66 := by rw [ha]; exact dec_op_lt x
 refine callsR_of Tryz.func26 G G G ?_
 refine Sr (An (.bool false) G (Ni (Sq (Sr (Mv (ptr b 0) G (WL.nilCheck G G (Fa G fo70_7 ?_)))))))
 refine Lo G ag4 (hb0.cell (j := 38) G) (Ni (Cf G (WC.skip (Sr (Mv (ptr b 0) G (Mv (ptr b 0) G (WL.nilCheck G G (Fa G fo70_9 ?_))))))))
 refine Lo G ag3 (hb0.cell (j := 40) G) (Bn (vy := I64 (1#64)) G G BinR.add64 (WL.nilCheck G G (Fa G fo70_9 (WL.storeB (v := I64 ((M.steps + 1#64))) G G G sz3 hb0 (Nat.le_of_ble_eq_true G) ?_))))
 intro ws1 ms1 bs1 zs1
 have E1 : Mod (fun k => T k = 1) w ws1 := (ms1.imp (fun i _ e => by subst e; exact ht.tb))
 refine Ni (Sr (Mv (ptr b 0) G (WL.nilCheck G G (Fa G fo70_5 (Lo G ag39 (bs1.cell (j := 36) G) (Bn (vy := U64 (65536#64)) G G BinR.subU64 (An (U64 ((M.pc - 65536#64))) G (Ni ?_))))))))
 refine Sq (Sq ?_)
 refine WC.cut (fun f' w_ => f' 0 = ptr b 0 ∧ f' 2 = .bool false ∧ f' 3 = U64 ((M.pc - 65536#64)) ∧ f' 13 = ptr b 0 ∧ f' 14 = ptr b 0 ∧ f' 15 = ptr b 38 ∧ f' 16 = .bool false ∧ f' 17 = ptr b 0 ∧ f' 18 = ptr b 0 ∧ f' 19 = ptr b 0 ∧ f' 20 = ptr b 40 ∧ f' 21 = I64 M.steps ∧ f' 22 = I64 ((M.steps + 1#64)) ∧ f' 23 = ptr b 0 ∧ f' 24 = ptr b 40 ∧ f' 25 = ptr b 0 ∧ f' 26 = ptr b 0 ∧ f' 27 = ptr b 36 ∧ f' 28 = U64 M.pc ∧ f' 29 = U64 ((M.pc - 65536#64)) ∧ f' 50 = .bool ((BitVec.ult M.pc 65536#64 || (((M.pc - 65536#64) % 4#64 != 0#64) || BitVec.ule (BitVec.ofNat 64 ws.length) ((M.pc - 65536#64) / 4#64)))) ∧ ws1 = w_) ?_ ?_
 ·refine Rg (Mv (ptr b 0) G (WL.nilCheck G G (Fa G fo70_5 (Lo G ag39 (bs1.cell (j := 36) G) (Bn (vy := U64 (65536#64)) G G BinR.lssU64 (Mv (.bool (BitVec.ult M.pc (65536#64))) G ?_))))))
  rcases Bool.eq_false_or_eq_true (BitVec.ult M.pc (65536#64)) with hg35 | hg35
  ·refine Gf true (Yb G G hg35) (Gf true (Yb G G hg35) (Gf true (Yb G G hg35) (Pk (b := true) (congrArg Value.bool hg35) G (Mv (.bool true) G (Gf true G (Gf true G (Gf true G (Gf true G (Gf true G ?_)))))))))
   refine Gf true G (Gf true G (Gf true G (Gf true G (Pk (b := true) G G (Ni ?_)))))
   have hcut : true = (BitVec.ult M.pc 65536#64 || (((M.pc - 65536#64) % 4#64 != 0#64) || BitVec.ule (BitVec.ofNat 64 ws.length) ((M.pc - 65536#64) / 4#64))) := by first | (rw [hg35]; rfl) | (rw [hg35, hg40]; rfl)
   exact ⟨G, G, G, G, G, G, G, G, G, G, G, G, G, G, G, G, G, G, G, G, G, congrArg Value.bool hcut, G⟩
  ·refine Gt (Yb G G hg35) (Mv (U64 ((M.pc - 65536#64))) G (Gt (Yb G G hg35) (Bn (vy := U64 (4#64)) G G (BinR.remU64 (by decide)) (Gt (Yb G G hg35) (Bn (vy := U64 (0#64)) G G BinR.neqU64 (Pk (b := false) (congrArg Value.bool hg35) G (Mv (.bool ((((M.pc - 65536#64) % 4#64) != 0#64))) G ?_)))))))
   rcases Bool.eq_false_or_eq_true ((((M.pc - 65536#64) % 4#64) != 0#64)) with hg40 | hg40
   ·refine Gf true (Yb G G hg40) (Gf true (Yb G G hg40) (Gf true (Yb G G hg40) (Gf true (Yb G G hg40) (Gf true (Yb G G hg40) (Gf true (Yb G G hg40) (Gf true (Yb G G hg40) (Gf true (Yb G G hg40) (Gf true (Yb G G hg40) (Pk (b := true) (congrArg Value.bool hg40) G ?_)))))))))
    refine Ni ?_
    have hcut : true = (BitVec.ult M.pc 65536#64 || (((M.pc - 65536#64) % 4#64 != 0#64) || BitVec.ule (BitVec.ofNat 64 ws.length) ((M.pc - 65536#64) / 4#64))) := by first | (rw [hg35]; rfl) | (rw [hg35, hg40]; rfl)
    exact ⟨G, G, G, G, G, G, G, G, G, G, G, G, G, G, G, G, G, G, G, G, G, congrArg Value.bool hcut, G⟩
   ·refine Gt (Yb G G hg40) (Mv (U64 ((M.pc - 65536#64))) G (Gt (Yb G G hg40) (Bn (vy := U64 (4#64)) G G (BinR.quoU64 (by decide)) (Gt (Yb G G hg40) (Mv (ptr b 0) G (Gt (Yb G G hg40) (WL.nilCheck G G (Gt (Yb G G hg40) (Fa G fo70_0 ?_)))))))))
    refine Gt (Yb G G hg40) (Lo G ag23 (bs1.cell (j := 0) G) (Gt (Yb G G hg40) ?_))
    have S2 := ht.code.mod' ms1 (fun g hg e => (fun e => by have := ht.tc b e; rw [ht.tb] at this; cases this) (hg.trans (congrArg some e)))
    refine WL.lenSl (sz := 1) (m := ws.length) (xs := wordCells ws) el23 G S2 G (Gt (Yb G G hg40) (Cv G (ConvR.nu64 Tryz.underlying3 Tryz.underlying39) (Gt (Yb G G hg40) (Bn G G BinR.geqU64 (Pk (b := false) (congrArg Value.bool hg40) G (Ni ?_))))))
    have hcut : (BitVec.ule (BitVec.ofNat 64 ws.length) (((M.pc - 65536#64) / 4#64))) = (BitVec.ult M.pc 65536#64 || (((M.pc - 65536#64) % 4#64 != 0#64) || BitVec.ule (BitVec.ofNat 64 ws.length) ((M.pc - 65536#64) / 4#64))) := by first | (rw [hg35]; rfl) | (rw [hg35, hg40]; rfl)
    exact ⟨G, G, G, G, G, G, G, G, G, G, G, G, G, G, G, G, G, G, G, G, G, congrArg Value.bool hcut, G⟩
 rintro fc5 _ ⟨hc5_0, hc5_2, hc5_3, hc5_13, hc5_14, hc5_15, hc5_16, hc5_17, hc5_18, hc5_19, hc5_20, hc5_21, hc5_22, hc5_23, hc5_24, hc5_25, hc5_26, hc5_27, hc5_28, hc5_29, hc5_50, rfl⟩
 refine Cf (hc5_50.trans (congrArg Value.bool hp)) (WC.skip (Sr (Mv (ptr b 0) hc5_0 (WL.nilCheck G G (Fa G fo70_0 (Lo G ag23 (bs1.cell (j := 0) G) (Mv (U64 ((M.pc - 65536#64))) hc5_3 (Bn (vy := U64 (4#64)) G G (BinR.quoU64 (by decide)) ?_))))))))
 have S3 := ht.code.mod' ms1 (fun g hg e => (fun e => by have := ht.tc b e; rw [ht.tb] at this; cases this) (hg.trans (congrArg some e)))
 refine WL.indexSl (sz := 1) (m := ws.length) (xs := wordCells ws) (i := ((M.pc - 65536#64) / 4#64).toNat) el23 sz50 G G hi S3 G ?_
 intro b60 o60 hb60 hc60
 refine WL.load1 rfl ag50 (by have h := hc60 (((M.pc - 65536#64) / 4#64).toNat * 1) _ (by rw [Nat.mul_one]; exact hxc); exact h) rfl (WL.call ca40 rfl rfl (decode_q x _) ?_)
 rintro _ wde ⟨rfl, ede⟩
 rw [← ha]
 have E4 : Mod (fun k => T k = 1) w wde := Mt E1 (Mod.ext ede)
 refine Mv (.tuple #[instV a, IN (decE x)]) G (Et G G (Et G G (WL.allocStore (v := .agg #[U8 a.op, U8 a.rd, U8 a.rs1, U8 a.rs2, I64 a.imm]) zt104 G sz104 G G G G ?_)))
 intro b4 w4 n4
 have E5 : Mod (fun k => T k = 1) w w4 := Mt E4 (Mod.ext n4.ext)
 refine An (IN (decE x)) G (Ni (Sr (Fa G fo104_0 (Lo G ag5 (n4.blk.cell (j := 0) G) (WL.call ca41 G G (name_q a.op _ hop) ?_)))))
 rintro _ wnm ⟨rfl, enm⟩
 rw [← hnm]
 have E6 : Mod (fun k => T k = 1) w wnm := Mt E5 (Mod.ext enm)
 refine An (St nm) G (Ni (Sq (Sr (Mv (IN (decE x)) G (Bn G G BinR.neq (Mv (.bool (((((decE x) : Nat) : Int) != (0 : Int)))) G ?_))))))
 rcases Bool.eq_false_or_eq_true (((((decE x) : Nat) : Int) != (0 : Int))) with hg70 | hg70
 ·refine Gf true (Yb G G hg70) (Gf true (Yb G G hg70) (Pk (b := true) (congrArg Value.bool hg70) G (Ni (Ct G (Sr (Mv (ptr b 0) hc5_0 ?_))))))
  have B7 := ((bs1.ext ede).ext n4.ext).ext enm
  have hR1 := (⟨cv, dv, sv, iv, ev, (by unfold RCells; dsimp only; rw [hfin]; exact B7), (ht.own E6).regs M.x M.pc (M.steps + 1#64) M.fin⟩ : RR T wnm b { M with steps := M.steps + 1#64 } ws)
  have mp1 := E6
  refine WL.call ca39 G G (trap_q T b { M with steps := M.steps + 1#64 } ws _ hR1) ?_
  rintro v75 wt htn
  refine Ni (Sr (An (.bool true) G (Ni (WC.ret ?_))))
  exact ⟨_, Res.one (v := .bool true) G G, G, TurnR.trans (Mod.fp mp1) (fun _ h => .inl h) htn⟩
 ·refine Gt (Yb G G hg70) (Mv (St nm) G (Gt (Yb G G hg70) (Bn (vy := St [101, 98, 114, 101, 97, 107]) G G BinR.eqlS (Pk (b := false) (congrArg Value.bool hg70) G (Ni (Ct (congrArg Value.bool (by rw [hg70] at hbad; simpa using hbad)) (Sr (Mv (ptr b 0) hc5_0 ?_))))))))
  have B8 := ((bs1.ext ede).ext n4.ext).ext enm
  have hR1 := (⟨cv, dv, sv, iv, ev, (by unfold RCells; dsimp only; rw [hfin]; exact B8), (ht.own E6).regs M.x M.pc (M.steps + 1#64) M.fin⟩ : RR T wnm b { M with steps := M.steps + 1#64 } ws)
  have mp1 := E6
  refine WL.call ca39 G G (trap_q T b { M with steps := M.steps + 1#64 } ws _ hR1) ?_
  rintro v75 wt htn
  refine Ni (Sr (An (.bool true) G (Ni (WC.ret ?_))))
  exact ⟨_, Res.one (v := .bool true) G G, G, TurnR.trans (Mod.fp mp1) (fun _ h => .inl h) htn⟩
theorem stepR_go (T : Nat → Nat) (b : Nat) (M : MS) (ws : List (BitVec 32)) (w : World) (h : RR T w b M ws) (hfin : M.fin = none) (hp : pcBad M ws = false) (x : BitVec 32) (hx : ws[((M.pc - 65536#64) / 4#64).toNat]? = some x) (a : RvInst) (ha : a = decI x) (nm : List UInt8) (hnm : nm = (rvAt a.op.toNat).name) (S : Value → World → Prop) (hE0 : (((decE x : Nat) : Int) != (0 : Int)) = false) (hnb : (nm == [101, 98, 114, 101, 97, 107]) = false) (hr1 : a.rs1.toNat < 32) (hr2 : a.rs2.toNat < 32) (hdo : doQ nm a.imm M.pc (M.x a.rs1.toNat) (M.x a.rs2.toNat) = (doM a.op.toNat a.imm M.pc (M.x a.rs1.toNat) (M.x a.rs2.toNat))) (hk : ∀ (f : Fr) (b4 : Nat) (w1 : World), RR T w1 b { M with steps := M.steps + 1#64 } ws → Ux.Mod (fun k => T k = 1) w w1 → w.heap.size ≤ b4 → f 0 = ptr b 0 → f 4 = ptr b4 0 → f 6 = St nm → f 7 = U64 (M.x a.rs1.toNat) → f 8 = U64 (M.x a.rs2.toNat) → f 9 = U64 (doM a.op.toNat a.imm M.pc (M.x a.rs1.toNat) (M.x a.rs2.toNat)).1 → f 10 = U64 (doM a.op.toNat a.imm M.pc (M.x a.rs1.toNat) (M.x a.rs2.toNat)).2 → f 11 = .bool true → f 12 = U8 a.rd → Blk w1 b4 #[U8 a.op, U8 a.rd, U8 a.rs1, U8 a.rs2, I64 a.imm] 104 → WC Tryz.prog mid26 165 f w1 (Fin26 S))  : CallsR Tryz.prog 26 #[ptr b 0] w (fun v w' => S v w') := by
 obtain ⟨cv, dv, sv, iv, ev, hb, ht⟩ := h
 have hb0 : Blk w b (refCells cv dv sv iv M.x M.pc ev false false (I64 M.steps)) 70 := by have h0 := hb; unfold RCells at h0; rw [hfin] at h0; exact h0
 have hi : ((M.pc - 65536#64) / 4#64).toNat < ws.length := (List.getElem?_eq_some_iff.1 hx).1
 have hxc : (wordCells ws)[((M.pc - 65536#64) / 4#64).toNat]? = some (U32 x) := by unfold wordCells; rw [List.getElem?_map, hx]; rfl
 have hop : a.op.toNat < 66 := by rw [ha]; exact dec_op_lt x
 refine callsR_of Tryz.func26 G G G ?_
 refine Sr (An (.bool false) G (Ni (Sq (Sr (Mv (ptr b 0) G (WL.nilCheck G G (Fa G fo70_7 ?_)))))))
 refine Lo G ag4 (hb0.cell (j := 38) G) (Ni (Cf G (WC.skip (Sr (Mv (ptr b 0) G (Mv (ptr b 0) G (WL.nilCheck G G (Fa G fo70_9 ?_))))))))
 refine Lo G ag3 (hb0.cell (j := 40) G) (Bn (vy := I64 (1#64)) G G BinR.add64 (WL.nilCheck G G (Fa G fo70_9 (WL.storeB (v := I64 ((M.steps + 1#64))) G G G sz3 hb0 (Nat.le_of_ble_eq_true G) ?_))))
 intro ws1 ms1 bs1 zs1
 have E1 : Mod (fun k => T k = 1) w ws1 := (ms1.imp (fun i _ e => by subst e; exact ht.tb))
 refine Ni (Sr (Mv (ptr b 0) G (WL.nilCheck G G (Fa G fo70_5 (Lo G ag39 (bs1.cell (j := 36) G) (Bn (vy := U64 (65536#64)) G G BinR.subU64 (An (U64 ((M.pc - 65536#64))) G (Ni ?_))))))))
 refine Sq (Sq ?_)
 refine WC.cut (fun f' w_ => f' 0 = ptr b 0 ∧ f' 2 = .bool false ∧ f' 3 = U64 ((M.pc - 65536#64)) ∧ f' 13 = ptr b 0 ∧ f' 14 = ptr b 0 ∧ f' 15 = ptr b 38 ∧ f' 16 = .bool false ∧ f' 17 = ptr b 0 ∧ f' 18 = ptr b 0 ∧ f' 19 = ptr b 0 ∧ f' 20 = ptr b 40 ∧ f' 21 = I64 M.steps ∧ f' 22 = I64 ((M.steps + 1#64)) ∧ f' 23 = ptr b 0 ∧ f' 24 = ptr b 40 ∧ f' 25 = ptr b 0 ∧ f' 26 = ptr b 0 ∧ f' 27 = ptr b 36 ∧ f' 28 = U64 M.pc ∧ f' 29 = U64 ((M.pc - 65536#64)) ∧ f' 50 = .bool ((BitVec.ult M.pc 65536#64 || (((M.pc - 65536#64) % 4#64 != 0#64) || BitVec.ule (BitVec.ofNat 64 ws.length) ((M.pc - 65536#64) / 4#64)))) ∧ ws1 = w_) ?_ ?_
 ·refine Rg (Mv (ptr b 0) G (WL.nilCheck G G (Fa G fo70_5 (Lo G ag39 (bs1.cell (j := 36) G) (Bn (vy := U64 (65536#64)) G G BinR.lssU64 (Mv (.bool (BitVec.ult M.pc (65536#64))) G ?_))))))
  rcases Bool.eq_false_or_eq_true (BitVec.ult M.pc (65536#64)) with hg35 | hg35
  ·refine Gf true (Yb G G hg35) (Gf true (Yb G G hg35) (Gf true (Yb G G hg35) (Pk (b := true) (congrArg Value.bool hg35) G (Mv (.bool true) G (Gf true G (Gf true G (Gf true G (Gf true G (Gf true G ?_)))))))))
   refine Gf true G (Gf true G (Gf true G (Gf true G (Pk (b := true) G G (Ni ?_)))))
   have hcut : true = (BitVec.ult M.pc 65536#64 || (((M.pc - 65536#64) % 4#64 != 0#64) || BitVec.ule (BitVec.ofNat 64 ws.length) ((M.pc - 65536#64) / 4#64))) := by first | (rw [hg35]; rfl) | (rw [hg35, hg40]; rfl)
   exact ⟨G, G, G, G, G, G, G, G, G, G, G, G, G, G, G, G, G, G, G, G, G, congrArg Value.bool hcut, G⟩
  ·refine Gt (Yb G G hg35) (Mv (U64 ((M.pc - 65536#64))) G (Gt (Yb G G hg35) (Bn (vy := U64 (4#64)) G G (BinR.remU64 (by decide)) (Gt (Yb G G hg35) (Bn (vy := U64 (0#64)) G G BinR.neqU64 (Pk (b := false) (congrArg Value.bool hg35) G (Mv (.bool ((((M.pc - 65536#64) % 4#64) != 0#64))) G ?_)))))))
   rcases Bool.eq_false_or_eq_true ((((M.pc - 65536#64) % 4#64) != 0#64)) with hg40 | hg40
   ·refine Gf true (Yb G G hg40) (Gf true (Yb G G hg40) (Gf true (Yb G G hg40) (Gf true (Yb G G hg40) (Gf true (Yb G G hg40) (Gf true (Yb G G hg40) (Gf true (Yb G G hg40) (Gf true (Yb G G hg40) (Gf true (Yb G G hg40) (Pk (b := true) (congrArg Value.bool hg40) G ?_)))))))))
    refine Ni ?_
    have hcut : true = (BitVec.ult M.pc 65536#64 || (((M.pc - 65536#64) % 4#64 != 0#64) || BitVec.ule (BitVec.ofNat 64 ws.length) ((M.pc - 65536#64) / 4#64))) := by first | (rw [hg35]; rfl) | (rw [hg35, hg40]; rfl)
    exact ⟨G, G, G, G, G, G, G, G, G, G, G, G, G, G, G, G, G, G, G, G, G, congrArg Value.bool hcut, G⟩
   ·refine Gt (Yb G G hg40) (Mv (U64 ((M.pc - 65536#64))) G (Gt (Yb G G hg40) (Bn (vy := U64 (4#64)) G G (BinR.quoU64 (by decide)) (Gt (Yb G G hg40) (Mv (ptr b 0) G (Gt (Yb G G hg40) (WL.nilCheck G G (Gt (Yb G G hg40) (Fa G fo70_0 ?_)))))))))
    refine Gt (Yb G G hg40) (Lo G ag23 (bs1.cell (j := 0) G) (Gt (Yb G G hg40) ?_))
    have S2 := ht.code.mod' ms1 (fun g hg e => (fun e => by have := ht.tc b e; rw [ht.tb] at this; cases this) (hg.trans (congrArg some e)))
    refine WL.lenSl (sz := 1) (m := ws.length) (xs := wordCells ws) el23 G S2 G (Gt (Yb G G hg40) (Cv G (ConvR.nu64 Tryz.underlying3 Tryz.underlying39) (Gt (Yb G G hg40) (Bn G G BinR.geqU64 (Pk (b := false) (congrArg Value.bool hg40) G (Ni ?_))))))
    have hcut : (BitVec.ule (BitVec.ofNat 64 ws.length) (((M.pc - 65536#64) / 4#64))) = (BitVec.ult M.pc 65536#64 || (((M.pc - 65536#64) % 4#64 != 0#64) || BitVec.ule (BitVec.ofNat 64 ws.length) ((M.pc - 65536#64) / 4#64))) := by first | (rw [hg35]; rfl) | (rw [hg35, hg40]; rfl)
    exact ⟨G, G, G, G, G, G, G, G, G, G, G, G, G, G, G, G, G, G, G, G, G, congrArg Value.bool hcut, G⟩
 rintro fc5 _ ⟨hc5_0, hc5_2, hc5_3, hc5_13, hc5_14, hc5_15, hc5_16, hc5_17, hc5_18, hc5_19, hc5_20, hc5_21, hc5_22, hc5_23, hc5_24, hc5_25, hc5_26, hc5_27, hc5_28, hc5_29, hc5_50, rfl⟩
 refine Cf (hc5_50.trans (congrArg Value.bool hp)) (WC.skip (Sr (Mv (ptr b 0) hc5_0 (WL.nilCheck G G (Fa G fo70_0 (Lo G ag23 (bs1.cell (j := 0) G) (Mv (U64 ((M.pc - 65536#64))) hc5_3 (Bn (vy := U64 (4#64)) G G (BinR.quoU64 (by decide)) ?_))))))))
 have S3 := ht.code.mod' ms1 (fun g hg e => (fun e => by have := ht.tc b e; rw [ht.tb] at this; cases this) (hg.trans (congrArg some e)))
 refine WL.indexSl (sz := 1) (m := ws.length) (xs := wordCells ws) (i := ((M.pc - 65536#64) / 4#64).toNat) el23 sz50 G G hi S3 G ?_
 intro b60 o60 hb60 hc60
 refine WL.load1 rfl ag50 (by have h := hc60 (((M.pc - 65536#64) / 4#64).toNat * 1) _ (by rw [Nat.mul_one]; exact hxc); exact h) rfl (WL.call ca40 rfl rfl (decode_q x _) ?_)
 rintro _ wde ⟨rfl, ede⟩
 rw [← ha]
 have E4 : Mod (fun k => T k = 1) w wde := Mt E1 (Mod.ext ede)
 refine Mv (.tuple #[instV a, IN (decE x)]) G (Et G G (Et G G (WL.allocStore (v := .agg #[U8 a.op, U8 a.rd, U8 a.rs1, U8 a.rs2, I64 a.imm]) zt104 G sz104 G G G G ?_)))
 intro b4 w4 n4
 have E5 : Mod (fun k => T k = 1) w w4 := Mt E4 (Mod.ext n4.ext)
 refine An (IN (decE x)) G (Ni ?_)
 have hb4 : w.heap.size ≤ b4 := by have := n4.num; have := Mod.size E4; omega
 refine Sr (Fa G fo104_0 (Lo G ag5 (n4.blk.cell (j := 0) G) (WL.call ca41 G G (name_q a.op _ hop) ?_)))
 rintro _ wnm ⟨rfl, enm⟩
 rw [← hnm]
 have E6 : Mod (fun k => T k = 1) w wnm := Mt E5 (Mod.ext enm)
 refine An (St nm) G (Ni (Sq (Sr (Mv (IN (decE x)) G (Bn (v := .bool false) G G (BinR.toB BinR.neq hE0) (Mv (.bool false) G (Gt G (Mv (St nm) G ?_))))))))
 refine Gt G (Bn (v := .bool false) (vy := St [101, 98, 114, 101, 97, 107]) G G (BinR.toB BinR.eqlS hnb) (Pk (b := false) G G (Ni (Cf G (WC.skip (Sq (WC.draw (fun w_ => Ext wnm w_) 16 G mixed ?_)))))))
 intro wd_13 ed_13
 have R7 : Ext wnm wd_13 := ed_13
 have E8 : Mod (fun k => T k = 1) w wd_13 := Mt E6 (Mod.ext ed_13)
 refine Tk 0 (ptr b 0) G G (fun _ _ => Mv (ptr b 0) hc5_0 Ok) R7 (Tk 1 (ptr b4 2) G G (fun _ _ => Fa G fo104_2 Ok) R7 (Tk 2 (U8 a.rs1) G G (fun _ hS => Lo G ag5 (((n4.blk.ext enm).ext hS).cell (j := 2) G) Ok) R7 (Tn 3 (ptr b 0) G G (fun _ _ => WL.nilCheck G G Ok) R7 (Tk 4 (ptr b 4) G G (fun _ _ => Fa G fo70_4 Ok) R7 (Tk 5 (ptr b (4 + a.rs1.toNat)) G G (fun _ _ => WL.indexArr1 (i := a.rs1.toNat) ar68 sz39 G G hr1 G Ok) R7 (Tk 6 (U64 (M.x a.rs1.toNat)) G G (fun _ hS => Lo G ag39 ((((((bs1.ext ede).ext n4.ext).ext enm).ext hS)).cell (refCells_x _ _ _ _ _ _ _ _ _ _ hr1)) Ok) R7 (Tk 7 (ptr b 0) G G (fun _ _ => Mv (ptr b 0) hc5_0 Ok) R7 (Tk 8 (ptr b4 3) G G (fun _ _ => Fa G fo104_3 Ok) R7 (Tk 9 (U8 a.rs2) G G (fun _ hS => Lo G ag5 (((n4.blk.ext enm).ext hS).cell (j := 3) G) Ok) R7 ?_)))))))))
 refine Tn 10 (ptr b 0) G G (fun _ _ => WL.nilCheck G G Ok) R7 (Tk 11 (ptr b 4) G G (fun _ _ => Fa G fo70_4 Ok) R7 (Tk 12 (ptr b (4 + a.rs2.toNat)) G G (fun _ _ => WL.indexArr1 (i := a.rs2.toNat) ar68 sz39 G G hr2 G Ok) R7 (Tk 13 (U64 (M.x a.rs2.toNat)) G G (fun _ hS => Lo G ag39 ((((((bs1.ext ede).ext n4.ext).ext enm).ext hS)).cell (refCells_x _ _ _ _ _ _ _ _ _ _ hr2)) Ok) R7 (Tk 14 (U64 (M.x a.rs1.toNat)) G G (fun _ _ => An _ G Ok) R7 (Tk 15 (U64 (M.x a.rs2.toNat)) G G (fun _ _ => An _ G Ok) R7 (WA.done (by kernel_rfl) (Sq (WC.draw (fun w_ => Ext wd_13 w_) 13 G mixed ?_))))))))
 intro wd_14 ed_14
 have R29 : Ext wd_13 wd_14 := ed_14
 have E30 : Mod (fun k => T k = 1) w wd_14 := Mt E8 (Mod.ext ed_14)
 refine Tk 0 (.agg #[U8 a.op, U8 a.rd, U8 a.rs1, U8 a.rs2, I64 a.imm]) G G (fun _ hS => Ls _ G ag104 sz104 ((((n4.blk.ext enm).ext ed_13).ext hS)) Ok) R29 (Tk 1 (ptr b 0) G G (fun _ _ => Mv (ptr b 0) hc5_0 Ok) R29 (Tn 2 (ptr b 0) G G (fun _ _ => WL.nilCheck G G Ok) R29 (Tk 3 (ptr b 36) G G (fun _ _ => Fa G fo70_5 Ok) R29 (Tk 4 (U64 M.pc) G G (fun _ hS => Lo G ag39 ((((((bs1.ext ede).ext n4.ext).ext enm).ext ed_13).ext hS).cell (j := 36) G) Ok) R29 (Tk 5 (U64 (M.x a.rs1.toNat)) G G (fun _ _ => Mv _ G Ok) R29 (Tk 6 (U64 (M.x a.rs2.toNat)) G G (fun _ _ => Mv _ G Ok) R29 (WA.one (i := 7) (m' := 255) (by kernel_rfl) G G (WL.call ca42 G G (do_q a.op a.rd a.rs1 a.rs2 a.imm M.pc (M.x a.rs1.toNat) (M.x a.rs2.toNat) _ nm hop hnm) ?_))))))))
 rintro _ wdo ⟨rfl, edo⟩
 rw [hdo]
 have R40 := Mt R29 edo
 have E41 : Mod (fun k => T k = 1) w wdo := Mt E30 (Mod.ext edo)
 refine WL.behind R40 (Tk 8 (.tuple #[U64 (doM a.op.toNat a.imm M.pc (M.x a.rs1.toNat) (M.x a.rs2.toNat)).1, U64 (doM a.op.toNat a.imm M.pc (M.x a.rs1.toNat) (M.x a.rs2.toNat)).2]) G G (fun _ _ => Mv _ G Ok) R40 (Tk 9 (U64 ((doM a.op.toNat a.imm M.pc (M.x a.rs1.toNat) (M.x a.rs2.toNat)).1)) G G (fun _ _ => Et G G Ok) R40 (Tk 10 (U64 ((doM a.op.toNat a.imm M.pc (M.x a.rs1.toNat) (M.x a.rs2.toNat)).2)) G G (fun _ _ => Et G G Ok) R40 (Tk 11 (U64 ((doM a.op.toNat a.imm M.pc (M.x a.rs1.toNat) (M.x a.rs2.toNat)).1)) G G (fun _ _ => An _ G Ok) R40 (Tk 12 (U64 ((doM a.op.toNat a.imm M.pc (M.x a.rs1.toNat) (M.x a.rs2.toNat)).2)) G G (fun _ _ => An _ G Ok) R40 (WA.done (by kernel_rfl) (Sr (An (.bool true) G ?_))))))))
 refine Ni (Sr (Fa G fo104_1 ?_))
 have B47 := (((n4.blk.ext enm).ext ed_13).ext ed_14).ext edo
 refine Lo G ag5 (B47.cell (j := 1) G) (An (U8 a.rd) G (Ni ?_))
 have B48 := (((((bs1.ext ede).ext n4.ext).ext enm).ext ed_13).ext ed_14).ext edo
 exact hk _ b4 _ (⟨cv, dv, sv, iv, ev, (by unfold RCells; dsimp only; rw [hfin]; exact B48), (ht.own E41).regs M.x M.pc (M.steps + 1#64) M.fin⟩ : RR T wdo b { M with steps := M.steps + 1#64 } ws) E41 hb4 hc5_0 G G G G G G G G B47
end Go.Proofs.S
end
section
namespace Go.Proofs.S
open Go Go.Ux Go.Ux.Mach Go.Proofs Go.Proofs.M Go.Ux.Image
open Go.Proofs.N (doM loadsM)
set_option linter.unusedVariables false
theorem pc_bad {M : MS} {ws : List (BitVec 32)} (hc : M.code = ws.map decW) (h : pcBad M ws = true) : nextM M = none := by
 have hl : M.code.length = ws.length := by rw [hc, List.length_map]
 unfold pcBad at h
 unfold nextM
 by_cases h1 : BitVec.ult M.pc 65536#64 = true
 ·rw [if_pos h1]
 by_cases h2 : ((M.pc - 65536#64) % 4#64 != 0#64) = true
 ·rw [if_neg h1, if_pos h2]
 by_cases h3 : BitVec.ule (BitVec.ofNat 64 M.code.length) ((M.pc - 65536#64) / 4#64) = true
 ·rw [if_neg h1, if_neg h2, if_pos h3]
 ·rw [hl] at h3
  rw [Bool.eq_false_iff.2 h1, Bool.eq_false_iff.2 h2, Bool.eq_false_iff.2 h3] at h
  cases h
theorem pc_good {M : MS} {ws : List (BitVec 32)} (hc : M.code = ws.map decW) (hn : ws.length ≤ 1000000) (h : pcBad M ws = false) : ∃ x, ws[((M.pc - 65536#64) / 4#64).toNat]? = some x ∧ nextM M = if (decW x).2 = true then some (decI x) else none := by
 have hl : M.code.length = ws.length := by rw [hc, List.length_map]
 unfold pcBad at h
 rw [Bool.or_eq_false_iff, Bool.or_eq_false_iff] at h
 obtain ⟨h1, h2, h3⟩ := h
 have hlt : ((M.pc - 65536#64) / 4#64).toNat < ws.length := by
  have : ¬ ((BitVec.ofNat 64 ws.length).toNat ≤ ((M.pc - 65536#64) / 4#64).toNat) := by
   intro e
   have : BitVec.ule (BitVec.ofNat 64 ws.length) ((M.pc - 65536#64) / 4#64) = true := decide_eq_true e
   rw [this] at h3; cases h3
  rw [BitVec.toNat_ofNat] at this
  omega
 refine ⟨ws[((M.pc - 65536#64) / 4#64).toNat], List.getElem?_eq_getElem hlt, ?_⟩
 unfold nextM
 rw [if_neg (by rw [h1]; decide), if_neg (by rw [h2]; decide), if_neg (by rw [hl, h3]; decide)]
 have e : M.code[nextI M]? = some (decW ws[((M.pc - 65536#64) / 4#64).toNat]) := by
  rw [hc, List.getElem?_map]
  show (ws[((M.pc - 65536#64) / 4#64).toNat]?).map decW = _
  rw [List.getElem?_eq_getElem hlt]; rfl
 rw [e]
 have e2 : decW ws[((M.pc - 65536#64) / 4#64).toNat] = (decI ws[((M.pc - 65536#64) / 4#64).toNat], (decW ws[((M.pc - 65536#64) / 4#64).toNat]).2) := rfl
 rw [e2]
 cases (decW ws[((M.pc - 65536#64) / 4#64).toNat]).2 <;> rfl
theorem dec_good {x : BitVec 32} (h : (decW x).2 = true) : ∃ i, 1 ≤ i ∧ i < 65 ∧ decI x = decodeAt i x ∧ decE x = 0 ∧ (decI x).op.toNat = i := by
 rcases hf : findRow x tableD with _ | i
 ·have : (decW x).2 = false := by unfold decW decE; rw [hf]; rfl
  rw [this] at h; cases h
 ·have hi := findRow_lt hf
  rw [tableD_length] at hi
  obtain ⟨h1, h2⟩ := decI_of hf
  have h0 : i ≠ 0 := by
   rintro rfl
   unfold findRow at hf
   rw [List.findIdx?_eq_some_iff_getElem] at hf
   obtain ⟨_, h3, _⟩ := hf
   have : rowIs tableD[0] x = false := by
    show (((rvAt 0).form.mask != 0#32) && _) = false
    rw [row_zero]; rfl
   rw [this] at h3; cases h3
  have ho : (decI x).op.toNat = i := by rw [h1]; show (BitVec.ofNat 8 i).toNat = i; rw [BitVec.toNat_ofNat]; omega
  have h65 : i ≠ 65 := by
   rintro rfl
   have : (decW x).2 = ((decI x).op != 65#8) := decW_T (by rw [h2]; rfl)
   have e : (decI x).op = 65#8 := by rw [h1]; rfl
   rw [this, e] at h; cases h
  exact ⟨i, by omega, by omega, h1, h2, ho⟩
theorem all66 {p : Nat → Bool} (h : ((List.range 66).all p) = true) {i : Nat} (hi : i < 66) : p i = true := List.all_eq_true.1 h i (List.mem_range.2 hi)
theorem put_eq {M : MS} {a : RvInst} {i : Nat} (ho : a.op.toNat = i) (hi : i < 66) (hw : writesF a = !(a.rd == 0#8)) (v nx : BitVec 64) : putQ M (rvAt i).name a.rd v nx = putM M a v nx := by
 have hf := all66 say_fence hi
 have e63 : (a.op != 63#8) = !(i == 63) := by
  have : (a.op == 63#8) = (i == 63) := by
   rw [← ho]
   by_cases h : a.op = 63#8
   ·rw [h]; rfl
   ·have h2 : a.op.toNat ≠ 63 := fun e => h (BitVec.eq_of_toNat_eq e)
    rw [beq_eq_false_iff_ne.2 h, beq_eq_false_iff_ne.2 h2]
  show (!(a.op == 63#8)) = _
  rw [this]
 have hn : ((rvAt i).name == [102, 101, 110, 99, 101]) = (i == 63) := by simpa using hf
 unfold putQ putR putM
 rw [hn, hw, e63]
 rcases hq : (i == 63) with _ | _
 ·have hz : (!(a.rd == 0#8)) = BitVec.ult 0#8 a.rd := by
   unfold BitVec.ult
   by_cases h : a.rd = 0#8
   ·rw [h]; rfl
   ·have h2 : 0 < a.rd.toNat := by
     rcases Nat.eq_zero_or_pos a.rd.toNat with h0 | h0
     ·exact absurd (BitVec.eq_of_toNat_eq h0) h
     ·exact h0
    rw [beq_eq_false_iff_ne.2 h]; exact (decide_eq_true h2).symm
  rw [hz]; simp only [Bool.false_eq_true, if_false, Bool.not_false, Bool.and_true]
 ·simp only [if_true, Bool.not_true, Bool.and_false, Bool.false_eq_true, if_false]
  rfl
theorem finNone (M : MS) (h : M.fin = none) : { M with fin := none } = M := by cases M; cases h; rfl
theorem stepR_spec (T : Nat → Nat) (b : Nat) (M : MS) (ws : List (BitVec 32)) (w : World) (h : RR T w b M ws) (hws : ws.length ≤ 1000000) (he : M.events.length < 8796093022208) :
  CallsR Tryz.prog 26 #[ptr b 0] w (fun v w' => v = .bool M.fin.isNone ∧ TurnR T w b (stepV M) ws w') := by
 rcases hfin : M.fin with _ | t
 rotate_left
 ·refine (stepR_end T b M ws w h t hfin).mono fun v w' ⟨hv, e⟩ => ⟨hv, ?_⟩
  have : stepV M = M := by unfold stepV; rw [hfin]; rfl
  rw [this]; exact TurnR.ext (TurnR.refl h) e
 have hsv : stepV M = stepM M := stepV_none hfin
 rw [hsv]
 have hcm : M.code = ws.map decW := by obtain ⟨_, _, _, _, _, _, ht⟩ := h; exact ht.cm
 rcases hp : pcBad M ws with _ | _
 rotate_left
 ·have hn := pc_bad hcm hp
  refine (stepR_bad T b M ws w h hfin hp).mono fun v w' ⟨hv, e⟩ => ⟨hv, ?_⟩
  have : stepM M = { M with steps := M.steps + 1#64, fin := some true } := by unfold stepM; rw [hn]
  rw [this]; exact e
 obtain ⟨x, hx, hn⟩ := pc_good hcm hws hp
 rcases hd : (decW x).2 with _ | _
 ·rw [hd, if_neg (by decide)] at hn
  have hs : stepM M = { M with steps := M.steps + 1#64, fin := some true } := by unfold stepM; rw [hn]
  rw [hs]
  refine stepR_dec T b M ws w h hfin hp x hx (decI x) G (rvAt (decI x).op.toNat).name G ?_
  rw [Bool.or_eq_true]
  rcases hE : (((decE x : Nat) : Int) == (0 : Int)) with _ | _
  ·left; show (!(((decE x : Nat) : Int) == (0 : Int))) = true; rw [hE]; rfl
  ·right
   rw [decW_T hE] at hd
   have h65 : (decI x).op = 65#8 := by simpa using hd
   rw [h65]; rfl
 rw [hd, if_pos rfl] at hn
 obtain ⟨i, hi1, hi2, hdec, hdE, ho⟩ := dec_good hd
 obtain ⟨_, ho66, hr1, hr2, hrd⟩ := decI_ok hd
 have hw : writesF (decI x) = !((decI x).rd == 0#8) := by rw [hdec]; exact writes_dec hi1 (by omega)
 have hnb : ((rvAt i).name == [101, 98, 114, 101, 97, 107]) = false := by
  have h1 := all66 say_break (i := i) (by omega)
  have h2 : ((rvAt i).name == [101, 98, 114, 101, 97, 107]) = (i == 65) := by simpa using h1
  rw [h2]; exact beq_eq_false_iff_ne.2 (by omega)
 have hlong : 0 < (rvAt i).name.length := by
  have h1 := all66 say_long (i := i) (by omega)
  rw [Bool.or_eq_true] at h1
  rcases h1 with h1 | h1
  ·have : i = 0 := by simpa using h1
   omega
  ·exact of_decide_eq_true h1
 have hlen6 := name_len (i := i) (by omega)
 generalize ha : decI x = a at *
 have hs : stepM M = { (doesM { M with steps := M.steps + 1#64 } a).1 with fin := (doesM { M with steps := M.steps + 1#64 } a).2 } := by unfold stepM; rw [hn]
 refine stepR_go T b M ws w h hfin hp x hx a ha.symm (rvAt i).name (by rw [ho]) (fun v w' => v = .bool true ∧ TurnR T w b (stepM M) ws w') (by rw [hdE]; rfl) hnb hr1 hr2 (by rw [do_eq i _ _ _ _ hi1 (by omega), ho]) ?_
 intro f b4 w1 hR1 mw hb4 f0 f4 f6 f7 f8 f9 f10 f11 f12 h4
 have pre : ∀ {M2 : MS} {w2 : World}, TurnR T w1 b M2 ws w2 → TurnR T w b M2 ws w2 := fun h => TurnR.trans (Mod.fp mw) (fun _ h => .inl h) h
 have t4 : T b4 = 0 := by
  rcases Nat.eq_zero_or_pos (T b4) with h0 | h0
  ·exact h0
  ·have := h.lt b4 (by omega); omega
 have put : ∀ (M' : MS) (v nx : BitVec 64), putQ M' (rvAt i).name a.rd v nx = putM M' a v nx := fun M' v nx => put_eq ho (by omega) hw v nx
 have f1 : ({ M with steps := M.steps + 1#64 } : MS).fin = none := hfin
 rw [hs]
 by_cases hz : 0 < (loadsM i).1
 ·-- a load
  have hsay := all66 say_loads (i := i) (by omega)
  rw [decide_eq_true hz, Bool.not_true, Bool.false_or, Bool.and_eq_true, Bool.and_eq_true] at hsay
  obtain ⟨⟨k1, k2⟩, k3⟩ := hsay
  have kz : sizeQ (rvAt i).name = (loadsM i).1 := by simpa using k2
  have ksg : (cL i != 117#8) = (loadsM i).2 := by simpa using k3
  have kc : c0 i = 108#8 := by simpa using k1
  have q1 : (((rvAt i).name.getD 0 0).toBitVec == 108#8) = true := k1
  have q2 : (((rvAt i).name.getD 0 0).toBitVec == 115#8) = false := by show (c0 i == 115#8) = false; rw [kc]; rfl
  have q3 : (((rvAt i).name.getD 0 0).toBitVec == 101#8) = false := by show (c0 i == 101#8) = false; rw [kc]; rfl
  rcases hW : whereM M.n (M.x a.rs1.toNat + a.imm) (loadsM i).1 with _ | ⟨k, o⟩
  ·have hr : doesM { M with steps := M.steps + 1#64 } a = ({ M with steps := M.steps + 1#64 }, some true) := by
    unfold doesM; dsimp only; rw [ho, if_pos hz, hW]
   rw [hr]
   exact mid_loadno T b b4 _ ws a (rvAt i).name _ _ _ _ _ f w1 hR1 f0 f4 f6 f7 f8 f9 f10 f11 f12 h4 hlong hrd q1 q2 q3 (loadsM i).1 kz (loads_size hz) (by omega) hW (fun w2 h2 => ⟨G, pre h2⟩)
  ·have hr : doesM { M with steps := M.steps + 1#64 } a = (putM { M with steps := M.steps + 1#64 } a (loadV M.d M.s k o (loadsM i).1 (loadsM i).2) (doM a.op.toNat a.imm M.pc (M.x a.rs1.toNat) (M.x a.rs2.toNat)).2, none) := by
    unfold doesM; dsimp only; rw [ho, if_pos hz, hW]
   rw [hr]
   have hfn : { putM { M with steps := M.steps + 1#64 } a (loadV M.d M.s k o (loadsM i).1 (loadsM i).2) (doM a.op.toNat a.imm M.pc (M.x a.rs1.toNat) (M.x a.rs2.toNat)).2 with fin := none } = putM { M with steps := M.steps + 1#64 } a (loadV M.d M.s k o (loadsM i).1 (loadsM i).2) (doM a.op.toNat a.imm M.pc (M.x a.rs1.toNat) (M.x a.rs2.toNat)).2 := finNone _ hfin
   dsimp only at hfn ⊢
   rw [hfn]
   rcases hsg : (loadsM i).2 with _ | _
   ·rw [hsg] at ksg
    exact mid_load_false T b b4 _ ws a (rvAt i).name _ _ _ _ _ f w1 hR1 f0 f4 f6 f7 f8 f9 f10 f11 f12 h4 hlong hrd q1 q2 q3 (loadsM i).1 kz (loads_size hz) (by omega) ksg k o hW (fun w2 h2 => ⟨G, by rw [put] at h2; exact pre h2⟩)
   ·rw [hsg] at ksg
    exact mid_load_true T b b4 _ ws a (rvAt i).name _ _ _ _ _ f w1 hR1 f0 f4 f6 f7 f8 f9 f10 f11 f12 h4 hlong hrd q1 q2 q3 (loadsM i).1 kz (loads_size hz) (by omega) ksg k o hW (fun w2 h2 => ⟨G, by rw [put] at h2; exact pre h2⟩)
 by_cases hst : 18 ≤ i ∧ i ≤ 21
 ·-- a store
  have hsay := all66 say_stores (i := i) (by omega)
  rw [decide_eq_true hst, Bool.not_true, Bool.false_or, Bool.and_eq_true, Bool.and_eq_true] at hsay
  obtain ⟨⟨k1, k2⟩, k3⟩ := hsay
  have kz : sizeQ (rvAt i).name = 2 ^ (i - 18) := by simpa using k3
  have kc : c0 i = 115#8 := by simpa using k1
  have q1 : (((rvAt i).name.getD 0 0).toBitVec == 108#8) = false := by show (c0 i == 108#8) = false; rw [kc]; rfl
  have q2 : (((rvAt i).name.getD 0 0).toBitVec == 115#8) = true := k1
  have q3 : (((rvAt i).name.getD 0 0).toBitVec == 101#8) = false := by show (c0 i == 101#8) = false; rw [kc]; rfl
  have hzz : 2 ^ (i - 18) = 1 ∨ 2 ^ (i - 18) = 2 ∨ 2 ^ (i - 18) = 4 ∨ 2 ^ (i - 18) = 8 := by
   have : i = 18 ∨ i = 19 ∨ i = 20 ∨ i = 21 := by omega
   rcases this with rfl | rfl | rfl | rfl <;> decide
  rcases hW : whereM M.n (M.x a.rs1.toNat + a.imm) (2 ^ (i - 18)) with _ | ⟨k, o⟩
  ·have hr : doesM { M with steps := M.steps + 1#64 } a = ({ M with steps := M.steps + 1#64 }, some true) := by
    unfold doesM; dsimp only; rw [ho, if_neg hz, if_pos hst, hW]
   rw [hr]
   exact mid_storeno T b b4 _ ws a (rvAt i).name _ _ _ _ _ f w1 hR1 f0 f4 f6 f7 f8 f9 f10 f11 f12 h4 hlong hrd q1 q2 q3 (2 ^ (i - 18)) kz hzz hW (fun w2 h2 => ⟨G, pre h2⟩)
  ·have hr : doesM { M with steps := M.steps + 1#64 } a = (putM (storeM { M with steps := M.steps + 1#64 } k o (2 ^ (i - 18)) (M.x a.rs2.toNat)) a (doM a.op.toNat a.imm M.pc (M.x a.rs1.toNat) (M.x a.rs2.toNat)).1 (doM a.op.toNat a.imm M.pc (M.x a.rs1.toNat) (M.x a.rs2.toNat)).2, none) := by
    unfold doesM; dsimp only; rw [ho, if_neg hz, if_pos hst, hW]
   rw [hr]
   have hfs : (storeM { M with steps := M.steps + 1#64 } k o (2 ^ (i - 18)) (M.x a.rs2.toNat)).fin = none := by cases k <;> exact hfin
   have hfn := finNone (putM (storeM { M with steps := M.steps + 1#64 } k o (2 ^ (i - 18)) (M.x a.rs2.toNat)) a (doM a.op.toNat a.imm M.pc (M.x a.rs1.toNat) (M.x a.rs2.toNat)).1 (doM a.op.toNat a.imm M.pc (M.x a.rs1.toNat) (M.x a.rs2.toNat)).2) hfs
   dsimp only at hfn ⊢
   rw [hfn]
   exact mid_store T b b4 _ ws a (rvAt i).name _ _ _ _ _ f w1 hR1 f0 f4 f6 f7 f8 f9 f10 f11 f12 h4 hlong hrd q1 q2 q3 t4 (2 ^ (i - 18)) kz hzz k o hW (fun w2 h2 => ⟨G, by rw [put] at h2; exact pre h2⟩)
 by_cases h64 : i = 64
 ·subst h64
  obtain ⟨q1, q2, q3⟩ := say_call
  have hcall : doesM { M with steps := M.steps + 1#64 } a = (if (callsM { M with steps := M.steps + 1#64 }).2 == some true then (callsM { M with steps := M.steps + 1#64 }).1 else putM (callsM { M with steps := M.steps + 1#64 }).1 a (doM a.op.toNat a.imm M.pc (M.x a.rs1.toNat) (M.x a.rs2.toNat)).1 (doM a.op.toNat a.imm M.pc (M.x a.rs1.toNat) (M.x a.rs2.toNat)).2, (callsM { M with steps := M.steps + 1#64 }).2) := by
   unfold doesM; dsimp only; rw [ho, if_neg hz, if_neg hst, if_pos rfl]
  rw [hcall]
  rcases hok : ((callsM { M with steps := M.steps + 1#64 }).2 == some true) with _ | _
  ·refine mid_call T b b4 _ ws a (rvAt 64).name _ _ _ _ _ f w1 hR1 f0 f4 f6 f7 f8 f9 f10 f11 f12 h4 hlong hrd q1 q2 q3 he f1 hok (fun w2 h2 => ⟨G, ?_⟩)
   rw [put] at h2
   have e : putM (callsR { M with steps := M.steps + 1#64 }) a (doM a.op.toNat a.imm M.pc (M.x a.rs1.toNat) (M.x a.rs2.toNat)).1 (doM a.op.toNat a.imm M.pc (M.x a.rs1.toNat) (M.x a.rs2.toNat)).2 = { putM (callsM { M with steps := M.steps + 1#64 }).1 a (doM a.op.toNat a.imm M.pc (M.x a.rs1.toNat) (M.x a.rs2.toNat)).1 (doM a.op.toNat a.imm M.pc (M.x a.rs1.toNat) (M.x a.rs2.toNat)).2 with fin := (callsM { M with steps := M.steps + 1#64 }).2 } := by
    unfold callsR putM
    dsimp only
    rcases hc : (callsM { M with steps := M.steps + 1#64 }).2 with _ | t
    ·rw [hfin]
    ·cases t
     ·rfl
     ·rw [hc] at hok; cases hok
   rw [e] at h2
   exact pre h2
  ·refine mid_callno T b b4 _ ws a (rvAt 64).name _ _ _ _ _ f w1 hR1 f0 f4 f6 f7 f8 f9 f10 f11 f12 h4 hlong hrd q1 q2 q3 he f1 hok (fun w2 h2 => ⟨G, ?_⟩)
   have hc : (callsM { M with steps := M.steps + 1#64 }).2 = some true := by simpa using hok
   have e : ({ callsR { M with steps := M.steps + 1#64 } with fin := some true } : MS) = { (callsM { M with steps := M.steps + 1#64 }).1 with fin := (callsM { M with steps := M.steps + 1#64 }).2 } := by rw [hc]; rfl
   rw [e] at h2
   exact pre h2
 -- the others
 have hr : doesM { M with steps := M.steps + 1#64 } a = (putM { M with steps := M.steps + 1#64 } a (doM a.op.toNat a.imm M.pc (M.x a.rs1.toNat) (M.x a.rs2.toNat)).1 (doM a.op.toNat a.imm M.pc (M.x a.rs1.toNat) (M.x a.rs2.toNat)).2, none) := by
  unfold doesM; dsimp only; rw [ho, if_neg hz, if_neg hst, if_neg h64]
 rw [hr]
 have hfn := finNone (putM { M with steps := M.steps + 1#64 } a (doM a.op.toNat a.imm M.pc (M.x a.rs1.toNat) (M.x a.rs2.toNat)).1 (doM a.op.toNat a.imm M.pc (M.x a.rs1.toNat) (M.x a.rs2.toNat)).2) hfin
 dsimp only at hfn ⊢
 rw [hfn]
 have hsay := all66 say_else (i := i) (by omega)
 rw [decide_eq_false hz, decide_eq_false hst, beq_eq_false_iff_ne.2 h64, beq_eq_false_iff_ne.2 (show i ≠ 65 by omega), beq_eq_false_iff_ne.2 (show i ≠ 0 by omega)] at hsay
 simp only [Bool.false_or, Bool.and_eq_true] at hsay
 obtain ⟨k1, k2⟩ := hsay
 have kz : sizeQ (rvAt i).name = 0 := by simpa using k1
 have q3 : (((rvAt i).name.getD 0 0).toBitVec == 101#8) = false := by
  rcases h9 : (c0 i == 101#8) with _ | _
  ·exact h9
  ·rw [h9] at k2; cases k2
 have hS : ∀ w', TurnR T w1 b (putQ { M with steps := M.steps + 1#64 } (rvAt i).name a.rd (doM a.op.toNat a.imm M.pc (M.x a.rs1.toNat) (M.x a.rs2.toNat)).1 (doM a.op.toNat a.imm M.pc (M.x a.rs1.toNat) (M.x a.rs2.toNat)).2) ws w' → (Value.bool true = Value.bool true ∧ TurnR T w b (putM { M with steps := M.steps + 1#64 } a (doM a.op.toNat a.imm M.pc (M.x a.rs1.toNat) (M.x a.rs2.toNat)).1 (doM a.op.toNat a.imm M.pc (M.x a.rs1.toNat) (M.x a.rs2.toNat)).2) ws w') := fun w2 h2 => ⟨rfl, by rw [put] at h2; exact pre h2⟩
 rcases q1 : (((rvAt i).name.getD 0 0).toBitVec == 108#8) with _ | _
 ·rcases q2 : (((rvAt i).name.getD 0 0).toBitVec == 115#8) with _ | _
  ·exact mid_o0 T b b4 _ ws a (rvAt i).name _ _ _ _ _ f w1 hR1 f0 f4 f6 f7 f8 f9 f10 f11 f12 h4 hlong hrd q1 q2 q3 hS
  ·exact mid_s0 T b b4 _ ws a (rvAt i).name _ _ _ _ _ f w1 hR1 f0 f4 f6 f7 f8 f9 f10 f11 f12 h4 hlong hrd q1 q2 q3 0 kz G hS
 ·have kc : ((rvAt i).name.getD 0 0).toBitVec = 108#8 := by simpa using q1
  have q2 : (((rvAt i).name.getD 0 0).toBitVec == 115#8) = false := by rw [kc]; rfl
  exact mid_l0 T b b4 _ ws a (rvAt i).name _ _ _ _ _ f w1 hR1 f0 f4 f6 f7 f8 f9 f10 f11 f12 h4 hlong hrd q1 q2 q3 0 kz G hS
end Go.Proofs.S
end
section
set_option linter.unusedSimpArgs false
set_option linter.unusedVariables false
namespace Go.Proofs.S
open Go Go.Ux Go.Ux.Mach Go.Proofs
open Go.Ux.Image
theorem rnewT (u wv iv0 : Value) (I : Img) (inp : List (BitVec 64)) (w : World) (hw : Sl w wv 1 I.words.length (wordCells I.words)) (hwl : I.words.length ≤ 1000000) (hI : Sl w iv0 1 inp.length (inp.map I64)) (hil : inp.length ≤ 1000000) (h0 : 0 ≤ I.entry) (hE : I.entry ≤ 524288) (hu : u.oneCell' = true) (hwz : 0 < I.words.length) : CallsR Tryz.prog 22 #[.agg #[.int .i64 I.entry, u, wv], iv0] w (fun v w' => ∃ T b, v = ptr b 0 ∧ RR T w' b (newM I inp) I.words ∧ (∀ k, T k ≠ 0 → w.heap.size ≤ k) ∧ Ext w w') := by
 have hent : Value.int .i64 I.entry = IN I.entry.toNat := by show Value.int .i64 I.entry = Value.int .i64 ((I.entry.toNat : Nat) : Int); congr 1; omega
 refine callsR_of Tryz.func22 G G G ?_
 refine Sr (WL.box (v := .agg #[.int .i64 I.entry, u, wv]) G G ?_)
 intro b2 w2 n2
 have E1 : Ext w w2 := n2.ext
 refine An (.pointer none) G (Ni (Sq (WC.draw (fun w_ => Ext w2 w_) 7 G mixed ?_)))
 intro wd_1 ed_1
 have R2 : Ext w2 wd_1 := ed_1
 have E3 := Mt E1 ed_1
 refine Tk 0 (ptr b2 0) G G (fun _ _ => Fa G fo61_0 Ok) R2 (Tk 1 (.int .i64 I.entry) G G (fun _ hS => Lo G ag3 ((n2.blk.ext hS).cell (j := 0) G) Ok) R2 ?_)
 refine WA.two (i := 2) (j := 3) (mi := 7) (mj := 11) (by kernel_rfl) G G G G ?_ ?_
 ·refine WL.makeSliceB (m := I.entry.toNat) ap45 (Eq.trans G hent) (Eq.trans G hent) (by omega) (by omega) G ?_
  intro b8 w8 n8
  have R7 := Mt R2 n8.ext
  have E8 := Mt E3 n8.ext
  have g8 : w.heap.size ≤ b8 := by have := n8.num; have := Mod.size E3; omega
  refine WL.behind R7 (WA.one (i := 3) (m' := 15) (by kernel_rfl) G G (WL.makeSliceB (m := 65536) ap45 G G (by omega) (by omega) G ?_))
  intro b9 w9 n9
  have R9 := Mt R7 n9.ext
  have E10 := Mt E8 n9.ext
  have g9 : w.heap.size ≤ b9 := by have := n9.num; have := Mod.size E8; omega
  have h89 : b8 ≠ b9 := by have h1 := n8.blk.lt; have := n9.num; omega
  refine WL.behind R9 (Tk 4 (.agg #[.slice none 0 0, .slice (some ⟨b8, 0, none⟩) I.entry.toNat I.entry.toNat, .slice (some ⟨b9, 0, none⟩) 65536 65536, .slice none 0 0, .int .u64 0, .int .u64 0, .int .u64 0, .int .u64 0, .int .u64 0, .int .u64 0, .int .u64 0, .int .u64 0, .int .u64 0, .int .u64 0, .int .u64 0, .int .u64 0, .int .u64 0, .int .u64 0, .int .u64 0, .int .u64 0, .int .u64 0, .int .u64 0, .int .u64 0, .int .u64 0, .int .u64 0, .int .u64 0, .int .u64 0, .int .u64 0, .int .u64 0, .int .u64 0, .int .u64 0, .int .u64 0, .int .u64 0, .int .u64 0, .int .u64 0, .int .u64 0, U64 (65536#64), .slice none 0 0, .bool false, .bool false, IN 0]) G G (fun _ _ => WL.build (v := .agg #[.slice none 0 0, .slice (some ⟨b8, 0, none⟩) I.entry.toNat I.entry.toNat, .slice (some ⟨b9, 0, none⟩) 65536 65536, .slice none 0 0, .int .u64 0, .int .u64 0, .int .u64 0, .int .u64 0, .int .u64 0, .int .u64 0, .int .u64 0, .int .u64 0, .int .u64 0, .int .u64 0, .int .u64 0, .int .u64 0, .int .u64 0, .int .u64 0, .int .u64 0, .int .u64 0, .int .u64 0, .int .u64 0, .int .u64 0, .int .u64 0, .int .u64 0, .int .u64 0, .int .u64 0, .int .u64 0, .int .u64 0, .int .u64 0, .int .u64 0, .int .u64 0, .int .u64 0, .int .u64 0, .int .u64 0, .int .u64 0, U64 (65536#64), .slice none 0 0, .bool false, .bool false, IN 0]) (vs := [(1, .slice (some ⟨b8, 0, none⟩) I.entry.toNat I.entry.toNat), (2, .slice (some ⟨b9, 0, none⟩) 65536 65536), (5, U64 (65536#64))]) G (bld22_10 b8 b9 I.entry.toNat 65536) G Ok) R9 (WA.one (i := 5) (m' := 63) (by kernel_rfl) G G ?_))
  have B12 := n8.blk.ext n9.ext
  refine WL.box (v := .agg #[.slice none 0 0, .slice (some ⟨b8, 0, none⟩) I.entry.toNat I.entry.toNat, .slice (some ⟨b9, 0, none⟩) 65536 65536, .slice none 0 0, .int .u64 0, .int .u64 0, .int .u64 0, .int .u64 0, .int .u64 0, .int .u64 0, .int .u64 0, .int .u64 0, .int .u64 0, .int .u64 0, .int .u64 0, .int .u64 0, .int .u64 0, .int .u64 0, .int .u64 0, .int .u64 0, .int .u64 0, .int .u64 0, .int .u64 0, .int .u64 0, .int .u64 0, .int .u64 0, .int .u64 0, .int .u64 0, .int .u64 0, .int .u64 0, .int .u64 0, .int .u64 0, .int .u64 0, .int .u64 0, .int .u64 0, .int .u64 0, U64 (65536#64), .slice none 0 0, .bool false, .bool false, IN 0]) G G ?_
  intro b11 w11 n11
  have R13 := Mt R9 n11.ext
  have E14 := Mt E10 n11.ext
  have hx8 : b8 ≠ b11 := by have h1 := B12.lt; have := n11.num; omega
  have hx9 : b9 ≠ b11 := by have h1 := n9.blk.lt; have := n11.num; omega
  have hy8 : b8 < b11 := by have h1 := B12.lt; have := n11.num; omega
  have hy9 : b9 < b11 := by have h1 := n9.blk.lt; have := n11.num; omega
  refine WL.behind R13 (Tk 6 (ptr b11 0) G G (fun _ _ => An _ G Ok) R13 (WA.done (by kernel_rfl) (Sq (WC.drawL (fun w_ => Ext w11 w_) 10 11 G mixed ?_))))
  intro wd_2 ed_2
  have R16 : Ext w11 wd_2 := ed_2
  have E17 := Mt E14 ed_2
  refine Tl 0 (ptr b11 0) G G (fun _ _ => Mv _ G Ok) R16 (Tl 1 (ptr b11 0) G G (fun _ _ => Mv _ G Ok) R16 (Tl 2 (ptr b11 0) G G (fun _ _ => WL.nilCheck G G Ok) R16 (Tl 3 (ptr b11 0) G G (fun _ _ => Fa G fo70_0 Ok) R16 (Tl 4 (.slice none 0 0) G G (fun _ hS => Lo G ag23 ((n11.blk.ext hS).cell (j := 0) G) Ok) R16 (Tl 5 (ptr b2 2) G G (fun _ _ => Fa G fo61_2 Ok) R16 (Tl 6 wv G G (fun _ hS => Lo G ag23 ((((((n2.blk.ext ed_1).ext n8.ext).ext n9.ext).ext n11.ext).ext hS).cell (j := 2) G) Ok) R16 (WAL.one (i := 7) (m' := 255) (by kernel_rfl) G G ?_)))))))
  have B27 := n11.blk.ext ed_2
  refine WL.append (k := 0) (m := I.words.length) (xs := []) (news := wordCells I.words) ap23 G G G (Ux.Own.nil _ 1) ((hw.ext' E17).src Tryz.underlying23 (ones_U32 _)) (by omega) (by omega) G ?_
  intro v19 w19 o19 m19 l19
  have e19 : Ext wd_2 w19 := Mod.then (Mod.refl _ _) m19 (fun i hi e => by cases e)
  have o19b : Ux.Own w19 1 v19 I.words.length (wordCells I.words) := by simpa using o19
  have x19 : v19.ownBlock ≠ some b11 := fun e => by rcases l19 with h | ⟨g, h, h2⟩; (rw [h] at e; cases e); (rw [h] at e; cases e; have := B27.lt; omega)
  have R28 := Mt R16 e19
  have E29 := Mt E17 e19
  have y19 : ∀ g, v19.ownBlock = some g → b11 < g := fun g e => by
   rcases l19 with h | ⟨g2, h, h2⟩
   ·rw [h] at e; cases e
   ·rw [h] at e; cases e; have := B27.lt; omega
  refine WL.behindS R28 (WAL.one (i := 8) (m' := 511) (by kernel_rfl) G G (WL.nilCheck G G (WL.behindS R28 (Tl 9 (ptr b11 0) G G (fun _ _ => Fa G fo70_0 Ok) R28 (WAL.one (i := 10) (m' := 2047) (by kernel_rfl) G G ?_)))))
  have B31 := B27.ext e19
  refine WL.storeB (v := v19) G G o19b.sl.one sz23 B31 (Nat.le_of_ble_eq_true G) ?_
  intro ws32 ms32 bs32 zs32
  have E32 : Ext w ws32 := Mod.own E10 n11 E29 ms32
  refine WL.behindL (by kernel_rfl) (WAL.done (by kernel_rfl) (Sr (Mv (ptr b11 0) G (Mv (ptr b11 0) G (WL.nilCheck G G (Fa G fo70_3 (Lo G ag26 (bs32.cell (j := 3) G) (Mv iv0 G ?_))))))))
  have O33 := o19b.mod ms32 (fun g hg e => x19 (hg.trans (congrArg some e)))
  refine WL.append (k := 0) (m := inp.length) (xs := []) (news := inp.map I64) ap26 G G G (Ux.Own.nil _ 1) ((hI.ext' E32).src Tryz.underlying26 (ones_I64 _)) (by omega) (by omega) G ?_
  intro v28 w28 o28 m28 l28
  have e28 : Ext ws32 w28 := Mod.then (Mod.refl _ _) m28 (fun i hi e => by cases e)
  have o28b : Ux.Own w28 1 v28 inp.length (inp.map I64) := by simpa using o28
  have x28 : v28.ownBlock ≠ some b11 := fun e => by rcases l28 with h | ⟨g, h, h2⟩; (rw [h] at e; cases e); (rw [h] at e; cases e; have := bs32.lt; omega)
  have E34 := Mt E32 e28
  have y28 : ∀ g, v28.ownBlock = some g → b11 < g := fun g e => by
   rcases l28 with h | ⟨g2, h, h2⟩
   ·rw [h] at e; cases e
   ·rw [h] at e; cases e; have := bs32.lt; omega
  have hci : 0 < inp.length → ∀ g, v19.ownBlock = some g → v28.ownBlock ≠ some g := fun _ g e1 e2 => by
   have h1 := O33.lt hwz (by decide) e1
   rcases l28 with h | ⟨g2, h, h2⟩
   ·rw [h] at e2; cases e2
   ·rw [h] at e2; cases e2; omega
  refine WL.nilCheck G G (Fa G fo70_3 ?_)
  have B35 := bs32.ext e28
  refine WL.storeB (v := v28) G G o28b.sl.one sz26 B35 (Nat.le_of_ble_eq_true G) ?_
  intro ws36 ms36 bs36 zs36
  have E36 : Ext w ws36 := Mod.own E10 n11 E34 ms36
  refine Ni (Sr (Mv (ptr b11 0) G (WL.nilCheck G G (Fa G fo70_4 (WL.indexArr (i := 2) ar68 sz39 G G (by omega) G (WL.storeB (v := U64 (8388608#64)) G G G sz39 bs36 (Nat.le_of_ble_eq_true G) ?_))))))
  intro ws37 ms37 bs37 zs37
  have E37 : Ext w ws37 := Mod.own E10 n11 E36 ms37
  refine Ni (Sr (Mv (ptr b11 0) G (An (ptr b11 0) G (Ni (WC.ret ?_)))))
  have O38 := ((O33.ext e28).mod ms36 (fun g hg e => x19 (hg.trans (congrArg some e)))).mod ms37 (fun g hg e => x19 (hg.trans (congrArg some e)))
  have O39 := (((((((n8.blk.own.ext n9.ext).ext n11.ext).ext ed_2).ext e19).mod ms32 (fun g hg e => (fun e => hx8 (Option.some.inj e)) (hg.trans (congrArg some e)))).ext e28).mod ms36 (fun g hg e => (fun e => hx8 (Option.some.inj e)) (hg.trans (congrArg some e)))).mod ms37 (fun g hg e => (fun e => hx8 (Option.some.inj e)) (hg.trans (congrArg some e)))
  have O40 := ((((((n9.blk.own.ext n11.ext).ext ed_2).ext e19).mod ms32 (fun g hg e => (fun e => hx9 (Option.some.inj e)) (hg.trans (congrArg some e)))).ext e28).mod ms36 (fun g hg e => (fun e => hx9 (Option.some.inj e)) (hg.trans (congrArg some e)))).mod ms37 (fun g hg e => (fun e => hx9 (Option.some.inj e)) (hg.trans (congrArg some e)))
  have O41 := (o28b.mod ms36 (fun g hg e => x28 (hg.trans (congrArg some e)))).mod ms37 (fun g hg e => x28 (hg.trans (congrArg some e)))
  have B42 := ((((((B12.ext n11.ext).ext ed_2).ext e19).mod ms32 (by omega)).ext e28).mod ms36 (by omega)).mod ms37 (by omega)
  have B43 := ((((((n9.blk.ext n11.ext).ext ed_2).ext e19).mod ms32 (by omega)).ext e28).mod ms36 (by omega)).mod ms37 (by omega)
  obtain ⟨T, hT1, hT2⟩ := rr_new (w := w) bs37 O38 (by rw [← bsV_zero]; exact O39) (by rw [← bsV_zero]; exact O40) O41 g8 g9 h89 hy8 hy9 B42.lt B43.lt y19 y28 hci hwz (by omega)
  exact ⟨_, Res.one (v := ptr b11 0) G G, T, b11, G, hT1, hT2, E37⟩
 ·refine WL.makeSliceB (m := 65536) ap45 G G (by omega) (by omega) G ?_
  intro b9 w9 n9
  have R44 := Mt R2 n9.ext
  have E45 := Mt E3 n9.ext
  have g9 : w.heap.size ≤ b9 := by have := n9.num; have := Mod.size E3; omega
  refine WL.behind R44 (WA.one (i := 2) (m' := 15) (by kernel_rfl) G G (WL.makeSliceB (m := I.entry.toNat) ap45 (Eq.trans G hent) (Eq.trans G hent) (by omega) (by omega) G ?_))
  intro b8 w8 n8
  have R46 := Mt R44 n8.ext
  have E47 := Mt E45 n8.ext
  have g8 : w.heap.size ≤ b8 := by have := n8.num; have := Mod.size E45; omega
  have h89 : b8 ≠ b9 := by have h1 := n9.blk.lt; have := n8.num; omega
  refine WL.behind R46 (Tk 4 (.agg #[.slice none 0 0, .slice (some ⟨b8, 0, none⟩) I.entry.toNat I.entry.toNat, .slice (some ⟨b9, 0, none⟩) 65536 65536, .slice none 0 0, .int .u64 0, .int .u64 0, .int .u64 0, .int .u64 0, .int .u64 0, .int .u64 0, .int .u64 0, .int .u64 0, .int .u64 0, .int .u64 0, .int .u64 0, .int .u64 0, .int .u64 0, .int .u64 0, .int .u64 0, .int .u64 0, .int .u64 0, .int .u64 0, .int .u64 0, .int .u64 0, .int .u64 0, .int .u64 0, .int .u64 0, .int .u64 0, .int .u64 0, .int .u64 0, .int .u64 0, .int .u64 0, .int .u64 0, .int .u64 0, .int .u64 0, .int .u64 0, U64 (65536#64), .slice none 0 0, .bool false, .bool false, IN 0]) G G (fun _ _ => WL.build (v := .agg #[.slice none 0 0, .slice (some ⟨b8, 0, none⟩) I.entry.toNat I.entry.toNat, .slice (some ⟨b9, 0, none⟩) 65536 65536, .slice none 0 0, .int .u64 0, .int .u64 0, .int .u64 0, .int .u64 0, .int .u64 0, .int .u64 0, .int .u64 0, .int .u64 0, .int .u64 0, .int .u64 0, .int .u64 0, .int .u64 0, .int .u64 0, .int .u64 0, .int .u64 0, .int .u64 0, .int .u64 0, .int .u64 0, .int .u64 0, .int .u64 0, .int .u64 0, .int .u64 0, .int .u64 0, .int .u64 0, .int .u64 0, .int .u64 0, .int .u64 0, .int .u64 0, .int .u64 0, .int .u64 0, .int .u64 0, .int .u64 0, U64 (65536#64), .slice none 0 0, .bool false, .bool false, IN 0]) (vs := [(1, .slice (some ⟨b8, 0, none⟩) I.entry.toNat I.entry.toNat), (2, .slice (some ⟨b9, 0, none⟩) 65536 65536), (5, U64 (65536#64))]) G (bld22_10 b8 b9 I.entry.toNat 65536) G Ok) R46 (WA.one (i := 5) (m' := 63) (by kernel_rfl) G G ?_))
  have B49 := n9.blk.ext n8.ext
  refine WL.box (v := .agg #[.slice none 0 0, .slice (some ⟨b8, 0, none⟩) I.entry.toNat I.entry.toNat, .slice (some ⟨b9, 0, none⟩) 65536 65536, .slice none 0 0, .int .u64 0, .int .u64 0, .int .u64 0, .int .u64 0, .int .u64 0, .int .u64 0, .int .u64 0, .int .u64 0, .int .u64 0, .int .u64 0, .int .u64 0, .int .u64 0, .int .u64 0, .int .u64 0, .int .u64 0, .int .u64 0, .int .u64 0, .int .u64 0, .int .u64 0, .int .u64 0, .int .u64 0, .int .u64 0, .int .u64 0, .int .u64 0, .int .u64 0, .int .u64 0, .int .u64 0, .int .u64 0, .int .u64 0, .int .u64 0, .int .u64 0, .int .u64 0, U64 (65536#64), .slice none 0 0, .bool false, .bool false, IN 0]) G G ?_
  intro b11 w11 n11
  have R50 := Mt R46 n11.ext
  have E51 := Mt E47 n11.ext
  have hx8 : b8 ≠ b11 := by have h1 := n8.blk.lt; have := n11.num; omega
  have hx9 : b9 ≠ b11 := by have h1 := B49.lt; have := n11.num; omega
  have hy8 : b8 < b11 := by have h1 := n8.blk.lt; have := n11.num; omega
  have hy9 : b9 < b11 := by have h1 := B49.lt; have := n11.num; omega
  refine WL.behind R50 (Tk 6 (ptr b11 0) G G (fun _ _ => An _ G Ok) R50 (WA.done (by kernel_rfl) (Sq (WC.drawL (fun w_ => Ext w11 w_) 10 11 G mixed ?_))))
  intro wd_2 ed_2
  have R53 : Ext w11 wd_2 := ed_2
  have E54 := Mt E51 ed_2
  refine Tl 0 (ptr b11 0) G G (fun _ _ => Mv _ G Ok) R53 (Tl 1 (ptr b11 0) G G (fun _ _ => Mv _ G Ok) R53 (Tl 2 (ptr b11 0) G G (fun _ _ => WL.nilCheck G G Ok) R53 (Tl 3 (ptr b11 0) G G (fun _ _ => Fa G fo70_0 Ok) R53 (Tl 4 (.slice none 0 0) G G (fun _ hS => Lo G ag23 ((n11.blk.ext hS).cell (j := 0) G) Ok) R53 (Tl 5 (ptr b2 2) G G (fun _ _ => Fa G fo61_2 Ok) R53 (Tl 6 wv G G (fun _ hS => Lo G ag23 ((((((n2.blk.ext ed_1).ext n9.ext).ext n8.ext).ext n11.ext).ext hS).cell (j := 2) G) Ok) R53 (WAL.one (i := 7) (m' := 255) (by kernel_rfl) G G ?_)))))))
  have B64 := n11.blk.ext ed_2
  refine WL.append (k := 0) (m := I.words.length) (xs := []) (news := wordCells I.words) ap23 G G G (Ux.Own.nil _ 1) ((hw.ext' E54).src Tryz.underlying23 (ones_U32 _)) (by omega) (by omega) G ?_
  intro v19 w19 o19 m19 l19
  have e19 : Ext wd_2 w19 := Mod.then (Mod.refl _ _) m19 (fun i hi e => by cases e)
  have o19b : Ux.Own w19 1 v19 I.words.length (wordCells I.words) := by simpa using o19
  have x19 : v19.ownBlock ≠ some b11 := fun e => by rcases l19 with h | ⟨g, h, h2⟩; (rw [h] at e; cases e); (rw [h] at e; cases e; have := B64.lt; omega)
  have R65 := Mt R53 e19
  have E66 := Mt E54 e19
  have y19 : ∀ g, v19.ownBlock = some g → b11 < g := fun g e => by
   rcases l19 with h | ⟨g2, h, h2⟩
   ·rw [h] at e; cases e
   ·rw [h] at e; cases e; have := B64.lt; omega
  refine WL.behindS R65 (WAL.one (i := 8) (m' := 511) (by kernel_rfl) G G (WL.nilCheck G G (WL.behindS R65 (Tl 9 (ptr b11 0) G G (fun _ _ => Fa G fo70_0 Ok) R65 (WAL.one (i := 10) (m' := 2047) (by kernel_rfl) G G ?_)))))
  have B68 := B64.ext e19
  refine WL.storeB (v := v19) G G o19b.sl.one sz23 B68 (Nat.le_of_ble_eq_true G) ?_
  intro ws69 ms69 bs69 zs69
  have E69 : Ext w ws69 := Mod.own E47 n11 E66 ms69
  refine WL.behindL (by kernel_rfl) (WAL.done (by kernel_rfl) (Sr (Mv (ptr b11 0) G (Mv (ptr b11 0) G (WL.nilCheck G G (Fa G fo70_3 (Lo G ag26 (bs69.cell (j := 3) G) (Mv iv0 G ?_))))))))
  have O70 := o19b.mod ms69 (fun g hg e => x19 (hg.trans (congrArg some e)))
  refine WL.append (k := 0) (m := inp.length) (xs := []) (news := inp.map I64) ap26 G G G (Ux.Own.nil _ 1) ((hI.ext' E69).src Tryz.underlying26 (ones_I64 _)) (by omega) (by omega) G ?_
  intro v28 w28 o28 m28 l28
  have e28 : Ext ws69 w28 := Mod.then (Mod.refl _ _) m28 (fun i hi e => by cases e)
  have o28b : Ux.Own w28 1 v28 inp.length (inp.map I64) := by simpa using o28
  have x28 : v28.ownBlock ≠ some b11 := fun e => by rcases l28 with h | ⟨g, h, h2⟩; (rw [h] at e; cases e); (rw [h] at e; cases e; have := bs69.lt; omega)
  have E71 := Mt E69 e28
  have y28 : ∀ g, v28.ownBlock = some g → b11 < g := fun g e => by
   rcases l28 with h | ⟨g2, h, h2⟩
   ·rw [h] at e; cases e
   ·rw [h] at e; cases e; have := bs69.lt; omega
  have hci : 0 < inp.length → ∀ g, v19.ownBlock = some g → v28.ownBlock ≠ some g := fun _ g e1 e2 => by
   have h1 := O70.lt hwz (by decide) e1
   rcases l28 with h | ⟨g2, h, h2⟩
   ·rw [h] at e2; cases e2
   ·rw [h] at e2; cases e2; omega
  refine WL.nilCheck G G (Fa G fo70_3 ?_)
  have B72 := bs69.ext e28
  refine WL.storeB (v := v28) G G o28b.sl.one sz26 B72 (Nat.le_of_ble_eq_true G) ?_
  intro ws73 ms73 bs73 zs73
  have E73 : Ext w ws73 := Mod.own E47 n11 E71 ms73
  refine Ni (Sr (Mv (ptr b11 0) G (WL.nilCheck G G (Fa G fo70_4 (WL.indexArr (i := 2) ar68 sz39 G G (by omega) G (WL.storeB (v := U64 (8388608#64)) G G G sz39 bs73 (Nat.le_of_ble_eq_true G) ?_))))))
  intro ws74 ms74 bs74 zs74
  have E74 : Ext w ws74 := Mod.own E47 n11 E73 ms74
  refine Ni (Sr (Mv (ptr b11 0) G (An (ptr b11 0) G (Ni (WC.ret ?_)))))
  have O75 := ((O70.ext e28).mod ms73 (fun g hg e => x19 (hg.trans (congrArg some e)))).mod ms74 (fun g hg e => x19 (hg.trans (congrArg some e)))
  have O76 := ((((((n8.blk.own.ext n11.ext).ext ed_2).ext e19).mod ms69 (fun g hg e => (fun e => hx8 (Option.some.inj e)) (hg.trans (congrArg some e)))).ext e28).mod ms73 (fun g hg e => (fun e => hx8 (Option.some.inj e)) (hg.trans (congrArg some e)))).mod ms74 (fun g hg e => (fun e => hx8 (Option.some.inj e)) (hg.trans (congrArg some e)))
  have O77 := (((((((n9.blk.own.ext n8.ext).ext n11.ext).ext ed_2).ext e19).mod ms69 (fun g hg e => (fun e => hx9 (Option.some.inj e)) (hg.trans (congrArg some e)))).ext e28).mod ms73 (fun g hg e => (fun e => hx9 (Option.some.inj e)) (hg.trans (congrArg some e)))).mod ms74 (fun g hg e => (fun e => hx9 (Option.some.inj e)) (hg.trans (congrArg some e)))
  have O78 := (o28b.mod ms73 (fun g hg e => x28 (hg.trans (congrArg some e)))).mod ms74 (fun g hg e => x28 (hg.trans (congrArg some e)))
  have B79 := ((((((n8.blk.ext n11.ext).ext ed_2).ext e19).mod ms69 (by omega)).ext e28).mod ms73 (by omega)).mod ms74 (by omega)
  have B80 := ((((((B49.ext n11.ext).ext ed_2).ext e19).mod ms69 (by omega)).ext e28).mod ms73 (by omega)).mod ms74 (by omega)
  obtain ⟨T, hT1, hT2⟩ := rr_new (w := w) bs74 O75 (by rw [← bsV_zero]; exact O76) (by rw [← bsV_zero]; exact O77) O78 g8 g9 h89 hy8 hy9 B79.lt B80.lt y19 y28 hci hwz (by omega)
  exact ⟨_, Res.one (v := ptr b11 0) G G, T, b11, G, hT1, hT2, E74⟩
end Go.Proofs.S
end
section
namespace Go.Ux
open Go
theorem Own.flat {w : World} {size g n cap : Nat} {xs : List Value} (h : Ux.Own w size (.slice (some ⟨g, 0, none⟩) n cap) n xs) : Ux.Own w 1 (.slice (some ⟨g, 0, none⟩) (n * size) (cap * size)) (n * size) xs ∧ n ≤ cap := by
 rcases h.2 with ⟨h1, _⟩ | ⟨g', cap', h1, hn, hc, hf⟩
 ·cases h1
 cases h1
 exact ⟨⟨by rw [h.1, Nat.mul_one], .inr ⟨g, cap * size, rfl, Nat.mul_le_mul_right _ hn, hc, by rw [Nat.mul_one]; exact hf⟩⟩, hn⟩
theorem Own.unflat {w : World} {size g n cap : Nat} {xs : List Value} (h : Ux.Own w 1 (.slice (some ⟨g, 0, none⟩) (n * size) (cap * size)) (n * size) xs) (hn : n ≤ cap) : Ux.Own w size (.slice (some ⟨g, 0, none⟩) n cap) n xs := by
 rcases h.2 with ⟨h1, _⟩ | ⟨g', cap', h1, _, hc, hf⟩
 ·cases h1
 ·injection h1 with h2 h3 h4
  injection h2 with h2
  injection h2 with h2
  subst h2
  rw [← h4, Nat.mul_one] at hf
  exact ⟨by rw [h.1, Nat.mul_one], .inr ⟨g, cap, rfl, hn, hc, hf⟩⟩
section
variable {P : Program} {ops : Array Oper} {l : List Oper} {n : Nat} {f : Fr} {w : World} {Q : Exit → Fr → World → Prop} {ty : TypeId} {pos : String} {aft : Array Edge}
theorem WL.storeOwnF {t m j g cap size : Nat} {x y : Operand} {v u : Value} {xs : List Value} (hx : ev f x = ptr g j) (hy : ev f y = u) (hu : u.oneCell' = true) (hz : sizeT P t = some 1) (h : Ux.Own w size v m xs) (hv : v = .slice (some ⟨g, 0, none⟩) m cap) (hj : j < m * size)
  (k : ∀ w', Ux.Own w' size v m (xs.set j u) → Mod (At v) w w' → WL P ops l n f w' Q) : WL P ops (⟨none, .store t x y, ty, pos, aft, none⟩ :: l) n f w Q := by
 subst hv
 obtain ⟨h1, h2⟩ := Own.flat h
 exact WL.storeOwn hx hy hu hz h1 G hj fun w' h3 h4 => k w' (Own.unflat h3 h2) h4
end
end Go.Ux
namespace Go.Proofs.S
open Go Go.Ux Go.Ux.Mach Go.Proofs Go.Proofs.M Go.Ux.Image
def evS (l : List (BitVec 8 × BitVec 64)) (i : Nat) : List (BitVec 8 × BitVec 64) := (l.take i).map (fun e => (e.1, 99#64)) ++ l.drop i
theorem evS_zero (l : List (BitVec 8 × BitVec 64)) : evS l 0 = l := by simp [evS]
theorem evS_len (l : List (BitVec 8 × BitVec 64)) (i : Nat) : (evS l i).length = l.length := by
 unfold evS; rw [List.length_append, List.length_map, List.length_take, List.length_drop]; omega
theorem evS_at (l : List (BitVec 8 × BitVec 64)) (i : Nat) (h : i < l.length) : (evS l i)[i]'(by rw [evS_len]; exact h) = l[i] := by
 unfold evS
 rw [List.getElem_append_right (by rw [List.length_map, List.length_take]; omega)]
 simp only [List.length_map, List.length_take, List.getElem_drop]
 congr 1; omega
theorem evS_get (l : List (BitVec 8 × BitVec 64)) (i : Nat) (h : i < l.length) : (evV (evS l i))[i * 2]? = some (U8 (l[i]).1) ∧ (evV (evS l i))[i * 2 + 1]? = some (I64 (l[i]).2) := by
 have h' : i < (evS l i).length := by rw [evS_len]; exact h
 have := evV_get (evS l i) i h'
 rw [evS_at l i h] at this
 exact this
theorem evS_next (l : List (BitVec 8 × BitVec 64)) (i : Nat) (h : i < l.length) : evS l (i + 1) = (l.take i).map (fun e => (e.1, 99#64)) ++ ((l[i]).1, 99#64) :: l.drop (i + 1) := by
 unfold evS
 rw [List.take_succ_eq_append_getElem h, List.map_append, List.append_assoc]; rfl
theorem evS_set (l : List (BitVec 8 × BitVec 64)) (i : Nat) (h : i < l.length) : (evV (evS l i)).set (i * 2 + 1) (I64 99#64) = evV (evS l (i + 1)) := by
 rw [evS_next l i h]
 have e : evS l i = (l.take i).map (fun e => (e.1, 99#64)) ++ l[i] :: l.drop (i + 1) := by
  unfold evS; rw [List.drop_eq_getElem_cons h]
 rw [e]
 have ha : ∀ a b : List (BitVec 8 × BitVec 64), evV (a ++ b) = evV a ++ evV b := fun a b => by simp [evV]
 have hc : ∀ (p : BitVec 8 × BitVec 64) (b : List (BitVec 8 × BitVec 64)), evV (p :: b) = U8 p.1 :: I64 p.2 :: evV b := fun p b => by simp [evV]
 have hl : (evV ((l.take i).map (fun e => (e.1, 99#64)))).length = i * 2 := by rw [evV_length, List.length_map, List.length_take]; omega
 rw [ha, ha, hc, hc, List.set_append, if_neg (by omega), hl, show i * 2 + 1 - i * 2 = 1 by omega]; rfl
end Go.Proofs.S
end
