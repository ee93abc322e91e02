/- Steps of the proof, packed by program: McT4 McT5 McT6 MiX1 MiX2 MiX3 MiX7 MiX8. -/
import Derived.Test.YtlabgjcjccdjfaaGreatDoorRows
import Derived.Test.YtlabgjcjccdjfaaGreatDoorMpackQ01
import Derived.Test.YtlabgjcjccdjfaaGreatDoorMpackQ02
import Derived.Test.YtlabgjcjccdjfaaGreatDoorMpackQ10
set_option linter.unusedVariables false
set_option linter.unusedSimpArgs false
set_option linter.unnecessarySimpa false
section
set_option linter.unusedSimpArgs false
set_option linter.unusedVariables false
namespace Go.Proofs.S
open Go Go.Ux Go.Ux.Mach Go.Proofs
theorem fo85_6 : fieldOff Tryz.prog 85 6 = some 37 := by kernel_rfl
theorem ag83 : isAggT Tryz.prog 83 = some false := by kernel_rfl
theorem fo85_7 : fieldOff Tryz.prog 85 7 = some 38 := by kernel_rfl
theorem sz3 : sizeT Tryz.prog 3 = some 1 := by kernel_rfl
theorem ca35 : callable Tryz.prog 35 = true := by kernel_rfl
theorem sz83 : sizeT Tryz.prog 83 = some 1 := by kernel_rfl
theorem ca36 : callable Tryz.prog 36 = true := by kernel_rfl
open Go.Proofs.M (instV Glob)
def stepM (M : MS) : MS :=
  match nextM M with
  | none => { M with steps := M.steps + 1#64, fin := some true }
  | some a => { (doesM { M with steps := M.steps + 1#64 } a).1 with fin := (doesM { M with steps := M.steps + 1#64 } a).2 }
def CodeOk (l : List (RvInst × Bool)) : Prop := l.length ≤ 1000000 ∧ ∀ p ∈ l, p.2 = true → 1 ≤ p.1.op.toNat ∧ p.1.op.toNat < 66 ∧ (p.1.rs1).toNat < 32 ∧ (p.1.rs2).toNat < 32 ∧ (p.1.rd).toNat < 32
theorem nextM_ok {M : MS} {a : RvInst} (hc : CodeOk M.code) (h : nextM M = some a) : 1 ≤ a.op.toNat ∧ a.op.toNat < 66 ∧ (a.rs1).toNat < 32 ∧ (a.rs2).toNat < 32 ∧ (a.rd).toNat < 32 := by
  unfold nextM at h
  split at h; · cases h
  split at h; · cases h
  split at h; · cases h
  split at h
  · rename_i a' he
    cases h
    exact hc.2 _ (List.mem_of_getElem? he) rfl
  · cases h
set_option maxRecDepth 100000 in
theorem step_end (T : Nat → Nat) (b : Nat) (M : MS) (w : World) (h : MR T w b M) (t : Bool) (hfin : M.fin = some t) : CallsR Tryz.prog 18 #[ptr b 0] w (fun v w' => v = IN 4 ∧ Ext w w') := by
  obtain ⟨bq, sd, ss, cv, iv, ev, en, hb, ht⟩ := h
  obtain ⟨e, rfl, he⟩ : ∃ e, en = .iface 144 (ptr e 0) ∧ Blk w e #[.bool t] 148 := by have := ht.fin; rw [hfin] at this; exact this
  refine callsR_of Tryz.func18 rfl rfl rfl ?_
  refine WC.seq (WC.region (WL.assign (v := IN (0)) rfl rfl (WL.nil (WC.seq (WC.block (WC.seq (WC.region (WL.move (v := ptr b 0) rfl rfl (WL.bin rfl rfl rfl (BinR.eqlPnil Tryz.underlying28) ?_)))))))))
  refine WL.assign (v := .bool (false)) rfl rfl (WL.nil (WC.condF rfl (WC.seq (WC.region (WL.move (v := ptr b 0) rfl rfl (WL.nilCheck rfl rfl (WL.fieldAddr rfl fo85_6 rfl (WL.load1 rfl ag83 (hb.cell (j := 37) rfl) rfl (WL.bin rfl rfl rfl (BinR.neqIf Tryz.underlying83) ?_)))))))))
  refine WL.assign (v := .bool (true)) rfl rfl (WL.nil (WC.condT rfl (WC.seq (WC.region (WL.assign (v := IN (4)) rfl rfl (WL.nil (WC.ret ?_)))))))
  exact ⟨_, Res.one (v := IN (4)) rfl rfl, rfl, Mod.refl _ _⟩
set_option maxRecDepth 100000 in
theorem step_none (T : Nat → Nat) (b : Nat) (M : MS) (w : World) (h : MR T w b M) (hfin : M.fin = none) (hcl : M.code.length ≤ 1000000) (hnx : nextM M = none) : CallsR Tryz.prog 18 #[ptr b 0] w (fun v w' => v = IN 0 ∧ Turn T w b (stepM M) w') := by
  have hM0 := h
  obtain ⟨bq, sd, ss, cv, iv, ev, en, hb, ht⟩ := h
  obtain rfl : en = .nilIface := by have := ht.fin; rw [hfin] at this; exact this
  have h6 : 6 ≤ w.heap.size := by have := ht.lt b (by rw [ht.tb]; decide); omega
  refine callsR_of Tryz.func18 rfl rfl rfl ?_
  refine WC.seq (WC.region (WL.assign (v := IN (0)) rfl rfl (WL.nil (WC.seq (WC.block (WC.seq (WC.region (WL.move (v := ptr b 0) rfl rfl (WL.bin rfl rfl rfl (BinR.eqlPnil Tryz.underlying28) ?_)))))))))
  refine WL.assign (v := .bool (false)) rfl rfl (WL.nil (WC.condF rfl (WC.seq (WC.region (WL.move (v := ptr b 0) rfl rfl (WL.nilCheck rfl rfl (WL.fieldAddr rfl fo85_6 rfl (WL.load1 rfl ag83 (hb.cell (j := 37) rfl) rfl (WL.neqIfnil Tryz.underlying83 rfl rfl ?_)))))))))
  refine WL.assign (v := .bool (false)) rfl rfl (WL.nil (WC.condF rfl (WC.skip (WC.seq (WC.region (WL.move (v := ptr b 0) rfl rfl (WL.nilCheck rfl rfl (WL.fieldAddr rfl fo85_7 rfl (WL.load1 rfl ag3 (hb.cell (j := 38) rfl) rfl ?_)))))))))
  refine WL.bin rfl (vy := I64 (1#64)) rfl rfl (BinR.add64) (WL.nilCheck rfl rfl (WL.fieldAddr rfl fo85_7 rfl (WL.storeB (v := I64 ((M.steps + 1#64))) rfl rfl rfl sz3 hb (Nat.le_of_ble_eq_true rfl) ?_)))
  intro ws1 ms1 bs1 zs1
  have E1 : Mod (fun k => T k = 1) w ws1 := Mod.trans (Mod.refl _ _) ((ms1).imp (fun i _ e => by subst e; exact ht.tb))
  refine WL.nil (WC.seq (WC.region (WL.move (v := ptr b 0) rfl rfl ?_)))
  have hM1 : MR T ws1 b { M with steps := M.steps + 1#64 } := ⟨bq, sd, ss, cv, iv, ev, .nilIface, bs1, (ht.other (E1)).regs M.x M.pc (M.steps + 1#64)⟩
  refine WL.call ca35 (rfl) rfl (next_spec T b { M with steps := M.steps + 1#64 } _ hM1 hcl) ?_
  rintro v23 wn ⟨hn, en_⟩
  rw [show nextM { M with steps := M.steps + 1#64 } = nextM M from rfl, hnx] at hn
  obtain ⟨e, rfl, he, hle⟩ := hn
  have hse := Mod.size (E1)
  have E2 : Mod (fun k => T k = 1) w wn := Mod.trans (E1) (Mod.ext (en_))
  have heb : e ≠ b := by have := (ht.lt b (by rw [ht.tb]; decide)).1; omega
  refine WL.move (v := .tuple #[instV ⟨0#8, 0#8, 0#8, 0#8, 0#64⟩, .iface 144 (ptr e 0)]) rfl rfl (WL.extract rfl rfl rfl (WL.extract rfl rfl rfl (WL.allocStore (v := .agg #[U8 (0#8), U8 (0#8), U8 (0#8), U8 (0#8), I64 (0#64)]) zt48 rfl sz48 rfl rfl rfl rfl ?_)))
  intro b3 w3 n3
  have E3 : Mod (fun k => T k = 1) w w3 := Mod.trans (E2) (Mod.ext (n3.ext))
  refine WL.assign (v := .iface 144 (ptr e 0)) rfl rfl (WL.nil (WC.seq (WC.seq (WC.region (WL.move (v := .iface 144 (ptr e 0)) rfl rfl (WL.bin rfl rfl rfl (BinR.eqlIf Tryz.underlying83) (WL.nil (WC.condF rfl (WC.skip ?_)))))))))
  refine WC.seq (WC.region (WL.move (v := ptr b 0) rfl rfl (WL.move (v := .iface 144 (ptr e 0)) rfl rfl (WL.nilCheck rfl rfl (WL.fieldAddr rfl fo85_6 rfl ?_)))))
  have B4 := ((bs1).ext (en_)).ext (n3.ext)
  refine WL.storeB (v := .iface 144 (ptr e 0)) rfl rfl rfl sz83 B4 (Nat.le_of_ble_eq_true rfl) ?_
  intro ws5 ms5 bs5 zs5
  have E5 : Mod (fun k => T k = 1) w ws5 := Mod.trans (E3) ((ms5).imp (fun i _ e => by subst e; exact ht.tb))
  refine WL.nil (WC.seq (WC.region (WL.assign (v := IN (0)) rfl rfl (WL.nil (WC.ret ?_)))))
  have hs0 : stepM M = { M with steps := M.steps + 1#64, fin := some true } := by unfold stepM; rw [hnx]
  have hTe : T e = 0 := by rcases Nat.eq_zero_or_pos (T e) with h | h; exact h; have := (ht.lt e (by omega)).1; omega
  have B6 := ((he).ext (n3.ext)).mod (ms5) (heb)
  have htn : Turn T w b (stepM M) ws5 := by rw [hs0]; exact turn_end (Mod.refl _ _) (fun k h => .inl h) (ht.regs M.x M.pc (M.steps + 1#64)) (E5) bs5 ⟨e, rfl, B6⟩ (fun e2 h => by cases h; exact ⟨by omega, hTe⟩) h6
  exact ⟨_, Res.one (v := IN (0)) rfl rfl, rfl, htn⟩
set_option maxRecDepth 100000 in
theorem step_some (T : Nat → Nat) (b : Nat) (M : MS) (w : World) (h : MR T w b M) (hfin : M.fin = none) (hcl : M.code.length ≤ 1000000) (hG : Glob w) (hX : w.cell? ⟨3, 0, none⟩ = some (.iface 206 (.agg #[.pointer (some ⟨6, 83, none⟩)]))) (hev : M.events.length < 8796093022208) (a : RvInst) (hnx : nextM M = some a) (hok : 1 ≤ a.op.toNat ∧ a.op.toNat < 66 ∧ (a.rs1).toNat < 32 ∧ (a.rs2).toNat < 32 ∧ (a.rd).toNat < 32) : CallsR Tryz.prog 18 #[ptr b 0] w (fun v w' => v = IN 0 ∧ Turn T w b (stepM M) w') := by
  have hM0 := h
  obtain ⟨bq, sd, ss, cv, iv, ev, en, hb, ht⟩ := h
  obtain rfl : en = .nilIface := by have := ht.fin; rw [hfin] at this; exact this
  have h6 : 6 ≤ w.heap.size := by have := ht.lt b (by rw [ht.tb]; decide); omega
  refine callsR_of Tryz.func18 rfl rfl rfl ?_
  refine WC.seq (WC.region (WL.assign (v := IN (0)) rfl rfl (WL.nil (WC.seq (WC.block (WC.seq (WC.region (WL.move (v := ptr b 0) rfl rfl (WL.bin rfl rfl rfl (BinR.eqlPnil Tryz.underlying28) ?_)))))))))
  refine WL.assign (v := .bool (false)) rfl rfl (WL.nil (WC.condF rfl (WC.seq (WC.region (WL.move (v := ptr b 0) rfl rfl (WL.nilCheck rfl rfl (WL.fieldAddr rfl fo85_6 rfl (WL.load1 rfl ag83 (hb.cell (j := 37) rfl) rfl (WL.neqIfnil Tryz.underlying83 rfl rfl ?_)))))))))
  refine WL.assign (v := .bool (false)) rfl rfl (WL.nil (WC.condF rfl (WC.skip (WC.seq (WC.region (WL.move (v := ptr b 0) rfl rfl (WL.nilCheck rfl rfl (WL.fieldAddr rfl fo85_7 rfl (WL.load1 rfl ag3 (hb.cell (j := 38) rfl) rfl ?_)))))))))
  refine WL.bin rfl (vy := I64 (1#64)) rfl rfl (BinR.add64) (WL.nilCheck rfl rfl (WL.fieldAddr rfl fo85_7 rfl (WL.storeB (v := I64 ((M.steps + 1#64))) rfl rfl rfl sz3 hb (Nat.le_of_ble_eq_true rfl) ?_)))
  intro ws1 ms1 bs1 zs1
  have E1 : Mod (fun k => T k = 1) w ws1 := Mod.trans (Mod.refl _ _) ((ms1).imp (fun i _ e => by subst e; exact ht.tb))
  refine WL.nil (WC.seq (WC.region (WL.move (v := ptr b 0) rfl rfl ?_)))
  have hM1 : MR T ws1 b { M with steps := M.steps + 1#64 } := ⟨bq, sd, ss, cv, iv, ev, .nilIface, bs1, (ht.other (E1)).regs M.x M.pc (M.steps + 1#64)⟩
  refine WL.call ca35 (rfl) rfl (next_spec T b { M with steps := M.steps + 1#64 } _ hM1 hcl) ?_
  rintro v23 wn ⟨hn, en_⟩
  rw [show nextM { M with steps := M.steps + 1#64 } = nextM M from rfl, hnx] at hn
  obtain rfl : v23 = .tuple #[instV a, .nilIface] := hn
  have E2 : Mod (fun k => T k = 1) w wn := Mod.trans (E1) (Mod.ext (en_))
  have hw0 := hM1.ext en_
  refine WL.move (v := .tuple #[instV a, .nilIface]) rfl rfl (WL.extract rfl rfl rfl (WL.extract rfl rfl rfl (WL.allocStore (v := .agg #[U8 (a.op), U8 (a.rd), U8 (a.rs1), U8 (a.rs2), I64 (a.imm)]) zt48 rfl sz48 rfl rfl rfl rfl ?_)))
  intro b3 w3 n3
  have E3 : Mod (fun k => T k = 1) w w3 := Mod.trans (E2) (Mod.ext (n3.ext))
  refine WL.assign (v := .nilIface) rfl rfl (WL.nil ?_)
  have hxn := en_.trans n3.ext
  refine WC.seq (WC.seq (WC.region (WL.move (v := .nilIface) rfl rfl (WL.eqlIfnil Tryz.underlying83 rfl rfl (WL.nil (WC.condT rfl (WC.region (WL.move (v := ptr b 0) rfl rfl (WL.loadS [U8 (a.op), U8 (a.rd), U8 (a.rs1), U8 (a.rs2), I64 (a.imm)] rfl ag48 sz48 rfl (n3.blk.sub (o := 0) (vs := [U8 (a.op), U8 (a.rd), U8 (a.rs1), U8 (a.rs2), I64 (a.imm)]) rfl) rfl ?_)))))))))
  refine WL.call ca36 (rfl) rfl (does_spec T b { M with steps := M.steps + 1#64 } a _ (hM1.ext (hxn)) (glob_turn hG (Mod.fp (E3)) (fun k h => (ht.lt k h).2)) (Mod.cell (E3) hX (fun h => by have := (ht.lt 3 (by rw [h]; decide)).2; omega)) hok.1 hok.2.1 hok.2.2.1 hok.2.2.2.1 hok.2.2.2.2 hev) ?_
  rintro v30 wd ⟨T1, ⟨bq, sd2, ss2, cv2, iv2, ev2, en2, hb2, ht2⟩, m1, hs1, hE1, hf1⟩
  have hsz := Mod.size (E3)
  have mw : Mod (Fp T) w wd := (Mod.fp (E3)).trans m1
  have hs2 : ∀ k, T1 k ≠ 0 → T k ≠ 0 ∨ w.heap.size ≤ k := fun k h => by rcases hs1 k h with h | h; exact .inl h; exact .inr (by omega)
  refine WL.assign (v := v30) rfl rfl (WL.nil (WC.seq (WC.region (WL.move (v := ptr b 0) rfl rfl (WL.move (v := v30) rfl rfl (WL.nilCheck rfl rfl (WL.fieldAddr rfl fo85_6 rfl (WL.storeB (v := v30) rfl rfl hE1.one sz83 hb2 (Nat.le_of_ble_eq_true rfl) ?_))))))))
  intro ws4 ms4 bs4 zs4
  have E4 : Mod (fun k => T1 k = 1) wd ws4 := Mod.trans (Mod.refl _ _) ((ms4).imp (fun i _ e => by subst e; exact ht2.tb))
  refine WL.nil (WC.seq (WC.region (WL.assign (v := IN (0)) rfl rfl (WL.nil (WC.ret ?_)))))
  have hs0 : stepM M = { (doesM { M with steps := M.steps + 1#64 } a).1 with fin := (doesM { M with steps := M.steps + 1#64 } a).2 } := by unfold stepM; rw [hnx]
  have htn : Turn T w b (stepM M) ws4 := by rw [hs0]; exact turn_end mw hs2 ht2 (E4) bs4 (hE1.mod (E4) (fun e h k => by have := (hf1 e h).2; omega)) (fun e h => ⟨by have := (hf1 e h).1; omega, (hf1 e h).2⟩) h6
  exact ⟨_, Res.one (v := IN (0)) rfl rfl, rfl, htn⟩
theorem step_spec (T : Nat → Nat) (b : Nat) (M : MS) (w : World) (h : MR T w b M) (hfin : M.fin = none) (hc : CodeOk M.code) (hG : Glob w) (hX : w.cell? ⟨3, 0, none⟩ = some (.iface 206 (.agg #[.pointer (some ⟨6, 83, none⟩)]))) (hev : M.events.length < 8796093022208) :
    CallsR Tryz.prog 18 #[ptr b 0] w (fun v w' => v = IN 0 ∧ Turn T w b (stepM M) w') := by
  rcases hnx : nextM M with _ | a
  · exact step_none T b M w h hfin hc.1 hnx
  · exact step_some T b M w h hfin hc.1 hG hX hev a hnx (nextM_ok hc hnx)
end Go.Proofs.S
end
section
set_option linter.unusedSimpArgs false
set_option linter.unusedVariables false
namespace Go.Proofs.S
open Go Go.Ux Go.Ux.Mach Go.Proofs
theorem ca18 : callable Tryz.prog 18 = true := by kernel_rfl
open Go.Proofs.M (instV Glob)
def runN : Nat → MS → Nat × MS
  | 0, M => (0, M)
  | k + 1, M => if M.fin.isSome then (0, M) else ((runN k (stepM M)).1 + 1, (runN k (stepM M)).2)
theorem runN_end {M : MS} (h : M.fin.isSome = true) : ∀ k, runN k M = (0, M)
  | 0 => rfl
  | k + 1 => by unfold runN; rw [if_pos h]
theorem runN_go {M : MS} (h : M.fin = none) (k : Nat) : runN (k + 1) M = ((runN k (stepM M)).1 + 1, (runN k (stepM M)).2) := by
  conv => lhs; unfold runN
  rw [if_neg (by rw [h]; decide)]
def stepE (M : MS) : Nat := if M.fin.isSome then 4 else 0
def stepV (M : MS) : MS := if M.fin.isSome then M else stepM M
theorem stepV_none {M : MS} (h : M.fin = none) : stepV M = stepM M := by unfold stepV; rw [h]; rfl
theorem putM_code (M : MS) (a : RvInst) (v nx : BitVec 64) : (putM M a v nx).code = M.code := rfl
theorem putM_events (M : MS) (a : RvInst) (v nx : BitVec 64) : (putM M a v nx).events = M.events := rfl
theorem storeM_code (M : MS) (k : Bool) (o z : Nat) (v : BitVec 64) : (storeM M k o z v).code = M.code := by cases k <;> rfl
theorem storeM_events (M : MS) (k : Bool) (o z : Nat) (v : BitVec 64) : (storeM M k o z v).events = M.events := by cases k <;> rfl
theorem callsM_keeps (M : MS) : (callsM M).1.code = M.code ∧ (callsM M).1.events.length ≤ M.events.length + 1 := by
  unfold callsM
  split
  · exact ⟨rfl, by simp⟩
  split
  · exact ⟨rfl, by simp⟩
  split
  · exact ⟨rfl, by simp⟩
  split
  · exact ⟨rfl, by simp⟩
  · exact ⟨rfl, Nat.le_succ _⟩
theorem doesM_keeps (M : MS) (a : RvInst) : (doesM M a).1.code = M.code ∧ (doesM M a).1.events.length ≤ M.events.length + 1 := by
  unfold doesM
  simp only
  split
  · split
    · exact ⟨rfl, Nat.le_succ _⟩
    · exact ⟨rfl, Nat.le_succ _⟩
  · split
    · split
      · exact ⟨rfl, Nat.le_succ _⟩
      · exact ⟨by rw [putM_code, storeM_code], by rw [putM_events, storeM_events]; exact Nat.le_succ _⟩
    · split
      · show (if _ then _ else _ : MS).code = _ ∧ (if _ then _ else _ : MS).events.length ≤ _
        split
        · exact callsM_keeps M
        · exact ⟨by rw [putM_code]; exact (callsM_keeps M).1, by rw [putM_events]; exact (callsM_keeps M).2⟩
      · exact ⟨rfl, Nat.le_succ _⟩
theorem stepM_keeps (M : MS) : (stepM M).code = M.code ∧ (stepM M).events.length ≤ M.events.length + 1 := by
  unfold stepM
  split
  · exact ⟨rfl, by show M.events.length ≤ _; omega⟩
  · exact doesM_keeps _ _
theorem stepV_spec (T : Nat → Nat) (b : Nat) (M : MS) (w : World) (h : MR T w b M) (hc : CodeOk M.code) (hG : Glob w) (hX : w.cell? ⟨3, 0, none⟩ = some (.iface 206 (.agg #[.pointer (some ⟨6, 83, none⟩)]))) (hev : M.events.length < 8796093022208) :
    CallsR Tryz.prog 18 #[ptr b 0] w (fun v w' => v = IN (stepE M) ∧ Turn T w b (stepV M) w') := by
  unfold stepE stepV
  rcases hf : M.fin with _ | t
  · exact step_spec T b M w h hf hc hG hX hev
  · exact (step_end T b M w h t hf).mono fun v w' ⟨h1, h2⟩ => ⟨h1, Turn.of_mod (h.ext h2) (Mod.ext h2)⟩
theorem stepE_T {M : MS} (h : (((stepE M : Nat) : Int) == (0 : Int)) = true) : M.fin = none := by
  unfold stepE at h; rcases hf : M.fin with _ | t
  · rfl
  · rw [hf] at h; cases h
theorem stepE_F {M : MS} (h : (((stepE M : Nat) : Int) == (0 : Int)) = false) : M.fin.isSome = true := by
  unfold stepE at h; rcases hf : M.fin with _ | t
  · rw [hf] at h; cases h
  · rfl
theorem run_out1 {T T1 : Nat → Nat} {w w1 : World} {b n k : Nat} {M M1 : MS} {s : Int} (hr : runN s.toNat M = ((runN (s.toNat - n) M1).1 + n, (runN (s.toNat - n) M1).2)) (hg : decide (((n : Nat) : Int) < (s : Int)) = false) (hk : k + n = s.toNat) (h1 : MR T1 w1 b M1) (m : Mod (Fp T) w w1) (hs : ∀ k, T1 k ≠ 0 → T k ≠ 0 ∨ w.heap.size ≤ k) :
    (IN (n) : Value) = IN (runN s.toNat M).1 ∧ Turn T w b (runN s.toNat M).2 w1 := by
  have h0 : s.toNat - n = 0 := by have := of_decide_eq_false hg; omega
  rw [hr, h0]
  exact ⟨by show IN n = IN (0 + n); rw [Nat.zero_add], T1, h1, m, hs⟩
theorem run_out2 {T T1 : Nat → Nat} {w w1 : World} {b n : Nat} {M M1 : MS} {s : Int} (hr : runN s.toNat M = ((runN (s.toNat - n) M1).1 + n, (runN (s.toNat - n) M1).2)) (hg : (((if M1.fin.isSome then 4 else 0 : Nat) : Int) == (0 : Int)) = false) (h1 : MR T1 w1 b (stepV M1)) (m : Mod (Fp T) w w1) (hs : ∀ k, T1 k ≠ 0 → T k ≠ 0 ∨ w.heap.size ≤ k) :
    (IN (n) : Value) = IN (runN s.toNat M).1 ∧ Turn T w b (runN s.toNat M).2 w1 := by
  have hf := stepE_F hg
  have e : stepV M1 = M1 := by unfold stepV; rw [if_pos hf]
  rw [hr, runN_end hf]
  rw [e] at h1
  exact ⟨by show IN n = IN (0 + n); rw [Nat.zero_add], T1, h1, m, hs⟩
set_option maxRecDepth 100000 in
theorem run_spec (T : Nat → Nat) (b : Nat) (M : MS) (w : World) (h : MR T w b M) (s : Int) (hs1 : -9223372036854775808 ≤ s ∧ s ≤ 9223372036854775807) (hc : CodeOk M.code) (hG : Glob w) (hX : w.cell? ⟨3, 0, none⟩ = some (.iface 206 (.agg #[.pointer (some ⟨6, 83, none⟩)]))) (hev : M.events.length + s.toNat < 8796093022208) : CallsR Tryz.prog 11 #[ptr b 0, .int .i64 (s)] w (fun v w' => v = IN (runN s.toNat M).1 ∧ Turn T w b (runN s.toNat M).2 w') := by
  refine callsR_of Tryz.func11 rfl rfl rfl ?_
  refine WC.seq (WC.region (WL.assign (v := IN (0)) rfl rfl (WL.nil (WC.seq (WC.region (WL.assign (v := IN (0)) rfl rfl (WL.nil (WC.seq (WC.block ?_)))))))))
  refine WC.loop (fun k f w_ => ∃ n T1 M1, (k + n = s.toNat) ∧ (runN s.toNat M = ((runN (s.toNat - n) M1).1 + n, (runN (s.toNat - n) M1).2)) ∧ (M1.code = M.code) ∧ (M1.events.length ≤ M.events.length + n) ∧ f 0 = ptr b 0 ∧ f 1 = .int .i64 (s) ∧ f 4 = IN (0) ∧ f 5 = IN (n) ∧ (MR T1 w_ b M1) ∧ (∀ k, T1 k ≠ 0 → T k ≠ 0 ∨ w.heap.size ≤ k) ∧ (Mod (Fp T) w w_)) (s.toNat) ?_ ?_
  · exact ⟨(0), (T), (M), by omega, rfl, rfl, by omega, rfl, rfl, rfl, rfl, h, fun k h_ => .inl h_, Mod.refl _ _⟩
  rintro ka f1 wr ⟨n, T1, M1, hk, hr, hcd, hle, h0_1, h1_1, h4_1, h5_1, hM1, hss, hmw⟩
  refine WC.seq (WC.seq (WC.region (WL.move (v := IN (n)) h5_1 rfl (WL.move (v := .int .i64 (s)) h1_1 rfl (WL.bin rfl rfl rfl (BinR.lss) (WL.move (v := .bool (decide (((n : Nat) : Int) < (s : Int)))) rfl rfl ?_))))))
  rcases Bool.eq_false_or_eq_true (decide (((n : Nat) : Int) < (s : Int))) with hg9 | hg9
  · refine WL.guardT (yf_bool rfl rfl hg9) (WL.move (v := ptr b 0) h0_1 rfl (WL.guardT (yf_bool rfl rfl hg9) (WL.call ca18 (rfl) rfl (stepV_spec T1 b M1 _ hM1 (by rw [hcd]; exact hc) (glob_turn hG hmw (fun k h_ => (h.lt k h_).2)) (Mod.cell hmw hX (fun h_ => by have := (h.lt 3 h_).2; omega)) (by omega)) ?_)))
    rintro _ ws ⟨rfl, T2, hM2, m2, hs2⟩
    have hmw2 : Mod (Fp T) w ws := hmw.then m2 (fun i hi e => by rcases hss i e with h_ | h_; exact h_; omega)
    have hszw := Mod.size hmw
    have hss2 : ∀ k, T2 k ≠ 0 → T k ≠ 0 ∨ w.heap.size ≤ k := fun k h_ => by rcases hs2 k h_ with h2 | h2; exact hss k h2; exact .inr (by omega)
    refine WL.guardT (yf_bool rfl rfl hg9) (WL.bin rfl rfl rfl (BinR.eql) (WL.pick (b := true) (congrArg Value.bool hg9) rfl rfl (WL.nil ?_)))
    refine WC.cond rfl (fun hc13 => ?_) (fun hc13 => ?_)
    · refine WC.skip (WC.block (WC.region (WL.move (v := IN (n)) h5_1 rfl (WL.bin rfl rfl rfl (BinR.succN (by omega)) (WL.assign (v := IN (n + 1)) rfl rfl (WL.nil ?_))))))
      have hns : n < s.toNat := by have := of_decide_eq_true hg9; omega
      have hfn := stepE_T hc13
      have hM3 : MR T2 ws b (stepM M1) := stepV_none hfn ▸ hM2
      exact ⟨ka - 1, by omega, (n + 1), (T2), (stepM M1), by omega, by rw [hr, show s.toNat - n = (s.toNat - (n + 1)) + 1 by omega, runN_go hfn]; congr 1; omega, ((stepM_keeps M1).1.trans hcd), by have := (stepM_keeps M1).2; omega, h0_1, h1_1, h4_1, rfl, hM3, hss2, hmw2⟩
    · refine WC.exit (WC.seq (WC.region (WL.move (v := IN (n)) h5_1 rfl (WL.assign (v := IN (n)) rfl rfl (WL.nil (WC.ret ?_))))))
      have hfin : (IN (n) : Value) = IN (runN s.toNat M).1 ∧ Turn T w b (runN s.toNat M).2 ws := by first | exact run_out1 hr hg9 hk hM1 hmw hss | exact run_out2 hr hc13 hM2 hmw2 hss2
      exact ⟨_, Res.one (v := IN (n)) rfl rfl, hfin⟩
  · refine WL.guardF (b' := false) (yf_bool rfl rfl hg9) rfl rfl (WL.guardF (b' := false) (yf_bool rfl rfl hg9) rfl rfl (WL.guardF (b' := false) (yf_bool rfl rfl hg9) rfl rfl (WL.pick (b := false) (congrArg Value.bool hg9) rfl rfl (WL.nil (WC.condF rfl (WC.exit (WC.seq (WC.region (WL.move (v := IN (n)) h5_1 rfl ?_)))))))))
    refine WL.assign (v := IN (n)) rfl rfl (WL.nil (WC.ret ?_))
    have hfin : (IN (n) : Value) = IN (runN s.toNat M).1 ∧ Turn T w b (runN s.toNat M).2 wr := by first | exact run_out1 hr hg9 hk hM1 hmw hss | exact run_out2 hr hc13 hM2 hmw2 hss2
    exact ⟨_, Res.one (v := IN (n)) rfl rfl, hfin⟩
end Go.Proofs.S
end
section
set_option linter.unusedSimpArgs false
set_option linter.unusedVariables false
namespace Go.Proofs.S
open Go Go.Ux Go.Ux.Mach Go.Proofs
theorem bls31_5  : ∀ w : World, (Instr.buildSlice 26 0 #[]).run Tryz.prog w = .ok (.slice (some ⟨w.heap.size, 0, none⟩) 0 0) (w.alloc (.cells #[] 2)) := fun _ => by kernel_rfl
theorem ap26 : appT Tryz.prog 26 = some (2, 1, 8, #[.int .i64 0]) := by kernel_rfl
theorem bls33_5  : ∀ w : World, (Instr.buildSlice 34 0 #[]).run Tryz.prog w = .ok (.slice (some ⟨w.heap.size, 0, none⟩) 0 0) (w.alloc (.cells #[] 38)) := fun _ => by kernel_rfl
theorem ca33 : callable Tryz.prog 33 = true := by kernel_rfl
theorem ended_n (T : Nat → Nat) (b : Nat) (M : MS) (w : World) (h : MR T w b M) (hfin : M.fin = none) : CallsR Tryz.prog 13 #[ptr b 0] w (fun v w' => v = .bool false ∧ Ext w w') := by
  obtain ⟨bq, sd, ss, cv, iv, ev, en, hb, ht⟩ := h
  obtain rfl : en = .nilIface := by have := ht.fin; rw [hfin] at this; exact this
  refine callsR_of Tryz.func13 rfl rfl rfl ?_
  refine WC.seq (WC.region (WL.assign (v := .bool (false)) rfl rfl (WL.nil (WC.seq (WC.region (WL.move (v := ptr b 0) rfl rfl (WL.bin rfl rfl rfl (BinR.eqlPnil Tryz.underlying28) (WL.move (v := .bool (false)) rfl rfl (WL.guardT (rfl) ?_)))))))))
  refine WL.move (v := ptr b 0) rfl rfl (WL.guardT (rfl) (WL.nilCheck rfl rfl (WL.guardT (rfl) (WL.fieldAddr rfl fo85_6 rfl (WL.guardT (rfl) (WL.load1 rfl ag83 (hb.cell (j := 37) rfl) rfl (WL.guardT (rfl) (WL.neqIfnil Tryz.underlying83 rfl rfl (WL.pick (b := false) rfl rfl rfl ?_)))))))))
  refine WL.assign (v := .bool (false)) rfl rfl (WL.nil (WC.ret ?_))
  exact ⟨_, Res.one (v := .bool (false)) rfl rfl, rfl, Mod.refl _ _⟩
theorem ended_s (T : Nat → Nat) (b : Nat) (M : MS) (w : World) (h : MR T w b M) (t : Bool) (hfin : M.fin = some t) : CallsR Tryz.prog 13 #[ptr b 0] w (fun v w' => v = .bool true ∧ Ext w w') := by
  obtain ⟨bq, sd, ss, cv, iv, ev, en, hb, ht⟩ := h
  obtain ⟨e, rfl, he⟩ : ∃ e, en = .iface 144 (ptr e 0) ∧ Blk w e #[.bool t] 148 := by have := ht.fin; rw [hfin] at this; exact this
  refine callsR_of Tryz.func13 rfl rfl rfl ?_
  refine WC.seq (WC.region (WL.assign (v := .bool (false)) rfl rfl (WL.nil (WC.seq (WC.region (WL.move (v := ptr b 0) rfl rfl (WL.bin rfl rfl rfl (BinR.eqlPnil Tryz.underlying28) (WL.move (v := .bool (false)) rfl rfl (WL.guardT (rfl) ?_)))))))))
  refine WL.move (v := ptr b 0) rfl rfl (WL.guardT (rfl) (WL.nilCheck rfl rfl (WL.guardT (rfl) (WL.fieldAddr rfl fo85_6 rfl (WL.guardT (rfl) (WL.load1 rfl ag83 (hb.cell (j := 37) rfl) rfl (WL.guardT (rfl) (WL.bin rfl rfl rfl (BinR.neqIf Tryz.underlying83) (WL.pick (b := false) rfl rfl rfl ?_)))))))))
  refine WL.assign (v := .bool (true)) rfl rfl (WL.nil (WC.ret ?_))
  exact ⟨_, Res.one (v := .bool (true)) rfl rfl, rfl, Mod.refl _ _⟩
theorem trapped_m (T : Nat → Nat) (b : Nat) (M : MS) (w : World) (h : MR T w b M) (hX : w.cell? ⟨3, 0, none⟩ = some (.iface 206 (.agg #[.pointer (some ⟨6, 83, none⟩)]))) : CallsR Tryz.prog 16 #[ptr b 0] w (fun v w' => v = .bool (M.fin == some true) ∧ Ext w w') := by
  obtain ⟨bq, sd, ss, cv, iv, ev, en, hb, ht⟩ := h
  refine callsR_of Tryz.func16 rfl rfl rfl ?_
  refine WC.seq (WC.region (WL.assign (v := .bool (false)) rfl rfl (WL.nil (WC.seq (WC.region (WL.move (v := ptr b 0) rfl rfl (WL.bin rfl rfl rfl (BinR.neqPnil Tryz.underlying28) (WL.move (v := .bool (true)) rfl rfl (WL.guardT (rfl) ?_)))))))))
  refine WL.move (v := ptr b 0) rfl rfl (WL.guardT (rfl) (WL.nilCheck rfl rfl (WL.guardT (rfl) (WL.fieldAddr rfl fo85_6 rfl (WL.guardT (rfl) (WL.load1 rfl ag83 (hb.cell (j := 37) rfl) rfl (WL.guardT (rfl) (WL.call ca34 (rfl) rfl (trapped_spec en M.fin _ (hX) (ht.fin)) ?_))))))))
  rintro _ wt ⟨rfl, et⟩
  have E1 : Ext w wt := Mod.trans (Mod.refl _ _) (et)
  refine WL.pick (b := true) rfl rfl rfl (WL.assign (v := .bool ((M.fin == some true))) rfl rfl (WL.nil (WC.ret ?_)))
  exact ⟨_, Res.one (v := .bool ((M.fin == some true))) rfl rfl, rfl, E1⟩
theorem reg_spec (T : Nat → Nat) (b : Nat) (M : MS) (w : World) (h : MR T w b M) (n : Nat) (hn : n < 32) : CallsR Tryz.prog 17 #[ptr b 0, IN (n)] w (fun v w' => v = U64 (M.x n) ∧ Ext w w') := by
  obtain ⟨bq, sd, ss, cv, iv, ev, en, hb, ht⟩ := h
  refine callsR_of Tryz.func17 rfl rfl rfl ?_
  refine WC.seq (WC.region (WL.assign (v := U64 (0#64)) rfl rfl (WL.nil (WC.seq (WC.seq (WC.region (WL.move (v := ptr b 0) rfl rfl (WL.bin rfl rfl rfl (BinR.eqlPnil Tryz.underlying28) (WL.move (v := .bool (false)) rfl rfl ?_)))))))))
  refine WL.guardT (rfl) (WL.move (v := IN (n)) rfl rfl (WL.guardT (rfl) (WL.bin (v := .bool (false)) rfl rfl rfl (BinR.toB (BinR.lss) (decide_eq_false (by omega))) (WL.pick (b := false) rfl rfl rfl (WL.move (v := .bool (false)) rfl rfl (WL.guardT (rfl) (WL.move (v := IN (n)) rfl rfl (WL.guardT (rfl) (WL.bin (v := .bool (false)) rfl rfl rfl (BinR.toB (BinR.geq) (decide_eq_false (by omega))) ?_)))))))))
  refine WL.pick (b := false) rfl rfl rfl (WL.nil (WC.condF rfl (WC.skip (WC.seq (WC.region (WL.move (v := ptr b 0) rfl rfl (WL.move (v := IN (n)) rfl rfl (WL.nilCheck rfl rfl (WL.fieldAddr rfl fo85_3 rfl ?_)))))))))
  refine WL.indexArr1 (i := n) ar68 sz39 rfl rfl hn rfl (WL.load1 rfl ag39 (hb.cell (machCells_x _ _ _ _ _ _ _ _ hn)) rfl (WL.assign (v := U64 (M.x n)) rfl rfl (WL.nil (WC.ret ?_))))
  exact ⟨_, Res.one (v := U64 (M.x n)) rfl rfl, rfl, Mod.refl _ _⟩
theorem ended_spec (T : Nat → Nat) (b : Nat) (M : MS) (w : World) (h : MR T w b M) : CallsR Tryz.prog 13 #[ptr b 0] w (fun v w' => v = .bool M.fin.isSome ∧ Ext w w') := by
  rcases hf : M.fin with _ | t
  · exact ended_n T b M w h hf
  · exact ended_s T b M w h t hf
theorem clone31_nil (w : World) : CallsR Tryz.prog 31 #[.slice none 0 0] w (fun v w' => v = .slice none 0 0 ∧ Ext w w') := by
  refine callsR_of Tryz.func31 rfl rfl rfl ?_
  refine WC.seq (WC.region (WL.assign (v := .slice none 0 0) rfl rfl (WL.nil (WC.seq (WC.seq (WC.region (WL.move (v := .slice none 0 0) rfl rfl (WL.bin rfl rfl rfl (BinR.eqlSlnil Tryz.underlying26) (WL.nil ?_)))))))))
  refine WC.condT rfl (WC.seq (WC.region (WL.assign (v := .slice none 0 0) rfl rfl (WL.nil (WC.ret ?_)))))
  exact ⟨_, Res.one (v := .slice none 0 0) rfl rfl, rfl, Mod.refl _ _⟩
theorem clone31_zero (a : Addr) (c : Nat) (w : World) (hS : Sl w (.slice (some a) 0 c) 1 0 []) : CallsR Tryz.prog 31 #[.slice (some a) 0 c] w (fun v w' => Ux.Own w' 1 v 0 [] ∧ From w.heap.size v ∧ (∀ g, v.ownBlock = some g → g < w'.heap.size) ∧ Ext w w') := by
  refine callsR_of Tryz.func31 rfl rfl rfl ?_
  refine WC.seq (WC.region (WL.assign (v := .slice none 0 0) rfl rfl (WL.nil (WC.seq (WC.seq (WC.region (WL.move (v := .slice (some a) 0 c) rfl rfl (WL.bin rfl rfl rfl (BinR.eqlSl Tryz.underlying26) (WL.nil ?_)))))))))
  refine WC.condF rfl (WC.skip (WC.seq (WC.region (WL.buildSlice (vs := []) rfl (bls31_5) rfl ?_))))
  intro b5 w5 n5
  have E1 : Ext w w5 := Mod.trans (Mod.refl _ _) (n5.ext)
  refine WL.move (v := .slice (some a) 0 c) rfl rfl (WL.appendNone ap26 rfl (Nat.le_refl _) rfl ((hS.ext (E1)).src Tryz.underlying26 (fun u h => by cases h)) rfl (WL.assign (v := .slice (some ⟨b5, 0, none⟩) 0 0) rfl rfl (WL.nil (WC.ret ?_))))
  exact ⟨_, Res.one (v := .slice (some ⟨b5, 0, none⟩) 0 0) rfl rfl, Ux.Own.empty _ _ _, (fun g hg => by have h : b5 = g := Option.some.inj hg; have := n5.num; omega), (fun g hg => by have h : b5 = g := Option.some.inj hg; have := n5.num; have := n5.size; omega), E1⟩
theorem clone31_some (a : Addr) (c n : Nat) (xs : List Value) (w : World) (hS : Sl w (.slice (some a) n c) 1 n xs) (h1 : ∀ u ∈ xs, u.oneCell' = true) (hn : n ≤ 8796093022208) : CallsR Tryz.prog 31 #[.slice (some a) n c] w (fun v w' => Ux.Own w' 1 v n xs ∧ From w.heap.size v ∧ Ext w w') := by
  refine callsR_of Tryz.func31 rfl rfl rfl ?_
  refine WC.seq (WC.region (WL.assign (v := .slice none 0 0) rfl rfl (WL.nil (WC.seq (WC.seq (WC.region (WL.move (v := .slice (some a) n c) rfl rfl (WL.bin rfl rfl rfl (BinR.eqlSl Tryz.underlying26) (WL.nil ?_)))))))))
  refine WC.condF rfl (WC.skip (WC.seq (WC.region (WL.buildSlice (vs := []) rfl (bls31_5) rfl ?_))))
  intro b5 w5 n5
  have E1 : Ext w w5 := Mod.trans (Mod.refl _ _) (n5.ext)
  refine WL.move (v := .slice (some a) n c) rfl rfl (WL.append (k := 0) (m := n) (xs := []) (news := xs) ap26 rfl rfl rfl (Ux.Own.empty _ 1 b5) ((hS.ext (E1)).src Tryz.underlying26 h1) (by omega) (by omega) rfl ?_)
  intro v7 w7 o7 m7 l7
  have o7b : Ux.Own w7 1 v7 (n) (xs) := by simpa using o7
  have F2 : From w.heap.size v7 := LocV.from l7 (Mod.size (E1)) ((fun g hg => by have h : b5 = g := Option.some.inj hg; have := n5.num; omega))
  have E3 : Ext w w7 := Mod.from (E1) m7 ((fun g hg => by have h : b5 = g := Option.some.inj hg; have := n5.num; omega))
  refine WL.assign (v := v7) rfl rfl (WL.nil (WC.ret ?_))
  exact ⟨_, Res.one (v := v7) rfl rfl, o7b, F2, E3⟩
theorem clone31 (v : Value) (n : Nat) (xs : List Value) (w : World) (hS : Sl w v 1 n xs) (hv : v = .slice none 0 0 ∨ ∃ a c, v = .slice (some a) n c) (h1 : ∀ u ∈ xs, u.oneCell' = true) (hn : n ≤ 8796093022208) : CallsR Tryz.prog 31 #[v] w (fun v w' => Ux.Own w' 1 v n xs ∧ From w.heap.size v ∧ (∀ g, v.ownBlock = some g → g < w'.heap.size) ∧ Ext w w') := by
  rcases hv with rfl | ⟨a, c, rfl⟩
  · have h0 : n = 0 := by obtain ⟨ao, cap, e, _⟩ := hS; cases e; rfl
    have hx : xs = [] := by have := Sl.size_le hS; rw [h0] at this; exact List.eq_nil_of_length_eq_zero (by simpa using this)
    subst h0; subst hx
    exact (clone31_nil w).mono fun v w' ⟨e, h⟩ => by subst e; exact ⟨Ux.Own.nil _ _, (fun g hg => by cases hg), (fun g hg => by cases hg), h⟩
  · rcases Nat.eq_zero_or_pos n with h0 | h0
    · subst h0
      have hx : xs = [] := by have := Sl.size_le hS; exact List.eq_nil_of_length_eq_zero (by simpa using this)
      subst hx
      exact clone31_zero a c w hS
    · exact (clone31_some a c n xs w hS h1 hn).mono fun v w' ⟨k1, k2, k3⟩ => ⟨k1, k2, fun g hg => k1.lt h0 (by decide) hg, k3⟩
theorem clone33_nil (w : World) : CallsR Tryz.prog 33 #[.slice none 0 0] w (fun v w' => v = .slice none 0 0 ∧ Ext w w') := by
  refine callsR_of Tryz.func33 rfl rfl rfl ?_
  refine WC.seq (WC.region (WL.assign (v := .slice none 0 0) rfl rfl (WL.nil (WC.seq (WC.seq (WC.region (WL.move (v := .slice none 0 0) rfl rfl (WL.bin rfl rfl rfl (BinR.eqlSlnil Tryz.underlying34) (WL.nil ?_)))))))))
  refine WC.condT rfl (WC.seq (WC.region (WL.assign (v := .slice none 0 0) rfl rfl (WL.nil (WC.ret ?_)))))
  exact ⟨_, Res.one (v := .slice none 0 0) rfl rfl, rfl, Mod.refl _ _⟩
theorem clone33_zero (a : Addr) (c : Nat) (w : World) (hS : Sl w (.slice (some a) 0 c) 2 0 []) : CallsR Tryz.prog 33 #[.slice (some a) 0 c] w (fun v w' => Ux.Own w' 2 v 0 [] ∧ From w.heap.size v ∧ (∀ g, v.ownBlock = some g → g < w'.heap.size) ∧ Ext w w') := by
  refine callsR_of Tryz.func33 rfl rfl rfl ?_
  refine WC.seq (WC.region (WL.assign (v := .slice none 0 0) rfl rfl (WL.nil (WC.seq (WC.seq (WC.region (WL.move (v := .slice (some a) 0 c) rfl rfl (WL.bin rfl rfl rfl (BinR.eqlSl Tryz.underlying34) (WL.nil ?_)))))))))
  refine WC.condF rfl (WC.skip (WC.seq (WC.region (WL.buildSlice (vs := []) rfl (bls33_5) rfl ?_))))
  intro b5 w5 n5
  have E1 : Ext w w5 := Mod.trans (Mod.refl _ _) (n5.ext)
  refine WL.move (v := .slice (some a) 0 c) rfl rfl (WL.appendNone ap34 rfl (Nat.le_refl _) rfl ((hS.ext (E1)).src Tryz.underlying34 (fun u h => by cases h)) rfl (WL.assign (v := .slice (some ⟨b5, 0, none⟩) 0 0) rfl rfl (WL.nil (WC.ret ?_))))
  exact ⟨_, Res.one (v := .slice (some ⟨b5, 0, none⟩) 0 0) rfl rfl, Ux.Own.empty _ _ _, (fun g hg => by have h : b5 = g := Option.some.inj hg; have := n5.num; omega), (fun g hg => by have h : b5 = g := Option.some.inj hg; have := n5.num; have := n5.size; omega), E1⟩
theorem clone33_some (a : Addr) (c n : Nat) (xs : List Value) (w : World) (hS : Sl w (.slice (some a) n c) 2 n xs) (h1 : ∀ u ∈ xs, u.oneCell' = true) (hn : n ≤ 8796093022208) : CallsR Tryz.prog 33 #[.slice (some a) n c] w (fun v w' => Ux.Own w' 2 v n xs ∧ From w.heap.size v ∧ Ext w w') := by
  refine callsR_of Tryz.func33 rfl rfl rfl ?_
  refine WC.seq (WC.region (WL.assign (v := .slice none 0 0) rfl rfl (WL.nil (WC.seq (WC.seq (WC.region (WL.move (v := .slice (some a) n c) rfl rfl (WL.bin rfl rfl rfl (BinR.eqlSl Tryz.underlying34) (WL.nil ?_)))))))))
  refine WC.condF rfl (WC.skip (WC.seq (WC.region (WL.buildSlice (vs := []) rfl (bls33_5) rfl ?_))))
  intro b5 w5 n5
  have E1 : Ext w w5 := Mod.trans (Mod.refl _ _) (n5.ext)
  refine WL.move (v := .slice (some a) n c) rfl rfl (WL.append (k := 0) (m := n) (xs := []) (news := xs) ap34 rfl rfl rfl (Ux.Own.empty _ 2 b5) ((hS.ext (E1)).src Tryz.underlying34 h1) (by omega) (by omega) rfl ?_)
  intro v7 w7 o7 m7 l7
  have o7b : Ux.Own w7 2 v7 (n) (xs) := by simpa using o7
  have F2 : From w.heap.size v7 := LocV.from l7 (Mod.size (E1)) ((fun g hg => by have h : b5 = g := Option.some.inj hg; have := n5.num; omega))
  have E3 : Ext w w7 := Mod.from (E1) m7 ((fun g hg => by have h : b5 = g := Option.some.inj hg; have := n5.num; omega))
  refine WL.assign (v := v7) rfl rfl (WL.nil (WC.ret ?_))
  exact ⟨_, Res.one (v := v7) rfl rfl, o7b, F2, E3⟩
theorem clone33 (v : Value) (n : Nat) (xs : List Value) (w : World) (hS : Sl w v 2 n xs) (hv : v = .slice none 0 0 ∨ ∃ a c, v = .slice (some a) n c) (h1 : ∀ u ∈ xs, u.oneCell' = true) (hn : n ≤ 8796093022208) : CallsR Tryz.prog 33 #[v] w (fun v w' => Ux.Own w' 2 v n xs ∧ From w.heap.size v ∧ (∀ g, v.ownBlock = some g → g < w'.heap.size) ∧ Ext w w') := by
  rcases hv with rfl | ⟨a, c, rfl⟩
  · have h0 : n = 0 := by obtain ⟨ao, cap, e, _⟩ := hS; cases e; rfl
    have hx : xs = [] := by have := Sl.size_le hS; rw [h0] at this; exact List.eq_nil_of_length_eq_zero (by simpa using this)
    subst h0; subst hx
    exact (clone33_nil w).mono fun v w' ⟨e, h⟩ => by subst e; exact ⟨Ux.Own.nil _ _, (fun g hg => by cases hg), (fun g hg => by cases hg), h⟩
  · rcases Nat.eq_zero_or_pos n with h0 | h0
    · subst h0
      have hx : xs = [] := by have := Sl.size_le hS; exact List.eq_nil_of_length_eq_zero (by simpa using this)
      subst hx
      exact clone33_zero a c w hS
    · exact (clone33_some a c n xs w hS h1 hn).mono fun v w' ⟨k1, k2, k3⟩ => ⟨k1, k2, fun g hg => k1.lt h0 (by decide) hg, k3⟩
theorem events_spec (T : Nat → Nat) (b : Nat) (M : MS) (w : World) (h : MR T w b M) (hev : M.events.length ≤ 8796093022208) : CallsR Tryz.prog 14 #[ptr b 0] w (fun v w' => Ux.Own w' 2 v M.events.length (evV M.events) ∧ From w.heap.size v ∧ Ext w w') := by
  obtain ⟨bq, sd, ss, cv, iv, ev, en, hb, ht⟩ := h
  refine callsR_of Tryz.func14 rfl rfl rfl ?_
  refine WC.seq (WC.region (WL.assign (v := .slice none 0 0) rfl rfl (WL.nil (WC.seq (WC.seq (WC.region (WL.move (v := ptr b 0) rfl rfl (WL.bin rfl rfl rfl (BinR.eqlPnil Tryz.underlying28) (WL.nil ?_)))))))))
  refine WC.condF rfl (WC.skip (WC.seq (WC.region (WL.move (v := ptr b 0) rfl rfl (WL.nilCheck rfl rfl (WL.fieldAddr rfl fo85_5 rfl (WL.load1 rfl ag34 (hb.cell (j := 36) rfl) rfl (WL.call ca33 (rfl) rfl (clone33 ev M.events.length (evV M.events) _ (ht.evs.sl) ht.evs.form (evV_one _) (by omega)) ?_))))))))
  rintro v9 wc ⟨hc1, hc2, _, hc3⟩
  have E1 : Ext w wc := Mod.trans (Mod.refl _ _) (hc3)
  refine WL.assign (v := v9) rfl rfl (WL.nil (WC.ret ?_))
  exact ⟨_, Res.one (v := v9) rfl rfl, hc1, hc2, E1⟩
theorem peek_ok (T : Nat → Nat) (b : Nat) (M : MS) (w : World) (h : MR T w b M) (addr : BitVec 64) (k : Bool) (off : Nat) (hw : whereM M.n addr 8 = some (k, off)) : CallsR Tryz.prog 21 #[ptr b 0, U64 (addr)] w (fun v w' => v = .tuple #[U64 (loadV M.d M.s k off 8 false), .bool true] ∧ Ext w w') := by
  have hM0 := h
  refine callsR_of Tryz.func21 rfl rfl rfl ?_
  refine WC.seq (WC.region (WL.assign (v := U64 (0#64)) rfl rfl (WL.assign (v := .bool (false)) rfl rfl (WL.nil (WC.seq (WC.seq (WC.region (WL.move (v := ptr b 0) rfl rfl (WL.bin rfl rfl rfl (BinR.eqlPnil Tryz.underlying28) ?_)))))))))
  refine WL.nil (WC.condF rfl (WC.skip (WC.seq (WC.region (WL.move (v := ptr b 0) rfl rfl (WL.move (v := U64 (addr)) rfl rfl (WL.call ca37 (rfl) rfl (loadM_spec T b M addr 8 false _ (hM0) (by decide) (by decide)) ?_)))))))
  rintro v57 wl ⟨hl, el⟩
  obtain rfl := hl.ok hw
  have E1 : Ext w wl := Mod.trans (Mod.refl _ _) (el)
  refine WL.move (v := .tuple #[U64 (loadV M.d M.s k off 8 false), .nilIface]) rfl rfl (WL.extract rfl rfl rfl (WL.extract rfl rfl rfl (WL.assign (v := U64 (loadV M.d M.s k off 8 false)) rfl rfl (WL.assign (v := .nilIface) rfl rfl (WL.nil (WC.seq (WC.draw (fun w_ => Ext wl w_) 5 rfl mixed ?_)))))))
  intro wd_4 ed_4
  have R2 : Ext wl wd_4 := Mod.trans (Mod.refl _ _) (ed_4)
  have E3 : Ext w wd_4 := Mod.trans (E1) (ed_4)
  refine WA.take (i := 0) (m' := 1) (v := U64 (loadV M.d M.s k off 8 false)) rfl rfl rfl rfl (by kernel_rfl) rfl (fun _ _ _ h => h) (fun wx hS => ?_) (R2) ?_
  · exact WL.move (v := U64 (loadV M.d M.s k off 8 false)) rfl rfl (WL.nil ⟨rfl, rfl, rfl⟩)
  refine WA.take (i := 1) (m' := 3) (v := .nilIface) rfl rfl rfl rfl (by kernel_rfl) rfl (fun _ _ _ h => h) (fun wx hS => ?_) (R2) ?_
  · exact WL.move (v := .nilIface) rfl rfl (WL.nil ⟨rfl, rfl, rfl⟩)
  refine WA.take (i := 2) (m' := 7) (v := .bool (true)) rfl rfl rfl rfl (by kernel_rfl) rfl (fun _ _ _ h => h) (fun wx hS => ?_) (R2) ?_
  · exact WL.eqlIfnil Tryz.underlying83 rfl rfl (WL.nil ⟨rfl, rfl, rfl⟩)
  refine WA.take (i := 3) (m' := 15) (v := U64 (loadV M.d M.s k off 8 false)) rfl rfl rfl rfl (by kernel_rfl) rfl (fun _ _ _ h => h) (fun wx hS => ?_) (R2) ?_
  · exact WL.assign (v := U64 (loadV M.d M.s k off 8 false)) rfl rfl (WL.nil ⟨rfl, rfl, rfl⟩)
  refine WA.take (i := 4) (m' := 31) (v := .bool (true)) rfl rfl rfl rfl (by kernel_rfl) rfl (fun _ _ _ h => h) (fun wx hS => ?_) (R2) ?_
  · exact WL.assign (v := .bool (true)) rfl rfl (WL.nil ⟨rfl, rfl, rfl⟩)
  refine WA.done (by kernel_rfl) ?_
  refine WC.ret ?_
  exact ⟨_, Res.two (v := U64 (loadV M.d M.s k off 8 false)) (v' := .bool (true)) rfl rfl rfl, rfl, E3⟩
end Go.Proofs.S
end
section
set_option linter.unusedSimpArgs false
set_option linter.unusedVariables false
namespace Go.Proofs.R
open Go Go.Ux Go.Ux.Image Go.Proofs
theorem fo25_0 : fieldOff Tryz.prog 25 0 = some 0 := by kernel_rfl
theorem ag3 : isAggT Tryz.prog 3 = some false := by kernel_rfl
theorem fo25_2 : fieldOff Tryz.prog 25 2 = some 2 := by kernel_rfl
theorem ag23 : isAggT Tryz.prog 23 = some false := by kernel_rfl
theorem el23 : elemT Tryz.prog 23 = some 50 := by kernel_rfl
theorem fo25_1 : fieldOff Tryz.prog 25 1 = some 1 := by kernel_rfl
theorem ag22 : isAggT Tryz.prog 22 = some false := by kernel_rfl
theorem el22 : elemT Tryz.prog 22 = some 98 := by kernel_rfl
theorem sz98 : sizeT Tryz.prog 98 = some 2 := by kernel_rfl
theorem fo98_1 : fieldOff Tryz.prog 98 1 = some 1 := by kernel_rfl
theorem mixed : Tryz.prog.follows .mixedOrders = true := by kernel_rfl
theorem headAt_eq (l : List (List UInt8 × Int)) (h : 0 < l.length) : headAt l = (l[0]).2 := by cases l with
  | nil => simp at h
  | cons a r => rfl
theorem right2_spec (bm : Nat) (sv wv : Value) (I : Img) (w : World) (hR : Rep w sv wv I) (hB : Blk w bm #[.int .i64 I.entry, sv, wv] 25) : CallsR Tryz.prog 55 #[ptr bm 0] w (fun v w' => v = .bool (right2 I) ∧ w = w') := by
  have hI1 := hR.ls
  have hI2 := hR.lw
  refine callsR_of Tryz.func55 rfl rfl rfl ?_
  refine WC.seq (WC.region (WL.assign (v := .bool (false)) rfl rfl (WL.nil (WC.seq (WC.region (WL.fieldAddr rfl fo25_0 rfl (WL.load1 rfl ag3 (hB.cell (j := 0) rfl) rfl (WL.bin rfl rfl rfl (BinR.geq) (WL.move (v := .bool (decide ((0 : Int) ≤ (I.entry : Int)))) rfl rfl ?_)))))))))
  rcases Bool.eq_false_or_eq_true (decide ((0 : Int) ≤ (I.entry : Int))) with hg5 | hg5
  · refine WL.guardT (yf_bool rfl rfl hg5) (WL.fieldAddr rfl fo25_0 rfl (WL.guardT (yf_bool rfl rfl hg5) (WL.load1 rfl ag3 (hB.cell (j := 0) rfl) rfl (WL.guardT (yf_bool rfl rfl hg5) (WL.bin rfl rfl rfl (BinR.leq) (WL.pick (b := true) (congrArg Value.bool hg5) rfl rfl (WL.move (v := .bool (decide ((I.entry : Int) ≤ (524288 : Int)))) rfl rfl ?_)))))))
    rcases Bool.eq_false_or_eq_true (decide ((I.entry : Int) ≤ (524288 : Int))) with hg10 | hg10
    · refine WL.guardT (yf_bool rfl rfl hg10) (WL.fieldAddr rfl fo25_0 rfl (WL.guardT (yf_bool rfl rfl hg10) (WL.load1 rfl ag3 (hB.cell (j := 0) rfl) rfl (WL.guardT (yf_bool rfl rfl hg10) (WL.bin rfl rfl rfl (BinR.remI (by have := of_decide_eq_true hg5; omega) (by decide)) (WL.guardT (yf_bool rfl rfl hg10) (WL.bin rfl rfl rfl (BinR.eql) (WL.pick (b := true) (congrArg Value.bool hg10) rfl rfl (WL.assign (v := .bool (((I.entry % 8 : Int) == (0 : Int)))) rfl rfl ?_)))))))))
      refine WL.nil (WC.ret ?_)
      have hfin : ((.bool (((I.entry % 8 : Int) == (0 : Int)))) : Value) = Value.bool (right2 I) := congrArg Value.bool (by unfold right2; simp [*])
      exact ⟨_, Res.one (v := .bool (((I.entry % 8 : Int) == (0 : Int)))) rfl rfl, hfin, rfl⟩
    · refine WL.guardF (b' := false) (yf_bool rfl rfl hg10) rfl rfl (WL.guardF (b' := false) (yf_bool rfl rfl hg10) rfl rfl (WL.guardF (b' := false) (yf_bool rfl rfl hg10) rfl rfl (WL.guardF (b' := false) (yf_bool rfl rfl hg10) rfl rfl (WL.pick (b := false) (congrArg Value.bool hg10) rfl rfl (WL.assign (v := .bool (false)) rfl rfl (WL.nil (WC.ret ?_)))))))
      have hfin : ((.bool (false)) : Value) = Value.bool (right2 I) := congrArg Value.bool (by unfold right2; simp [*])
      exact ⟨_, Res.one (v := .bool (false)) rfl rfl, hfin, rfl⟩
  · refine WL.guardF (b' := false) (yf_bool rfl rfl hg5) rfl rfl (WL.guardF (b' := false) (yf_bool rfl rfl hg5) rfl rfl (WL.guardF (b' := false) (yf_bool rfl rfl hg5) rfl rfl (WL.pick (b := false) (congrArg Value.bool hg5) rfl rfl (WL.move (v := .bool (false)) rfl rfl (WL.guardF (b' := false) (rfl) rfl rfl (WL.guardF (b' := false) (rfl) rfl rfl (WL.guardF (b' := false) (rfl) rfl rfl (WL.guardF (b' := false) (rfl) rfl rfl (WL.pick (b := false) rfl rfl rfl ?_)))))))))
    refine WL.assign (v := .bool (false)) rfl rfl (WL.nil (WC.ret ?_))
    have hfin : ((.bool (false)) : Value) = Value.bool (right2 I) := congrArg Value.bool (by unfold right2; simp [*])
    exact ⟨_, Res.one (v := .bool (false)) rfl rfl, hfin, rfl⟩
theorem right3_spec (bm : Nat) (sv wv : Value) (I : Img) (w : World) (hR : Rep w sv wv I) (hB : Blk w bm #[.int .i64 I.entry, sv, wv] 25) : CallsR Tryz.prog 56 #[ptr bm 0] w (fun v w' => v = .bool (right3 I) ∧ w = w') := by
  have hI1 := hR.ls
  have hI2 := hR.lw
  refine callsR_of Tryz.func56 rfl rfl rfl ?_
  refine WC.seq (WC.region (WL.assign (v := .bool (false)) rfl rfl (WL.nil (WC.seq (WC.region (WL.fieldAddr rfl fo25_2 rfl (WL.load1 rfl ag23 (hB.cell (j := 2) rfl) rfl (WL.lenSl (sz := 1) (m := I.words.length) (xs := wordCells I.words) el23 rfl (hR.w) rfl (WL.bin rfl rfl rfl (BinR.geq) ?_)))))))))
  refine WL.move (v := .bool (decide ((1 : Int) ≤ ((I.words.length : Nat) : Int)))) rfl rfl ?_
  rcases Bool.eq_false_or_eq_true (decide ((1 : Int) ≤ ((I.words.length : Nat) : Int))) with hg6 | hg6
  · refine WL.guardT (yf_bool rfl rfl hg6) (WL.fieldAddr rfl fo25_2 rfl (WL.guardT (yf_bool rfl rfl hg6) (WL.load1 rfl ag23 (hB.cell (j := 2) rfl) rfl (WL.guardT (yf_bool rfl rfl hg6) (WL.lenSl (sz := 1) (m := I.words.length) (xs := wordCells I.words) el23 rfl (hR.w) rfl (WL.guardT (yf_bool rfl rfl hg6) (WL.bin rfl rfl rfl (BinR.leq) (WL.pick (b := true) (congrArg Value.bool hg6) rfl rfl (WL.assign (v := .bool (decide (((I.words.length : Nat) : Int) ≤ (262144 : Int)))) rfl rfl ?_)))))))))
    refine WL.nil (WC.ret ?_)
    have hfin : ((.bool (decide (((I.words.length : Nat) : Int) ≤ (262144 : Int)))) : Value) = Value.bool (right3 I) := congrArg Value.bool (by unfold right3; rw [Bool.eq_iff_iff]; simp at *; omega)
    exact ⟨_, Res.one (v := .bool (decide (((I.words.length : Nat) : Int) ≤ (262144 : Int)))) rfl rfl, hfin, rfl⟩
  · refine WL.guardF (b' := false) (yf_bool rfl rfl hg6) rfl rfl (WL.guardF (b' := false) (yf_bool rfl rfl hg6) rfl rfl (WL.guardF (b' := false) (yf_bool rfl rfl hg6) rfl rfl (WL.guardF (b' := false) (yf_bool rfl rfl hg6) rfl rfl (WL.pick (b := false) (congrArg Value.bool hg6) rfl rfl (WL.assign (v := .bool (false)) rfl rfl (WL.nil (WC.ret ?_)))))))
    have hfin : ((.bool (false)) : Value) = Value.bool (right3 I) := congrArg Value.bool (by unfold right3; rw [Bool.eq_iff_iff]; simp at *; omega)
    exact ⟨_, Res.one (v := .bool (false)) rfl rfl, hfin, rfl⟩
theorem right4_spec (bm : Nat) (sv wv : Value) (I : Img) (w : World) (hR : Rep w sv wv I) (hB : Blk w bm #[.int .i64 I.entry, sv, wv] 25) : CallsR Tryz.prog 57 #[ptr bm 0] w (fun v w' => v = .bool (right4 I) ∧ w = w') := by
  have hI1 := hR.ls
  have hI2 := hR.lw
  refine callsR_of Tryz.func57 rfl rfl rfl ?_
  refine WC.seq (WC.region (WL.assign (v := .bool (false)) rfl rfl (WL.nil (WC.seq (WC.region (WL.fieldAddr rfl fo25_1 rfl (WL.load1 rfl ag22 (hB.cell (j := 1) rfl) rfl (WL.lenSl (sz := 2) (m := I.syms.length) (xs := symCells I.syms) el22 rfl (hR.s) rfl (WL.bin rfl rfl rfl (BinR.geq) ?_)))))))))
  refine WL.move (v := .bool (decide ((1 : Int) ≤ ((I.syms.length : Nat) : Int)))) rfl rfl ?_
  rcases Bool.eq_false_or_eq_true (decide ((1 : Int) ≤ ((I.syms.length : Nat) : Int))) with hg6 | hg6
  · refine WL.guardT (yf_bool rfl rfl hg6) (WL.fieldAddr rfl fo25_1 rfl (WL.guardT (yf_bool rfl rfl hg6) (WL.load1 rfl ag22 (hB.cell (j := 1) rfl) rfl (WL.guardT (yf_bool rfl rfl hg6) (WL.lenSl (sz := 2) (m := I.syms.length) (xs := symCells I.syms) el22 rfl (hR.s) rfl (WL.guardT (yf_bool rfl rfl hg6) (WL.bin rfl rfl rfl (BinR.leq) (WL.pick (b := true) (congrArg Value.bool hg6) rfl rfl (WL.move (v := .bool (decide (((I.syms.length : Nat) : Int) ≤ (65 : Int)))) rfl rfl ?_)))))))))
    rcases Bool.eq_false_or_eq_true (decide (((I.syms.length : Nat) : Int) ≤ (65 : Int))) with hg12 | hg12
    · have hpos : 0 < I.syms.length := by have := hg6; simp at this; omega
      have hhead := headAt_eq I.syms hpos
      obtain ⟨bs0, os0, cs0, es0, hcs0⟩ := hR.s.at hpos
      refine WL.guardT (yf_bool rfl rfl hg12) (WL.fieldAddr rfl fo25_1 rfl (WL.guardT (yf_bool rfl rfl hg12) (WL.load1 rfl ag22 (hB.cell (j := 1) rfl) rfl (WL.guardT (yf_bool rfl rfl hg12) (WL.indexAddr (i := 0) (b := bs0) (o := os0) el22 sz98 (Eq.trans (rfl) es0) rfl (by omega) rfl (WL.guardT (yf_bool rfl rfl hg12) (WL.fieldAddr rfl fo98_1 rfl (WL.guardT (yf_bool rfl rfl hg12) (WL.load1 rfl ag3 ((symCells_get I.syms 0 (by omega)).2 |> hcs0 (0 * 2 + 1) _) rfl ?_)))))))))
      refine WL.guardT (yf_bool rfl rfl hg12) (WL.bin rfl rfl rfl (BinR.eql) (WL.pick (b := true) (congrArg Value.bool hg12) rfl rfl (WL.assign (v := .bool ((((I.syms[0]).2 : Int) == (0 : Int)))) rfl rfl (WL.nil (WC.ret ?_)))))
      have hfin : ((.bool ((((I.syms[0]).2 : Int) == (0 : Int)))) : Value) = Value.bool (right4 I) := congrArg Value.bool (by unfold right4; first | (rw [Bool.eq_iff_iff]; simp at *; omega) | (rw [hhead]; simp [*]; done) | (rw [hhead]; rw [Bool.eq_iff_iff]; simp at *; omega))
      exact ⟨_, Res.one (v := .bool ((((I.syms[0]).2 : Int) == (0 : Int)))) rfl rfl, hfin, rfl⟩
    · refine WL.guardF (b' := false) (yf_bool rfl rfl hg12) rfl rfl (WL.guardF (b' := false) (yf_bool rfl rfl hg12) rfl rfl (WL.guardF (b' := false) (yf_bool rfl rfl hg12) rfl rfl (WL.guardF (b' := false) (yf_bool rfl rfl hg12) rfl rfl (WL.guardF (b' := false) (yf_bool rfl rfl hg12) rfl rfl (WL.guardF (b' := false) (yf_bool rfl rfl hg12) rfl rfl (WL.pick (b := false) (congrArg Value.bool hg12) rfl rfl (WL.assign (v := .bool (false)) rfl rfl (WL.nil (WC.ret ?_)))))))))
      have hfin : ((.bool (false)) : Value) = Value.bool (right4 I) := congrArg Value.bool (by unfold right4; first | (rw [Bool.eq_iff_iff]; simp at *; omega) | (rw [hhead]; simp [*]; done) | (rw [hhead]; rw [Bool.eq_iff_iff]; simp at *; omega))
      exact ⟨_, Res.one (v := .bool (false)) rfl rfl, hfin, rfl⟩
  · refine WL.guardF (b' := false) (yf_bool rfl rfl hg6) rfl rfl (WL.guardF (b' := false) (yf_bool rfl rfl hg6) rfl rfl (WL.guardF (b' := false) (yf_bool rfl rfl hg6) rfl rfl (WL.guardF (b' := false) (yf_bool rfl rfl hg6) rfl rfl (WL.pick (b := false) (congrArg Value.bool hg6) rfl rfl (WL.move (v := .bool (false)) rfl rfl (WL.guardF (b' := false) (rfl) rfl rfl (WL.guardF (b' := false) (rfl) rfl rfl (WL.guardF (b' := false) (rfl) rfl rfl (WL.guardF (b' := false) (rfl) rfl rfl ?_)))))))))
    refine WL.guardF (b' := false) (rfl) rfl rfl (WL.guardF (b' := false) (rfl) rfl rfl (WL.pick (b := false) rfl rfl rfl (WL.assign (v := .bool (false)) rfl rfl (WL.nil (WC.ret ?_)))))
    have hfin : ((.bool (false)) : Value) = Value.bool (right4 I) := congrArg Value.bool (by unfold right4; first | (rw [Bool.eq_iff_iff]; simp at *; omega) | (rw [hhead]; simp [*]; done) | (rw [hhead]; rw [Bool.eq_iff_iff]; simp at *; omega))
    exact ⟨_, Res.one (v := .bool (false)) rfl rfl, hfin, rfl⟩
end Go.Proofs.R
end
section
set_option linter.unusedSimpArgs false
set_option linter.unusedVariables false
namespace Go.Proofs.R
open Go Go.Ux Go.Ux.Image Go.Proofs
theorem ag128 : isAggT Tryz.prog 128 = some false := by kernel_rfl
theorem fo98_0 : fieldOff Tryz.prog 98 0 = some 0 := by kernel_rfl
theorem ag9 : isAggT Tryz.prog 9 = some false := by kernel_rfl
theorem sz3 : sizeT Tryz.prog 3 = some 1 := by kernel_rfl
theorem zero3 : ∀ w : World, (zeroValue 3).run Tryz.prog w = .ok (IN 0) w := fun _ => by kernel_rfl
def Cnt (ls : List (List UInt8 × Nat)) (ns : List (List UInt8)) : Prop := ∀ k, (0 < cnt ls k ↔ k ∈ ns) ∧ cnt ls k ≤ ns.length
theorem Cnt.next {ls : List (List UInt8 × Nat)} {ns : List (List UInt8)} (h : Cnt ls ns) (k : List UInt8) : Cnt (cntSet ls k (cnt ls k + 1)) (k :: ns) := by
  intro k'
  have h1 := h k'
  have h2 := h k
  rw [cnt_set]
  by_cases e : k = k'
  · subst e; simp; omega
  · have : ¬ k' = k := fun e' => e e'.symm
    simp [e, this, h1]; omega
theorem symOk_not (nw : Nat) (ns : List (List UInt8)) (last : Int) (s : List UInt8 × Int) (c : Nat) (hmem : ns.contains s.1 = decide (0 < c)) :
    (!symOk nw ns last s) = (decide ((s.1.length : Int) < 1) || decide (64 < (s.1.length : Int)) || decide (1 < ((c + 1 : Nat) : Int)) || decide (s.2 ≤ last) || (s.2 % 4 != 0) || decide (((4 * nw : Nat) : Int) ≤ s.2)) := by
  unfold symOk
  rw [hmem]
  generalize s.1.length = n
  generalize s.2 = a
  rw [Bool.eq_iff_iff]
  simp only [Bool.not_eq_true', Bool.and_eq_false_iff, Bool.not_eq_false', Bool.or_eq_true, decide_eq_true_eq, decide_eq_false_iff_not, bne_iff_ne, beq_eq_false_iff_ne, ne_eq]
  omega
theorem wrong_spec (s : List UInt8 × Int) (ls : List (List UInt8 × Nat)) (ns : List (List UInt8)) (last : Int) (bn bl r bm : Nat) (sv wv : Value) (I : Img) (w : World) (hn : Blk w bn #[.map (some r)] 128) (hL : Blk w bl #[.int .i64 last] 3) (hB : Blk w bm #[.int .i64 I.entry, sv, wv] 25) (hR : Rep w sv wv I) (hM : MapS w r ls) (hC : Cnt ls ns) (hlast : -1 ≤ last) (hns : ns.length ≤ 1000000000) (hs2 : s.2 ≤ 9223372036854775807) (d1 : bn ≠ r) (d2 : bl ≠ r) (d3 : bm ≠ r) (d4 : bn ≠ bl) (d5 : bm ≠ bl) (dw : 0 < I.words.length → ∀ g, wv.ownBlock = some g → g ≠ r ∧ g ≠ bl) (s64 : True) : CallsR Tryz.prog 54 #[.agg #[St (s.1), .int .i64 (s.2)], ptr bn 0, ptr bl 0, ptr bm 0] w (fun v w' => v = .bool (!symOk I.words.length ns last s) ∧ Mod (fun k => k = r ∨ k = bl) w w' ∧ MapS w' r (cntSet ls s.1 (cnt ls s.1 + 1)) ∧ Blk w' bl #[.int .i64 s.2] 3) := by
  have hI2 := hR.lw
  have hc0 := (hC s.1).2
  have hmem : ns.contains s.1 = decide (0 < cnt ls s.1) := by rw [Bool.eq_iff_iff, decide_eq_true_eq, (hC s.1).1, List.contains_iff_mem]
  have hcc : cnt (cntSet ls s.1 (cnt ls s.1 + 1)) s.1 = cnt ls s.1 + 1 := by rw [cnt_set]; simp
  refine callsR_of Tryz.func54 rfl rfl rfl ?_
  refine WC.seq (WC.region (WL.box (v := .agg #[St (s.1), .int .i64 (s.2)]) rfl rfl ?_))
  intro b4 w4 n4
  refine WL.assign (v := .bool (false)) rfl rfl (WL.nil (WC.seq (WC.region ?_)))
  have B2 := (hn).ext (n4.ext)
  refine WL.load1 rfl ag128 (B2.cell (j := 0) rfl) rfl (WL.fieldAddr rfl fo98_0 rfl (WL.load1 rfl ag9 (n4.blk.cell (j := 0) rfl) rfl (WL.lookupS (ls := ls) (k := (s.1)) Tryz.underlying128 Tryz.underlying9 zero3 rfl rfl (hM.ext n4.ext) rfl (WL.bin rfl rfl rfl (BinR.succN (by omega)) (WL.mapSet (ls := ls) (k := (s.1)) (v := cnt (ls) (s.1) + 1) Tryz.underlying128 Tryz.underlying9 rfl rfl rfl (hM.ext n4.ext) ?_)))))
  intro wm hm mm
  refine WL.nil (WC.seq (WC.region (WL.fieldAddr rfl fo98_0 rfl ?_)))
  have B3 := (n4.blk).mod (mm) ((fun e => by have := n4.num; have := hM.lt; omega))
  refine WL.load1 rfl ag9 (B3.cell (j := 0) rfl) rfl (WL.lenSt Tryz.underlying9 rfl rfl (WL.bin rfl rfl rfl (BinR.lss) (WL.move (v := .bool (decide ((((s.1).length : Nat) : Int) < (1 : Int)))) rfl rfl ?_)))
  rcases Bool.eq_false_or_eq_true (decide ((((s.1).length : Nat) : Int) < (1 : Int))) with hg16 | hg16
  · refine WL.guardF (b' := true) (yf_bool rfl rfl hg16) rfl rfl (WL.guardF (b' := true) (yf_bool rfl rfl hg16) rfl rfl (WL.guardF (b' := true) (yf_bool rfl rfl hg16) rfl rfl (WL.guardF (b' := true) (yf_bool rfl rfl hg16) rfl rfl (WL.pick (b := true) (congrArg Value.bool hg16) rfl rfl (WL.move (v := .bool (true)) rfl rfl (WL.guardF (b' := true) (rfl) rfl rfl (WL.guardF (b' := true) (rfl) rfl rfl (WL.guardF (b' := true) (rfl) rfl rfl (WL.guardF (b' := true) (rfl) rfl rfl ?_)))))))))
    refine WL.guardF (b' := true) (rfl) rfl rfl (WL.pick (b := true) rfl rfl rfl (WL.move (v := .bool (true)) rfl rfl (WL.guardF (b' := true) (rfl) rfl rfl (WL.guardF (b' := true) (rfl) rfl rfl (WL.guardF (b' := true) (rfl) rfl rfl (WL.guardF (b' := true) (rfl) rfl rfl (WL.pick (b := true) rfl rfl rfl (WL.move (v := .bool (true)) rfl rfl (WL.guardF (b' := true) (rfl) rfl rfl ?_)))))))))
    refine WL.guardF (b' := true) (rfl) rfl rfl (WL.guardF (b' := true) (rfl) rfl rfl (WL.guardF (b' := true) (rfl) rfl rfl (WL.pick (b := true) rfl rfl rfl (WL.move (v := .bool (true)) rfl rfl (WL.guardF (b' := true) (rfl) rfl rfl (WL.guardF (b' := true) (rfl) rfl rfl (WL.guardF (b' := true) (rfl) rfl rfl (WL.guardF (b' := true) (rfl) rfl rfl (WL.guardF (b' := true) (rfl) rfl rfl ?_)))))))))
    refine WL.guardF (b' := true) (rfl) rfl rfl (WL.guardF (b' := true) (rfl) rfl rfl (WL.pick (b := true) rfl rfl rfl (WL.assign (v := .bool (true)) rfl rfl (WL.nil (WC.seq (WC.region (WL.fieldAddr rfl fo98_1 rfl (WL.load1 rfl ag3 (B3.cell (j := 1) rfl) rfl ?_))))))))
    have B4 := ((hL).ext (n4.ext)).mod (mm) (d2)
    refine WL.storeB (v := .int .i64 (s.2)) rfl rfl rfl sz3 B4 (Nat.le_of_ble_eq_true rfl) ?_
    intro ws5 ms5 bs5 zs5
    refine WL.nil (WC.seq (WC.region (WL.move (v := .bool (true)) rfl rfl (WL.assign (v := .bool (true)) rfl rfl (WL.nil (WC.ret ?_))))))
    have hfin : ((.bool (true)) : Value) = Value.bool (!symOk I.words.length ns last s) := congrArg Value.bool (by rw [symOk_not _ _ _ _ _ hmem]; clear hn hL hB hR hM hC dw hm hmem; simp only [hcc] at *; simp only [*, Bool.true_or, Bool.or_true, Bool.false_or, Bool.or_false])
    exact ⟨_, Res.one (v := .bool (true)) rfl rfl, hfin, Mod.trans (Mod.trans (Mod.ext (n4.ext)) ((mm).imp (fun _ _ h => Or.inl h))) ((ms5).imp (fun _ _ h => Or.inr h)), hm.mod (ms5) (fun e => d2 e.symm), bs5⟩
  · refine WL.guardT (yf_bool rfl rfl hg16) (WL.fieldAddr rfl fo98_0 rfl (WL.guardT (yf_bool rfl rfl hg16) (WL.load1 rfl ag9 (B3.cell (j := 0) rfl) rfl (WL.guardT (yf_bool rfl rfl hg16) (WL.lenSt Tryz.underlying9 rfl rfl (WL.guardT (yf_bool rfl rfl hg16) (WL.bin rfl rfl rfl (BinR.gtr) (WL.pick (b := false) (congrArg Value.bool hg16) rfl rfl (WL.move (v := .bool (decide ((64 : Int) < (((s.1).length : Nat) : Int)))) rfl rfl ?_)))))))))
    rcases Bool.eq_false_or_eq_true (decide ((64 : Int) < (((s.1).length : Nat) : Int))) with hg22 | hg22
    · refine WL.guardF (b' := true) (yf_bool rfl rfl hg22) rfl rfl (WL.guardF (b' := true) (yf_bool rfl rfl hg22) rfl rfl (WL.guardF (b' := true) (yf_bool rfl rfl hg22) rfl rfl (WL.guardF (b' := true) (yf_bool rfl rfl hg22) rfl rfl (WL.guardF (b' := true) (yf_bool rfl rfl hg22) rfl rfl (WL.pick (b := true) (congrArg Value.bool hg22) rfl rfl (WL.move (v := .bool (true)) rfl rfl (WL.guardF (b' := true) (rfl) rfl rfl (WL.guardF (b' := true) (rfl) rfl rfl (WL.guardF (b' := true) (rfl) rfl rfl ?_)))))))))
      refine WL.guardF (b' := true) (rfl) rfl rfl (WL.pick (b := true) rfl rfl rfl (WL.move (v := .bool (true)) rfl rfl (WL.guardF (b' := true) (rfl) rfl rfl (WL.guardF (b' := true) (rfl) rfl rfl (WL.guardF (b' := true) (rfl) rfl rfl (WL.guardF (b' := true) (rfl) rfl rfl (WL.pick (b := true) rfl rfl rfl (WL.move (v := .bool (true)) rfl rfl (WL.guardF (b' := true) (rfl) rfl rfl ?_)))))))))
      refine WL.guardF (b' := true) (rfl) rfl rfl (WL.guardF (b' := true) (rfl) rfl rfl (WL.guardF (b' := true) (rfl) rfl rfl (WL.guardF (b' := true) (rfl) rfl rfl (WL.guardF (b' := true) (rfl) rfl rfl (WL.guardF (b' := true) (rfl) rfl rfl (WL.pick (b := true) rfl rfl rfl (WL.assign (v := .bool (true)) rfl rfl (WL.nil (WC.seq ?_)))))))))
      refine WC.region (WL.fieldAddr rfl fo98_1 rfl (WL.load1 rfl ag3 (B3.cell (j := 1) rfl) rfl ?_))
      have B6 := ((hL).ext (n4.ext)).mod (mm) (d2)
      refine WL.storeB (v := .int .i64 (s.2)) rfl rfl rfl sz3 B6 (Nat.le_of_ble_eq_true rfl) ?_
      intro ws7 ms7 bs7 zs7
      refine WL.nil (WC.seq (WC.region (WL.move (v := .bool (true)) rfl rfl (WL.assign (v := .bool (true)) rfl rfl (WL.nil (WC.ret ?_))))))
      have hfin : ((.bool (true)) : Value) = Value.bool (!symOk I.words.length ns last s) := congrArg Value.bool (by rw [symOk_not _ _ _ _ _ hmem]; clear hn hL hB hR hM hC dw hm hmem; simp only [hcc] at *; simp only [*, Bool.true_or, Bool.or_true, Bool.false_or, Bool.or_false])
      exact ⟨_, Res.one (v := .bool (true)) rfl rfl, hfin, Mod.trans (Mod.trans (Mod.ext (n4.ext)) ((mm).imp (fun _ _ h => Or.inl h))) ((ms7).imp (fun _ _ h => Or.inr h)), hm.mod (ms7) (fun e => d2 e.symm), bs7⟩
    · refine WL.guardT (yf_bool rfl rfl hg22) ?_
      have B8 := (B2).mod (mm) (d1)
      refine WL.load1 rfl ag128 (B8.cell (j := 0) rfl) rfl (WL.guardT (yf_bool rfl rfl hg22) (WL.fieldAddr rfl fo98_0 rfl (WL.guardT (yf_bool rfl rfl hg22) (WL.load1 rfl ag9 (B3.cell (j := 0) rfl) rfl (WL.guardT (yf_bool rfl rfl hg22) (WL.lookupS (ls := cntSet ls (s.1) (cnt (ls) (s.1) + 1)) (k := (s.1)) Tryz.underlying128 Tryz.underlying9 zero3 rfl rfl (hm) rfl (WL.guardT (yf_bool rfl rfl hg22) (WL.bin rfl rfl rfl (BinR.gtr) (WL.pick (b := false) (congrArg Value.bool hg22) rfl rfl ?_)))))))))
      refine WL.move (v := .bool (decide ((1 : Int) < ((cnt (cntSet ls (s.1) (cnt (ls) (s.1) + 1)) (s.1) : Nat) : Int)))) rfl rfl ?_
      rcases Bool.eq_false_or_eq_true (decide ((1 : Int) < ((cnt (cntSet ls (s.1) (cnt (ls) (s.1) + 1)) (s.1) : Nat) : Int))) with hg29 | hg29
      · refine WL.guardF (b' := true) (yf_bool rfl rfl hg29) rfl rfl (WL.guardF (b' := true) (yf_bool rfl rfl hg29) rfl rfl (WL.guardF (b' := true) (yf_bool rfl rfl hg29) rfl rfl (WL.guardF (b' := true) (yf_bool rfl rfl hg29) rfl rfl (WL.pick (b := true) (congrArg Value.bool hg29) rfl rfl (WL.move (v := .bool (true)) rfl rfl (WL.guardF (b' := true) (rfl) rfl rfl (WL.guardF (b' := true) (rfl) rfl rfl (WL.guardF (b' := true) (rfl) rfl rfl (WL.guardF (b' := true) (rfl) rfl rfl ?_)))))))))
        refine WL.pick (b := true) rfl rfl rfl (WL.move (v := .bool (true)) rfl rfl (WL.guardF (b' := true) (rfl) rfl rfl (WL.guardF (b' := true) (rfl) rfl rfl (WL.guardF (b' := true) (rfl) rfl rfl (WL.guardF (b' := true) (rfl) rfl rfl (WL.guardF (b' := true) (rfl) rfl rfl (WL.guardF (b' := true) (rfl) rfl rfl (WL.guardF (b' := true) (rfl) rfl rfl (WL.pick (b := true) rfl rfl rfl ?_)))))))))
        refine WL.assign (v := .bool (true)) rfl rfl (WL.nil (WC.seq (WC.region (WL.fieldAddr rfl fo98_1 rfl (WL.load1 rfl ag3 (B3.cell (j := 1) rfl) rfl ?_)))))
        have B9 := ((hL).ext (n4.ext)).mod (mm) (d2)
        refine WL.storeB (v := .int .i64 (s.2)) rfl rfl rfl sz3 B9 (Nat.le_of_ble_eq_true rfl) ?_
        intro ws10 ms10 bs10 zs10
        refine WL.nil (WC.seq (WC.region (WL.move (v := .bool (true)) rfl rfl (WL.assign (v := .bool (true)) rfl rfl (WL.nil (WC.ret ?_))))))
        have hfin : ((.bool (true)) : Value) = Value.bool (!symOk I.words.length ns last s) := congrArg Value.bool (by rw [symOk_not _ _ _ _ _ hmem]; clear hn hL hB hR hM hC dw hm hmem; simp only [hcc] at *; simp only [*, Bool.true_or, Bool.or_true, Bool.false_or, Bool.or_false])
        exact ⟨_, Res.one (v := .bool (true)) rfl rfl, hfin, Mod.trans (Mod.trans (Mod.ext (n4.ext)) ((mm).imp (fun _ _ h => Or.inl h))) ((ms10).imp (fun _ _ h => Or.inr h)), hm.mod (ms10) (fun e => d2 e.symm), bs10⟩
      · refine WL.guardT (yf_bool rfl rfl hg29) (WL.fieldAddr rfl fo98_1 rfl (WL.guardT (yf_bool rfl rfl hg29) (WL.load1 rfl ag3 (B3.cell (j := 1) rfl) rfl (WL.guardT (yf_bool rfl rfl hg29) ?_))))
        have B11 := ((hL).ext (n4.ext)).mod (mm) (d2)
        refine WL.load1 rfl ag3 (B11.cell (j := 0) rfl) rfl (WL.guardT (yf_bool rfl rfl hg29) (WL.bin rfl rfl rfl (BinR.leq) (WL.pick (b := false) (congrArg Value.bool hg29) rfl rfl (WL.move (v := .bool (decide ((s.2 : Int) ≤ (last : Int)))) rfl rfl ?_))))
        rcases Bool.eq_false_or_eq_true (decide ((s.2 : Int) ≤ (last : Int))) with hg35 | hg35
        · refine WL.guardF (b' := true) (yf_bool rfl rfl hg35) rfl rfl (WL.guardF (b' := true) (yf_bool rfl rfl hg35) rfl rfl (WL.guardF (b' := true) (yf_bool rfl rfl hg35) rfl rfl (WL.guardF (b' := true) (yf_bool rfl rfl hg35) rfl rfl (WL.pick (b := true) (congrArg Value.bool hg35) rfl rfl (WL.move (v := .bool (true)) rfl rfl (WL.guardF (b' := true) (rfl) rfl rfl (WL.guardF (b' := true) (rfl) rfl rfl (WL.guardF (b' := true) (rfl) rfl rfl (WL.guardF (b' := true) (rfl) rfl rfl ?_)))))))))
          refine WL.guardF (b' := true) (rfl) rfl rfl (WL.guardF (b' := true) (rfl) rfl rfl (WL.guardF (b' := true) (rfl) rfl rfl (WL.pick (b := true) rfl rfl rfl (WL.assign (v := .bool (true)) rfl rfl (WL.nil (WC.seq (WC.region (WL.fieldAddr rfl fo98_1 rfl (WL.load1 rfl ag3 (B3.cell (j := 1) rfl) rfl ?_)))))))))
          refine WL.storeB (v := .int .i64 (s.2)) rfl rfl rfl sz3 B11 (Nat.le_of_ble_eq_true rfl) ?_
          intro ws12 ms12 bs12 zs12
          refine WL.nil (WC.seq (WC.region (WL.move (v := .bool (true)) rfl rfl (WL.assign (v := .bool (true)) rfl rfl (WL.nil (WC.ret ?_))))))
          have hfin : ((.bool (true)) : Value) = Value.bool (!symOk I.words.length ns last s) := congrArg Value.bool (by rw [symOk_not _ _ _ _ _ hmem]; clear hn hL hB hR hM hC dw hm hmem; simp only [hcc] at *; simp only [*, Bool.true_or, Bool.or_true, Bool.false_or, Bool.or_false])
          exact ⟨_, Res.one (v := .bool (true)) rfl rfl, hfin, Mod.trans (Mod.trans (Mod.ext (n4.ext)) ((mm).imp (fun _ _ h => Or.inl h))) ((ms12).imp (fun _ _ h => Or.inr h)), hm.mod (ms12) (fun e => d2 e.symm), bs12⟩
        · refine WL.guardT (yf_bool rfl rfl hg35) (WL.fieldAddr rfl fo98_1 rfl (WL.guardT (yf_bool rfl rfl hg35) (WL.load1 rfl ag3 (B3.cell (j := 1) rfl) rfl (WL.guardT (yf_bool rfl rfl hg35) (WL.bin rfl rfl rfl (BinR.remI (by have := of_decide_eq_false hg35; omega) (by decide)) (WL.guardT (yf_bool rfl rfl hg35) (WL.bin rfl rfl rfl (BinR.neq) (WL.pick (b := false) (congrArg Value.bool hg35) rfl rfl (WL.move (v := .bool (((s.2 % 4 : Int) != (0 : Int)))) rfl rfl ?_)))))))))
          rcases Bool.eq_false_or_eq_true (((s.2 % 4 : Int) != (0 : Int))) with hg41 | hg41
          · refine WL.guardF (b' := true) (yf_bool rfl rfl hg41) rfl rfl (WL.guardF (b' := true) (yf_bool rfl rfl hg41) rfl rfl (WL.guardF (b' := true) (yf_bool rfl rfl hg41) rfl rfl (WL.guardF (b' := true) (yf_bool rfl rfl hg41) rfl rfl (WL.guardF (b' := true) (yf_bool rfl rfl hg41) rfl rfl (WL.guardF (b' := true) (yf_bool rfl rfl hg41) rfl rfl (WL.guardF (b' := true) (yf_bool rfl rfl hg41) rfl rfl (WL.pick (b := true) (congrArg Value.bool hg41) rfl rfl (WL.assign (v := .bool (true)) rfl rfl (WL.nil ?_)))))))))
            refine WC.seq (WC.region (WL.fieldAddr rfl fo98_1 rfl (WL.load1 rfl ag3 (B3.cell (j := 1) rfl) rfl (WL.storeB (v := .int .i64 (s.2)) rfl rfl rfl sz3 B11 (Nat.le_of_ble_eq_true rfl) ?_))))
            intro ws13 ms13 bs13 zs13
            refine WL.nil (WC.seq (WC.region (WL.move (v := .bool (true)) rfl rfl (WL.assign (v := .bool (true)) rfl rfl (WL.nil (WC.ret ?_))))))
            have hfin : ((.bool (true)) : Value) = Value.bool (!symOk I.words.length ns last s) := congrArg Value.bool (by rw [symOk_not _ _ _ _ _ hmem]; clear hn hL hB hR hM hC dw hm hmem; simp only [hcc] at *; simp only [*, Bool.true_or, Bool.or_true, Bool.false_or, Bool.or_false])
            exact ⟨_, Res.one (v := .bool (true)) rfl rfl, hfin, Mod.trans (Mod.trans (Mod.ext (n4.ext)) ((mm).imp (fun _ _ h => Or.inl h))) ((ms13).imp (fun _ _ h => Or.inr h)), hm.mod (ms13) (fun e => d2 e.symm), bs13⟩
          · refine WL.guardT (yf_bool rfl rfl hg41) (WL.fieldAddr rfl fo98_1 rfl (WL.guardT (yf_bool rfl rfl hg41) (WL.load1 rfl ag3 (B3.cell (j := 1) rfl) rfl (WL.guardT (yf_bool rfl rfl hg41) (WL.fieldAddr rfl fo25_2 rfl (WL.guardT (yf_bool rfl rfl hg41) ?_))))))
            have B14 := ((hB).ext (n4.ext)).mod (mm) (d3)
            refine WL.load1 rfl ag23 (B14.cell (j := 2) rfl) rfl (WL.guardT (yf_bool rfl rfl hg41) ?_)
            have S15 := ((hR.w).ext' (n4.ext)).modp (mm) (fun h0 g hg e => (dw h0 g hg).1 e)
            refine WL.lenSl (sz := 1) (m := I.words.length) (xs := wordCells I.words) el23 rfl (S15) rfl (WL.guardT (yf_bool rfl rfl hg41) (WL.bin rfl rfl rfl (BinR.mulN (a := 4) (b := I.words.length) (by omega)) (WL.guardT (yf_bool rfl rfl hg41) (WL.bin rfl rfl rfl (BinR.geq) (WL.pick (b := false) (congrArg Value.bool hg41) rfl rfl (WL.assign (v := .bool (decide ((((4 * I.words.length) : Nat) : Int) ≤ (s.2 : Int)))) rfl rfl (WL.nil (WC.seq (WC.region ?_)))))))))
            refine WL.fieldAddr rfl fo98_1 rfl (WL.load1 rfl ag3 (B3.cell (j := 1) rfl) rfl (WL.storeB (v := .int .i64 (s.2)) rfl rfl rfl sz3 B11 (Nat.le_of_ble_eq_true rfl) ?_))
            intro ws16 ms16 bs16 zs16
            refine WL.nil (WC.seq (WC.region (WL.move (v := .bool (decide ((((4 * I.words.length) : Nat) : Int) ≤ (s.2 : Int)))) rfl rfl (WL.assign (v := .bool (decide ((((4 * I.words.length) : Nat) : Int) ≤ (s.2 : Int)))) rfl rfl (WL.nil (WC.ret ?_))))))
            have hfin : ((.bool (decide ((((4 * I.words.length) : Nat) : Int) ≤ (s.2 : Int)))) : Value) = Value.bool (!symOk I.words.length ns last s) := congrArg Value.bool (by rw [symOk_not _ _ _ _ _ hmem]; clear hn hL hB hR hM hC dw hm hmem; simp only [hcc] at *; simp only [*, Bool.true_or, Bool.or_true, Bool.false_or, Bool.or_false])
            exact ⟨_, Res.one (v := .bool (decide ((((4 * I.words.length) : Nat) : Int) ≤ (s.2 : Int)))) rfl rfl, hfin, Mod.trans (Mod.trans (Mod.ext (n4.ext)) ((mm).imp (fun _ _ h => Or.inl h))) ((ms16).imp (fun _ _ h => Or.inr h)), hm.mod (ms16) (fun e => d2 e.symm), bs16⟩
end Go.Proofs.R
end
section
set_option linter.unusedSimpArgs false
set_option linter.unusedVariables false
namespace Go.Proofs.R
open Go Go.Ux Go.Ux.Image Go.Proofs
theorem ag98 : isAggT Tryz.prog 98 = some true := by kernel_rfl
theorem ca54 : callable Tryz.prog 54 = true := by kernel_rfl
theorem symsOk_drop (nw : Nat) (ns : List (List UInt8)) (last : Int) (l : List (List UInt8 × Int)) (j : Nat) (h : j < l.length) : symsOk nw ns last (l.drop j) = (symOk nw ns last l[j] && symsOk nw ((l[j]).1 :: ns) (l[j]).2 (l.drop (j + 1))) := by
  rw [List.drop_eq_getElem_cons h]; rfl
theorem symOk_last {nw : Nat} {ns : List (List UInt8)} {last : Int} {s : List UInt8 × Int} (h : symOk nw ns last s = true) : last < s.2 := by
  simp only [symOk, Bool.and_eq_true, decide_eq_true_eq] at h; omega
theorem index_wrong (bn bl r bm : Nat) (sv wv : Value) (I : Img) (w : World) (hn : Blk w bn #[.map (some r)] 128) (hL : Blk w bl #[.int .i64 (-1)] 3) (hB : Blk w bm #[.int .i64 I.entry, sv, wv] 25) (hR : Rep w sv wv I) (hM : MapS w r []) (d1 : bn ≠ r) (d2 : bl ≠ r) (d3 : bm ≠ r) (d4 : bn ≠ bl) (d5 : bm ≠ bl) (ds : 0 < I.syms.length → ∀ g, sv.ownBlock = some g → g ≠ r ∧ g ≠ bl) (dw : 0 < I.words.length → ∀ g, wv.ownBlock = some g → g ≠ r ∧ g ≠ bl) (hN : ∀ s ∈ I.syms, True ∧ s.2 ≤ 9223372036854775807) : CallsR Tryz.prog 89 #[sv, .func (.func 54) #[] #[ptr bn 0, ptr bl 0, ptr bm 0]] w (fun v w' => ∃ z : Int, v = .int .i64 z ∧ decide (0 ≤ z) = (!right5 I) ∧ Mod (fun k => k = r ∨ k = bl) w w') := by
  have hI1 := hR.ls
  have hI2 := hR.lw
  refine callsR_of Tryz.func89 rfl rfl rfl ?_
  refine WC.seq (WC.region (WL.assign (v := IN (0)) rfl rfl (WL.nil (WC.seq (WC.seq (WC.region (WL.move (v := sv) rfl rfl (WL.lenSl (sz := 2) (m := I.syms.length) (xs := symCells I.syms) el22 rfl (hR.s) rfl (WL.move (v := IN (0)) rfl rfl ?_)))))))))
  refine WL.nil (WC.block ?_)
  refine WC.loop (fun k f w_ => ∃ j ls ns last, (k + j = I.syms.length) ∧ (ns.length = j) ∧ (-1 ≤ last) ∧ (Cnt ls ns) ∧ (right5 I = symsOk I.words.length ns last (I.syms.drop j)) ∧ f 0 = sv ∧ f 1 = .func (.func 54) #[] #[ptr bn 0, ptr bl 0, ptr bm 0] ∧ f 6 = sv ∧ f 7 = IN (I.syms.length) ∧ f 8 = IN (j) ∧ (Mod (fun k => k = r ∨ k = bl) w w_) ∧ (Blk w_ bn #[.map (some r)] 128) ∧ (Blk w_ bl #[.int .i64 last] 3) ∧ (Blk w_ bm #[.int .i64 I.entry, sv, wv] 25) ∧ (MapS w_ r ls)) (I.syms.length) ?_ ?_
  · exact ⟨(0), ([]), ([]), (-1), by omega, rfl, by decide, fun k => by simp [cnt], rfl, rfl, rfl, rfl, rfl, rfl, Mod.refl _ _, hn, hL, hB, hM⟩
  rintro k f1 wr ⟨j, ls, ns, last, hk1, hj0, hlast, hC, hs, h0_1, h1_1, h6_1, h7_1, h8_1, hE, hn2, hL2, hB2, hM2⟩
  refine WC.seq (WC.region (WL.bin h8_1 h7_1 rfl (BinR.lss) (WL.nil (WC.seq ?_))))
  refine WC.cond rfl (fun hc9 => ?_) (fun hc9 => ?_)
  · have hj : j < I.syms.length := by have := of_decide_eq_true hc9; omega
    have hRc := hR.mod hE (fun h0 b hb e => e.elim (ds h0 b hb).1 (ds h0 b hb).2) (fun h0 b hb e => e.elim (dw h0 b hb).1 (dw h0 b hb).2)
    obtain ⟨bs0, os0, cs0, es0, hcs0⟩ := hRc.s.at (by omega)
    refine WC.skip (WC.seq (WC.block (WC.seq (WC.region (WL.move (v := IN (j)) h8_1 rfl (WL.assign (v := IN (j)) rfl rfl (WL.nil (WC.seq (WC.region ?_)))))))))
    refine WL.move (v := .func (.func 54) #[] #[ptr bn 0, ptr bl 0, ptr bm 0]) h1_1 rfl (WL.move (v := sv) h0_1 rfl (WL.move (v := IN (j)) rfl rfl (WL.indexAddr (i := j) (b := bs0) (o := os0) el22 sz98 (Eq.trans (rfl) es0) rfl (by omega) rfl (WL.loadS [St (I.syms[j]).1, .int .i64 ((I.syms[j]).2)] rfl ag98 sz98 rfl (cells2 (hcs0) ((symCells_get I.syms j (by omega))).1 ((symCells_get I.syms j (by omega))).2) rfl (WL.callV (fs := #[]) (cs := #[ptr bn 0, ptr bl 0, ptr bm 0]) rfl ca54 rfl rfl (wrong_spec (I.syms[j]) ls ns last bn bl r bm sv wv I _ hn2 hL2 hB2 hRc hM2 hC hlast (by omega) (hN _ (List.getElem_mem _)).2 d1 d2 d3 d4 d5 dw trivial) ?_)))))
    rintro _ wd ⟨rfl, md, Md, Ld⟩
    refine WL.nil ?_
    refine WC.cond rfl (fun hc16 => ?_) (fun hc16 => ?_)
    · have hbad : symOk I.words.length ns last (I.syms[j]) = false := by simpa using hc16
      have hres : decide ((0 : Int) ≤ ((j : Nat) : Int)) = (!right5 I) := by rw [hs, symsOk_drop _ _ _ _ j hj, hbad]; simp
      have hEE := hE.trans md
      refine WC.seq (WC.region (WL.move (v := IN (j)) rfl rfl (WL.assign (v := IN (j)) rfl rfl (WL.nil (WC.ret ?_)))))
      exact ⟨_, Res.one (v := IN (j)) rfl rfl, _, rfl, hres, hEE⟩
    · have hok : symOk I.words.length ns last (I.syms[j]) = true := by simpa using hc16
      refine WC.skip (WC.region (WL.bin h8_1 rfl rfl (BinR.succN (by omega)) (WL.move (v := IN (j + 1)) rfl rfl (WL.nil ?_))))
      exact ⟨k - 1, by omega, (j + 1), (_), ((I.syms[j]).1 :: ns), ((I.syms[j]).2), by omega, by simp [hj0], by have := symOk_last hok; omega, hC.next _, by rw [hs, symsOk_drop _ _ _ _ j hj, hok]; rfl, h0_1, h1_1, h6_1, h7_1, rfl, hE.trans md, hn2.mod md (fun e => e.elim d1 d4), Ld, hB2.mod md (fun e => e.elim d3 d5), Md⟩
  · have hj : I.syms.length ≤ j := by have := of_decide_eq_false hc9; omega
    have hres : decide ((0 : Int) ≤ -1) = (!right5 I) := by rw [hs, List.drop_of_length_le hj]; rfl
    have hEE := hE
    refine WC.exit (WC.seq (WC.region (WL.assign (v := .int .i64 (-1)) rfl rfl (WL.nil (WC.ret ?_)))))
    exact ⟨_, Res.one (v := .int .i64 (-1)) rfl rfl, _, rfl, hres, hEE⟩
end Go.Proofs.R
end
section
set_option linter.unusedSimpArgs false
set_option linter.unusedVariables false
namespace Go.Proofs.R
open Go Go.Ux Go.Ux.Image Go.Proofs
theorem ca89 : callable Tryz.prog 89 = true := by kernel_rfl
theorem ag129 : isAggT Tryz.prog 129 = some false := by kernel_rfl
theorem ca59 : callable Tryz.prog 59 = true := by kernel_rfl
theorem ca55 : callable Tryz.prog 55 = true := by kernel_rfl
theorem ca56 : callable Tryz.prog 56 = true := by kernel_rfl
theorem ca57 : callable Tryz.prog 57 = true := by kernel_rfl
theorem ca58 : callable Tryz.prog 58 = true := by kernel_rfl
theorem el131 : elemT Tryz.prog 131 = some 27 := by kernel_rfl
theorem sz27 : sizeT Tryz.prog 27 = some 1 := by kernel_rfl
theorem ag27 : isAggT Tryz.prog 27 = some false := by kernel_rfl
theorem ca61 : callable Tryz.prog 61 = true := by kernel_rfl
theorem ca90 : callable Tryz.prog 90 = true := by kernel_rfl
theorem contains_wrong (bn bl r bm : Nat) (sv wv : Value) (I : Img) (w : World) (hn : Blk w bn #[.map (some r)] 128) (hL : Blk w bl #[.int .i64 (-1)] 3) (hB : Blk w bm #[.int .i64 I.entry, sv, wv] 25) (hR : Rep w sv wv I) (hM : MapS w r []) (d1 : bn ≠ r) (d2 : bl ≠ r) (d3 : bm ≠ r) (d4 : bn ≠ bl) (d5 : bm ≠ bl) (ds : 0 < I.syms.length → ∀ g, sv.ownBlock = some g → g ≠ r ∧ g ≠ bl) (dw : 0 < I.words.length → ∀ g, wv.ownBlock = some g → g ≠ r ∧ g ≠ bl) (hN : ∀ s ∈ I.syms, True ∧ s.2 ≤ 9223372036854775807) : CallsR Tryz.prog 59 #[sv, .func (.func 54) #[] #[ptr bn 0, ptr bl 0, ptr bm 0]] w (fun v w' => v = .bool (!right5 I) ∧ Mod (fun k => k = r ∨ k = bl) w w') := by
  refine callsR_of Tryz.func59 rfl rfl rfl ?_
  refine WC.seq (WC.region (WL.assign (v := .bool (false)) rfl rfl (WL.nil (WC.seq (WC.region (WL.move (v := sv) rfl rfl (WL.move (v := .func (.func 54) #[] #[ptr bn 0, ptr bl 0, ptr bm 0]) rfl rfl (WL.call ca89 (rfl) rfl (index_wrong bn bl r bm sv wv I _ hn hL hB hR hM d1 d2 d3 d4 d5 ds dw hN) ?_))))))))
  rintro _ wd7 ⟨z7, rfl, hz7, md7⟩
  refine WL.bin rfl rfl rfl (BinR.geq) (WL.assign (v := .bool (decide ((0 : Int) ≤ (z7 : Int)))) rfl rfl (WL.nil (WC.ret ?_)))
  exact ⟨_, Res.one (v := .bool (decide ((0 : Int) ≤ (z7 : Int)))) rfl rfl, congrArg Value.bool hz7, md7⟩
theorem right5_spec (bn bl r bm : Nat) (sv wv : Value) (I : Img) (w : World) (hn : Blk w bn #[.map (some r)] 128) (hL : Blk w bl #[.int .i64 (-1)] 3) (hB : Blk w bm #[.int .i64 I.entry, sv, wv] 25) (hR : Rep w sv wv I) (hM : MapS w r []) (d1 : bn ≠ r) (d2 : bl ≠ r) (d3 : bm ≠ r) (d4 : bn ≠ bl) (d5 : bm ≠ bl) (ds : 0 < I.syms.length → ∀ g, sv.ownBlock = some g → g ≠ r ∧ g ≠ bl) (dw : 0 < I.words.length → ∀ g, wv.ownBlock = some g → g ≠ r ∧ g ≠ bl) (hN : ∀ s ∈ I.syms, True ∧ s.2 ≤ 9223372036854775807) (bw : Nat) (hW : Blk w bw #[.func (.func 54) #[] #[ptr bn 0, ptr bl 0, ptr bm 0]] 129) : CallsR Tryz.prog 58 #[ptr bm 0, ptr bw 0] w (fun v w' => v = .bool (right5 I) ∧ Mod (fun k => k = r ∨ k = bl) w w') := by
  refine callsR_of Tryz.func58 rfl rfl rfl ?_
  refine WC.seq (WC.region (WL.assign (v := .bool (false)) rfl rfl (WL.nil (WC.seq (WC.region (WL.fieldAddr rfl fo25_1 rfl (WL.load1 rfl ag22 (hB.cell (j := 1) rfl) rfl (WL.load1 rfl ag129 (hW.cell (j := 0) rfl) rfl (WL.call ca59 (rfl) rfl (contains_wrong bn bl r bm sv wv I _ hn hL hB hR hM d1 d2 d3 d4 d5 ds dw hN) ?_)))))))))
  rintro _ wd6 ⟨rfl, md6⟩
  refine WL.un rfl rfl UnR.not (WL.assign (v := .bool (!(!right5 I))) rfl rfl (WL.nil (WC.ret ?_)))
  exact ⟨_, Res.one (v := .bool (!(!right5 I))) rfl rfl, congrArg Value.bool (Bool.not_not _), md6⟩
theorem not_spec (g : Nat) (cs : Array Value) (b : Bool) (R : World → Prop) (w : World) (hcal : callable Tryz.prog g = true) (hcl : CallsR Tryz.prog g cs.toList.toArray w (fun v w' => v = .bool b ∧ R w')) : CallsR Tryz.prog 61 #[.func (.func g) #[] cs] w (fun v w' => v = .bool (!b) ∧ R w') := by
  refine callsR_of Tryz.func61 rfl rfl rfl ?_
  refine WC.seq (WC.region (WL.assign (v := .bool (false)) rfl rfl (WL.nil (WC.seq (WC.region (WL.move (v := .func (.func g) #[] cs) rfl rfl (WL.callV (fs := #[]) (cs := cs) rfl hcal (by simp) rfl hcl ?_)))))))
  rintro _ wd4 ⟨rfl, hR4⟩
  refine WL.un rfl rfl UnR.not (WL.assign (v := .bool (!(b))) rfl rfl (WL.nil (WC.ret ?_)))
  exact ⟨_, Res.one (v := .bool (!(b))) rfl rfl, rfl, hR4⟩
def mustV (bm bw : Nat) : List Value := [.func (.func 55) #[] #[ptr bm 0], .func (.func 56) #[] #[ptr bm 0], .func (.func 57) #[] #[ptr bm 0], .func (.func 58) #[] #[ptr bm 0, ptr bw 0]]
def rights (I : Img) : List Bool := [right2 I, right3 I, right4 I, right5 I]
theorem must_calls (bn bl r bm : Nat) (sv wv : Value) (I : Img) (w : World) (hn : Blk w bn #[.map (some r)] 128) (hL : Blk w bl #[.int .i64 (-1)] 3) (hB : Blk w bm #[.int .i64 I.entry, sv, wv] 25) (hR : Rep w sv wv I) (hM : MapS w r []) (d1 : bn ≠ r) (d2 : bl ≠ r) (d3 : bm ≠ r) (d4 : bn ≠ bl) (d5 : bm ≠ bl) (ds : 0 < I.syms.length → ∀ g, sv.ownBlock = some g → g ≠ r ∧ g ≠ bl) (dw : 0 < I.words.length → ∀ g, wv.ownBlock = some g → g ≠ r ∧ g ≠ bl) (hN : ∀ s ∈ I.syms, True ∧ s.2 ≤ 9223372036854775807) (bw : Nat) (hW : Blk w bw #[.func (.func 54) #[] #[ptr bn 0, ptr bl 0, ptr bm 0]] 129) (j : Nat) (hj : j < 4) : ∃ g cs, (mustV bm bw)[j]? = some (.func (.func g) #[] cs) ∧ callable Tryz.prog g = true ∧
    CallsR Tryz.prog g cs.toList.toArray w (fun v w' => v = .bool ((rights I).getD j true) ∧ (Mod (fun k => k = r ∨ k = bl) w w' ∧ (j < 3 → w' = w))) := by
  match j, hj with
  | 0, _ => exact ⟨55, #[ptr bm 0], rfl, ca55, (right2_spec bm sv wv I w hR hB).mono fun v w' ⟨h1, h2⟩ => ⟨h1, h2 ▸ Mod.refl _ _, fun _ => h2.symm⟩⟩
  | 1, _ => exact ⟨56, #[ptr bm 0], rfl, ca56, (right3_spec bm sv wv I w hR hB).mono fun v w' ⟨h1, h2⟩ => ⟨h1, h2 ▸ Mod.refl _ _, fun _ => h2.symm⟩⟩
  | 2, _ => exact ⟨57, #[ptr bm 0], rfl, ca57, (right4_spec bm sv wv I w hR hB).mono fun v w' ⟨h1, h2⟩ => ⟨h1, h2 ▸ Mod.refl _ _, fun _ => h2.symm⟩⟩
  | 3, _ => exact ⟨58, #[ptr bm 0, ptr bw 0], rfl, ca58, (right5_spec bn bl r bm sv wv I w hn hL hB hR hM d1 d2 d3 d4 d5 ds dw hN bw hW).mono fun v w' ⟨h1, h2⟩ => ⟨h1, h2, fun h => absurd h (by decide)⟩⟩
theorem rightB_all (I : Img) (h : ∀ i, i < 4 → (rights I).getD i true = true) : rightB I = true := by
  have h0 := h 0 (by decide); have h1 := h 1 (by decide); have h2 := h 2 (by decide); have h3 := h 3 (by decide)
  simp [rights] at h0 h1 h2 h3
  simp [rightB, h0, h1, h2, h3]
theorem rightB_no (I : Img) (j : Nat) (hj : j < 4) (h : (rights I).getD j true = false) : rightB I = false := by
  match j, hj with
  | 0, _ => simp [rights] at h; simp [rightB, h]
  | 1, _ => simp [rights] at h; simp [rightB, h]
  | 2, _ => simp [rights] at h; simp [rightB, h]
  | 3, _ => simp [rights] at h; simp [rightB, h]
theorem index_must (bn bl r bm : Nat) (sv wv : Value) (I : Img) (w : World) (hn : Blk w bn #[.map (some r)] 128) (hL : Blk w bl #[.int .i64 (-1)] 3) (hB : Blk w bm #[.int .i64 I.entry, sv, wv] 25) (hR : Rep w sv wv I) (hM : MapS w r []) (d1 : bn ≠ r) (d2 : bl ≠ r) (d3 : bm ≠ r) (d4 : bn ≠ bl) (d5 : bm ≠ bl) (ds : 0 < I.syms.length → ∀ g, sv.ownBlock = some g → g ≠ r ∧ g ≠ bl) (dw : 0 < I.words.length → ∀ g, wv.ownBlock = some g → g ≠ r ∧ g ≠ bl) (hN : ∀ s ∈ I.syms, True ∧ s.2 ≤ 9223372036854775807) (bw : Nat) (hW : Blk w bw #[.func (.func 54) #[] #[ptr bn 0, ptr bl 0, ptr bm 0]] 129) (bq : Nat) (hq : Blk w bq (mustV bm bw).toArray 27) : CallsR Tryz.prog 90 #[.slice (some ⟨bq, 0, none⟩) 4 4, .func (.func 61) #[] #[]] w (fun v w' => ∃ z : Int, v = .int .i64 z ∧ decide (0 ≤ z) = (!rightB I) ∧ Mod (fun k => k = r ∨ k = bl) w w') := by
  refine callsR_of Tryz.func90 rfl rfl rfl ?_
  refine WC.seq (WC.region (WL.assign (v := IN (0)) rfl rfl (WL.nil (WC.seq (WC.seq (WC.region (WL.move (v := .slice (some ⟨bq, 0, none⟩) 4 4) rfl rfl (WL.lenS el131 rfl rfl (WL.move (v := IN (0)) rfl rfl ?_)))))))))
  refine WL.nil (WC.block ?_)
  refine WC.loop (fun k f w_ => ∃ j, (k + j = 4) ∧ (∀ i, i < j → (rights I).getD i true = true) ∧ f 0 = .slice (some ⟨bq, 0, none⟩) 4 4 ∧ f 1 = .func (.func 61) #[] #[] ∧ f 6 = .slice (some ⟨bq, 0, none⟩) 4 4 ∧ f 7 = IN (4) ∧ f 8 = IN (j) ∧ (Mod (fun k => k = r ∨ k = bl) w w_) ∧ (j < 4 → w_ = w)) (4) ?_ ?_
  · exact ⟨(0), by omega, fun i hi => absurd hi (by omega), rfl, rfl, rfl, rfl, rfl, Mod.refl _ _, fun _ => rfl⟩
  rintro k f1 wr ⟨j, hk1, hall, h0_1, h1_1, h6_1, h7_1, h8_1, hE, hsame⟩
  refine WC.seq (WC.region (WL.bin h8_1 h7_1 rfl (BinR.lss) (WL.nil (WC.seq ?_))))
  refine WC.cond rfl (fun hc9 => ?_) (fun hc9 => ?_)
  · have hj : j < 4 := by have := of_decide_eq_true hc9; omega
    obtain ⟨g, cs, hg, hcal, hcl0⟩ := must_calls bn bl r bm sv wv I w hn hL hB hR hM d1 d2 d3 d4 d5 ds dw hN bw hW j hj
    have hcl : CallsR Tryz.prog g cs.toList.toArray wr (fun v w' => v = .bool ((rights I).getD j true) ∧ (Mod (fun k => k = r ∨ k = bl) w w' ∧ (j < 3 → w' = w))) := by rw [hsame hj]; exact hcl0
    have hcell : wr.cell? ⟨bq, j, none⟩ = some (.func (.func g) #[] cs) := by rw [hsame hj]; exact hq.cell (by simpa using hg)
    refine WC.skip (WC.seq (WC.block (WC.seq (WC.region (WL.move (v := IN (j)) h8_1 rfl (WL.assign (v := IN (j)) rfl rfl (WL.nil (WC.seq (WC.region ?_)))))))))
    refine WL.move (v := .func (.func 61) #[] #[]) h1_1 rfl (WL.move (v := .slice (some ⟨bq, 0, none⟩) 4 4) h0_1 rfl (WL.move (v := IN (j)) rfl rfl (WL.indexAddr1 (i := j) (b := bq) (o := 0) el131 sz27 rfl rfl (by omega) rfl ?_)))
    rw [Nat.zero_add]
    refine WL.load1 rfl ag27 hcell rfl (WL.callV (fs := #[]) (cs := #[]) rfl ca61 rfl rfl (not_spec g cs ((rights I).getD j true) (fun w_ => Mod (fun k => k = r ∨ k = bl) w w_ ∧ (j < 3 → w_ = w)) _ hcal hcl) ?_)
    rintro _ wd ⟨rfl, md, sd⟩
    refine WL.nil ?_
    refine WC.cond rfl (fun hc16 => ?_) (fun hc16 => ?_)
    · have hres : decide ((0 : Int) ≤ ((j : Nat) : Int)) = (!rightB I) := by rw [rightB_no I j hj (by simpa using hc16)]; simp
      have hEE := md
      refine WC.seq (WC.region (WL.move (v := IN (j)) rfl rfl (WL.assign (v := IN (j)) rfl rfl (WL.nil (WC.ret ?_)))))
      exact ⟨_, Res.one (v := IN (j)) rfl rfl, _, rfl, hres, hEE⟩
    · have hok : (rights I).getD j true = true := by simpa using hc16
      refine WC.skip (WC.region (WL.bin h8_1 rfl rfl (BinR.succN (by omega)) (WL.move (v := IN (j + 1)) rfl rfl (WL.nil ?_))))
      exact ⟨k - 1, by omega, (j + 1), by omega, fun i hi => by by_cases e : i = j; (subst e; exact hok); exact hall i (by omega), h0_1, h1_1, h6_1, h7_1, rfl, md, fun h => sd (by omega)⟩
  · have hj : 4 ≤ j := by have := of_decide_eq_false hc9; omega
    have hres : decide ((0 : Int) ≤ -1) = (!rightB I) := by rw [rightB_all I (fun i hi => hall i (by omega))]; rfl
    have hEE := hE
    refine WC.exit (WC.seq (WC.region (WL.assign (v := .int .i64 (-1)) rfl rfl (WL.nil (WC.ret ?_)))))
    exact ⟨_, Res.one (v := .int .i64 (-1)) rfl rfl, _, rfl, hres, hEE⟩
theorem contains_must (bn bl r bm : Nat) (sv wv : Value) (I : Img) (w : World) (hn : Blk w bn #[.map (some r)] 128) (hL : Blk w bl #[.int .i64 (-1)] 3) (hB : Blk w bm #[.int .i64 I.entry, sv, wv] 25) (hR : Rep w sv wv I) (hM : MapS w r []) (d1 : bn ≠ r) (d2 : bl ≠ r) (d3 : bm ≠ r) (d4 : bn ≠ bl) (d5 : bm ≠ bl) (ds : 0 < I.syms.length → ∀ g, sv.ownBlock = some g → g ≠ r ∧ g ≠ bl) (dw : 0 < I.words.length → ∀ g, wv.ownBlock = some g → g ≠ r ∧ g ≠ bl) (hN : ∀ s ∈ I.syms, True ∧ s.2 ≤ 9223372036854775807) (bw : Nat) (hW : Blk w bw #[.func (.func 54) #[] #[ptr bn 0, ptr bl 0, ptr bm 0]] 129) (bq : Nat) (hq : Blk w bq (mustV bm bw).toArray 27) : CallsR Tryz.prog 60 #[.slice (some ⟨bq, 0, none⟩) 4 4, .func (.func 61) #[] #[]] w (fun v w' => v = .bool (!rightB I) ∧ Mod (fun k => k = r ∨ k = bl) w w') := by
  refine callsR_of Tryz.func60 rfl rfl rfl ?_
  refine WC.seq (WC.region (WL.assign (v := .bool (false)) rfl rfl (WL.nil (WC.seq (WC.region (WL.move (v := .slice (some ⟨bq, 0, none⟩) 4 4) rfl rfl (WL.move (v := .func (.func 61) #[] #[]) rfl rfl (WL.call ca90 (rfl) rfl (index_must bn bl r bm sv wv I _ hn hL hB hR hM d1 d2 d3 d4 d5 ds dw hN bw hW bq hq) ?_))))))))
  rintro _ wd7 ⟨z7, rfl, hz7, md7⟩
  refine WL.bin rfl rfl rfl (BinR.geq) (WL.assign (v := .bool (decide ((0 : Int) ≤ (z7 : Int)))) rfl rfl (WL.nil (WC.ret ?_)))
  exact ⟨_, Res.one (v := .bool (decide ((0 : Int) ≤ (z7 : Int)))) rfl rfl, congrArg Value.bool hz7, md7⟩
end Go.Proofs.R
end
section
set_option linter.unusedSimpArgs false
set_option linter.unusedVariables false
namespace Go.Proofs.R
open Go Go.Ux Go.Ux.Image Go.Proofs
theorem zt128 : zeroT Tryz.prog 128 = some #[.map none] := by kernel_rfl
theorem sz128 : sizeT Tryz.prog 128 = some 1 := by kernel_rfl
theorem zt3 : zeroT Tryz.prog 3 = some #[.int .i64 0] := by kernel_rfl
theorem zt129 : zeroT Tryz.prog 129 = some #[.nilFunc] := by kernel_rfl
theorem sz129 : sizeT Tryz.prog 129 = some 1 := by kernel_rfl
theorem bls30_13 (b1 b5 : Nat) : ∀ w : World, (Instr.buildSlice 131 4 #[(0, .func (.func 55) #[] #[ptr b1 0]), (1, .func (.func 56) #[] #[ptr b1 0]), (2, .func (.func 57) #[] #[ptr b1 0]), (3, .func (.func 58) #[] #[ptr b1 0, ptr b5 0])]).run Tryz.prog w = .ok (.slice (some ⟨w.heap.size, 0, none⟩) 4 4) (w.alloc (.cells #[.func (.func 55) #[] #[ptr b1 0], .func (.func 56) #[] #[ptr b1 0], .func (.func 57) #[] #[ptr b1 0], .func (.func 58) #[] #[ptr b1 0, ptr b5 0]] 27)) := fun _ => by kernel_rfl
theorem ca60 : callable Tryz.prog 60 = true := by kernel_rfl
theorem right_spec (sv wv : Value) (I : Img) (w : World) (hR : Rep w sv wv I) (hN : ∀ s ∈ I.syms, True ∧ s.2 ≤ 9223372036854775807) : CallsR Tryz.prog 30 #[.agg #[.int .i64 (I.entry), sv, wv]] w (fun v w' => v = .bool (rightB I) ∧ Ext w w') := by
  refine callsR_of Tryz.func30 rfl rfl rfl ?_
  refine WC.seq (WC.region (WL.box (v := .agg #[.int .i64 (I.entry), sv, wv]) rfl rfl ?_))
  intro b1 w1 n1
  have E1 : Ext w w1 := Mod.trans (Mod.refl _ _) (n1.ext)
  refine WL.assign (v := .bool (false)) rfl rfl (WL.nil (WC.seq (WC.region (WL.makeMap rfl ?_))))
  intro r wm hM e7 hr
  have E2 : Ext w wm := Mod.trans (E1) (e7)
  refine WL.allocStore (v := .map (some r)) zt128 rfl sz128 rfl rfl rfl rfl ?_
  intro b3 w3 n3
  have R3 : Ext wm w3 := Mod.trans (Mod.refl _ _) (n3.ext)
  have E4 : Ext w w3 := Mod.trans (E2) (n3.ext)
  refine WL.nil (WC.seq (WC.region (WL.allocStore (v := .int .i64 (-1)) zt3 rfl sz3 rfl rfl rfl rfl ?_)))
  intro b4 w4 n4
  have R5 : Ext wm w4 := Mod.trans (R3) (n4.ext)
  have E6 : Ext w w4 := Mod.trans (E4) (n4.ext)
  refine WL.nil (WC.seq (WC.region (WL.makeFunc (vs := []) (us := [ptr b3 0, ptr b4 0, ptr b1 0]) rfl rfl rfl (WL.allocStore (v := .func (.func 54) #[] #[ptr b3 0, ptr b4 0, ptr b1 0]) zt129 rfl sz129 rfl rfl rfl rfl ?_))))
  intro b5 w5 n5
  have R7 : Ext wm w5 := Mod.trans (R5) (n5.ext)
  have E8 : Ext w w5 := Mod.trans (E6) (n5.ext)
  refine WL.nil (WC.seq (WC.region (WL.makeFunc (vs := []) (us := [ptr b1 0]) rfl rfl rfl (WL.makeFunc (vs := []) (us := [ptr b1 0]) rfl rfl rfl (WL.makeFunc (vs := []) (us := [ptr b1 0]) rfl rfl rfl (WL.makeFunc (vs := []) (us := [ptr b1 0, ptr b5 0]) rfl rfl rfl (WL.buildSlice (vs := [(0, .func (.func 55) #[] #[ptr b1 0]), (1, .func (.func 56) #[] #[ptr b1 0]), (2, .func (.func 57) #[] #[ptr b1 0]), (3, .func (.func 58) #[] #[ptr b1 0, ptr b5 0])]) rfl (bls30_13 b1 b5) rfl ?_)))))))
  intro b13 w13 n13
  have R9 : Ext wm w13 := Mod.trans (R7) (n13.ext)
  have E10 : Ext w w13 := Mod.trans (E8) (n13.ext)
  refine WL.assign (v := .slice (some ⟨b13, 0, none⟩) 4 4) rfl rfl (WL.nil (WC.seq (WC.region (WL.move (v := .slice (some ⟨b13, 0, none⟩) 4 4) rfl rfl ?_))))
  have B11 := (((n3.blk).ext (n4.ext)).ext (n5.ext)).ext (n13.ext)
  have B12 := ((n4.blk).ext (n5.ext)).ext (n13.ext)
  have B13 := (((((n1.blk).ext (e7)).ext (n3.ext)).ext (n4.ext)).ext (n5.ext)).ext (n13.ext)
  have B14 := (n5.blk).ext (n13.ext)
  have hnum : b1 = w.heap.size ∧ r = w.heap.size + 1 ∧ w.heap.size + 2 ≤ b3 ∧ b4 = b3 + 1 := by have := n1.num; have := n1.size; have := hM.lt; have := n3.num; have := n3.size; have := n4.num; omega
  have hMc := hM.ext (R9)
  have hRc := hR.ext (E10)
  refine WL.call ca60 (rfl) rfl (contains_must b3 b4 r b1 sv wv I _ B11 B12 B13 hRc hMc (by omega) (by omega) (by omega) (by omega) (by omega) (fun h0 g hg => by have := hR.s.lt h0 (by decide) hg; omega) (fun h0 g hg => by have := hR.w.lt h0 (by decide) hg; omega) hN b5 B14 b13 n13.blk) ?_
  rintro _ wd ⟨rfl, md⟩
  have hEE := (E10).then md (O := fun _ => False) (fun i hi e => by omega)
  refine WL.un rfl rfl UnR.not (WL.assign (v := .bool (!(!rightB I))) rfl rfl (WL.nil (WC.ret ?_)))
  exact ⟨_, Res.one (v := .bool (!(!rightB I))) rfl rfl, congrArg Value.bool (Bool.not_not _), hEE⟩
end Go.Proofs.R
end
