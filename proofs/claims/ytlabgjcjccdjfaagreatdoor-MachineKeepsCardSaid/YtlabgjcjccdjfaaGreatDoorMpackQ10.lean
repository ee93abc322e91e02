/- Steps of the proof, packed by program: McT3. -/
import Derived.Test.YtlabgjcjccdjfaaGreatDoorRows
import Derived.Test.YtlabgjcjccdjfaaGreatDoorMpackQ02
import Derived.Test.YtlabgjcjccdjfaaGreatDoorMpackQ09
set_option linter.unusedVariables false
set_option linter.unusedSimpArgs false
set_option linter.unnecessarySimpa false
section
set_option linter.unusedSimpArgs false
set_option linter.unusedVariables false
namespace Go.Proofs.S
open Go Go.Ux Go.Ux.Mach Go.Proofs
theorem ca69 : callable Tryz.prog 69 = true := by kernel_rfl
theorem ca70 : callable Tryz.prog 70 = true := by kernel_rfl
open Go.Proofs.M (instV Glob)
open Go.Proofs.N (doM loadsM do_spec loads_spec)
theorem glob_turn {T : Nat → Nat} {w w' : World} (h : Glob w) (m : Mod (Fp T) w w') (h6 : ∀ k, T k ≠ 0 → 6 ≤ k) : Glob w' := by
  have av : ∀ k, k < 6 → ¬ Fp T k := fun k hk e => by have := h6 k e; omega
  exact ⟨h.rd.mod m (av 0 (by omega)), h.rs1.mod m (av 1 (by omega)), h.rs2.mod m (av 2 (by omega)), h.f3.mod m (av 4 (by omega)), h.f7.mod m (av 5 (by omega))⟩
theorem zero_of {T : Nat → Nat} {T1 : Nat → Nat} {w : World} {b : Nat} (hs : ∀ k, T1 k ≠ 0 → T k ≠ 0 ∨ w.heap.size ≤ k) (h : T b = 0) (hl : b < w.heap.size) : T1 b = 0 := by
  rcases Nat.eq_zero_or_pos (T1 b) with h' | h'
  · exact h'
  · rcases hs b (by omega) with h2 | h2
    · exact absurd h h2
    · omega
set_option maxRecDepth 100000 in
theorem does_s18_0 (T : Nat → Nat) (b : Nat) (M : MS) (a : RvInst) (w : World) (hM : MR T w b M) (hG : Glob w) (hX : w.cell? ⟨3, 0, none⟩ = some (.iface 206 (.agg #[.pointer (some ⟨6, 83, none⟩)]))) (ho1 : 1 ≤ a.op.toNat) (ho2 : a.op.toNat < 66) (hr1 : (a.rs1).toNat < 32) (hr2 : (a.rs2).toNat < 32) (hrd : (a.rd).toNat < 32) (hz : loadsM a.op.toNat = (0, false)) (hop : a.op = 18#8) (hw : whereM M.n (M.x (a.rs1).toNat + a.imm) 1 = none) (hR : doesM M a = (M, some true)) : CallsR Tryz.prog 36 #[ptr b 0, .agg #[U8 (a.op), U8 (a.rd), U8 (a.rs1), U8 (a.rs2), I64 (a.imm)]] w (fun v w' => TurnE T w b (doesM M a).1 w' (doesM M a).2 v) := by
  have hM0 := hM
  obtain ⟨bq, sd, ss, cv, iv, ev, en, hb, ht⟩ := hM
  refine callsR_of Tryz.func36 rfl rfl rfl ?_
  refine WC.seq (WC.region (WL.box (v := .agg #[U8 (a.op), U8 (a.rd), U8 (a.rs1), U8 (a.rs2), I64 (a.imm)]) rfl rfl ?_))
  intro b3 w3 n3
  have E1 : Ext w w3 := Mod.trans (Mod.refl _ _) (n3.ext)
  refine WL.assign (v := .nilIface) rfl rfl (WL.nil (WC.seq (WC.draw (fun w_ => Ext w3 w_) 16 rfl mixed ?_)))
  intro wd_1 ed_1
  have R2 : Ext w3 wd_1 := Mod.trans (Mod.refl _ _) (ed_1)
  have E3 : Ext w wd_1 := Mod.trans (E1) (ed_1)
  refine WA.take (i := 0) (m' := 1) (v := ptr b 0) rfl rfl rfl rfl (by kernel_rfl) rfl (fun _ _ _ h => h) (fun wx hS => ?_) (R2) ?_
  · exact WL.move (v := ptr b 0) rfl rfl (WL.nil ⟨rfl, rfl, rfl⟩)
  refine WA.take (i := 1) (m' := 3) (v := ptr b3 2) rfl rfl rfl rfl (by kernel_rfl) rfl (fun _ _ _ h => h) (fun wx hS => ?_) (R2) ?_
  · exact WL.fieldAddr rfl fo48_2 rfl (WL.nil ⟨rfl, rfl, rfl⟩)
  refine WA.take (i := 2) (m' := 7) (v := U8 (a.rs1)) rfl rfl rfl rfl (by kernel_rfl) rfl (fun _ _ _ h => h) (fun wx hS => ?_) (R2) ?_
  · have B7 := (n3.blk).ext (hS)
    exact WL.load1 rfl ag5 (B7.cell (j := 2) rfl) rfl (WL.nil ⟨rfl, rfl, rfl⟩)
  refine WA.takeN (i := 3) (m' := 15) (v := ptr b 0) rfl rfl rfl rfl (by kernel_rfl) rfl (fun _ _ _ h => h) (fun wx hS => ?_) (R2) ?_
  · exact WL.nilCheck rfl rfl (WL.nil ⟨rfl, rfl, rfl⟩)
  refine WA.take (i := 4) (m' := 31) (v := ptr b 3) rfl rfl rfl rfl (by kernel_rfl) rfl (fun _ _ _ h => h) (fun wx hS => ?_) (R2) ?_
  · exact WL.fieldAddr rfl fo85_3 rfl (WL.nil ⟨rfl, rfl, rfl⟩)
  refine WA.take (i := 5) (m' := 63) (v := ptr b (3 + (a.rs1).toNat)) rfl rfl rfl rfl (by kernel_rfl) rfl (fun _ _ _ h => h) (fun wx hS => ?_) (R2) ?_
  · exact WL.indexArr1 (i := (a.rs1).toNat) ar68 sz39 rfl rfl hr1 rfl (WL.nil ⟨rfl, rfl, rfl⟩)
  refine WA.take (i := 6) (m' := 127) (v := U64 (M.x (a.rs1).toNat)) rfl rfl rfl rfl (by kernel_rfl) rfl (fun _ _ _ h => h) (fun wx hS => ?_) (R2) ?_
  · have B12 := ((hb).ext (n3.ext)).ext (hS)
    exact WL.load1 rfl ag39 (B12.cell (machCells_x _ _ _ _ _ _ _ _ hr1)) rfl (WL.nil ⟨rfl, rfl, rfl⟩)
  refine WA.take (i := 7) (m' := 255) (v := ptr b 0) rfl rfl rfl rfl (by kernel_rfl) rfl (fun _ _ _ h => h) (fun wx hS => ?_) (R2) ?_
  · exact WL.move (v := ptr b 0) rfl rfl (WL.nil ⟨rfl, rfl, rfl⟩)
  refine WA.take (i := 8) (m' := 511) (v := ptr b3 3) rfl rfl rfl rfl (by kernel_rfl) rfl (fun _ _ _ h => h) (fun wx hS => ?_) (R2) ?_
  · exact WL.fieldAddr rfl fo48_3 rfl (WL.nil ⟨rfl, rfl, rfl⟩)
  refine WA.take (i := 9) (m' := 1023) (v := U8 (a.rs2)) rfl rfl rfl rfl (by kernel_rfl) rfl (fun _ _ _ h => h) (fun wx hS => ?_) (R2) ?_
  · have B16 := (n3.blk).ext (hS)
    exact WL.load1 rfl ag5 (B16.cell (j := 3) rfl) rfl (WL.nil ⟨rfl, rfl, rfl⟩)
  refine WA.takeN (i := 10) (m' := 2047) (v := ptr b 0) rfl rfl rfl rfl (by kernel_rfl) rfl (fun _ _ _ h => h) (fun wx hS => ?_) (R2) ?_
  · exact WL.nilCheck rfl rfl (WL.nil ⟨rfl, rfl, rfl⟩)
  refine WA.take (i := 11) (m' := 4095) (v := ptr b 3) rfl rfl rfl rfl (by kernel_rfl) rfl (fun _ _ _ h => h) (fun wx hS => ?_) (R2) ?_
  · exact WL.fieldAddr rfl fo85_3 rfl (WL.nil ⟨rfl, rfl, rfl⟩)
  refine WA.take (i := 12) (m' := 8191) (v := ptr b (3 + (a.rs2).toNat)) rfl rfl rfl rfl (by kernel_rfl) rfl (fun _ _ _ h => h) (fun wx hS => ?_) (R2) ?_
  · exact WL.indexArr1 (i := (a.rs2).toNat) ar68 sz39 rfl rfl hr2 rfl (WL.nil ⟨rfl, rfl, rfl⟩)
  refine WA.take (i := 13) (m' := 16383) (v := U64 (M.x (a.rs2).toNat)) rfl rfl rfl rfl (by kernel_rfl) rfl (fun _ _ _ h => h) (fun wx hS => ?_) (R2) ?_
  · have B21 := ((hb).ext (n3.ext)).ext (hS)
    exact WL.load1 rfl ag39 (B21.cell (machCells_x _ _ _ _ _ _ _ _ hr2)) rfl (WL.nil ⟨rfl, rfl, rfl⟩)
  refine WA.take (i := 14) (m' := 32767) (v := U64 (M.x (a.rs1).toNat)) rfl rfl rfl rfl (by kernel_rfl) rfl (fun _ _ _ h => h) (fun wx hS => ?_) (R2) ?_
  · exact WL.assign (v := U64 (M.x (a.rs1).toNat)) rfl rfl (WL.nil ⟨rfl, rfl, rfl⟩)
  refine WA.take (i := 15) (m' := 65535) (v := U64 (M.x (a.rs2).toNat)) rfl rfl rfl rfl (by kernel_rfl) rfl (fun _ _ _ h => h) (fun wx hS => ?_) (R2) ?_
  · exact WL.assign (v := U64 (M.x (a.rs2).toNat)) rfl rfl (WL.nil ⟨rfl, rfl, rfl⟩)
  refine WA.done (by kernel_rfl) ?_
  refine WC.seq (WC.draw (fun w_ => Ext wd_1 w_) 13 rfl mixed ?_)
  intro wd_2 ed_2
  have R24 : Ext wd_1 wd_2 := Mod.trans (Mod.refl _ _) (ed_2)
  have E25 : Ext w wd_2 := Mod.trans (E3) (ed_2)
  refine WA.take (i := 0) (m' := 1) (v := .agg #[U8 (a.op), U8 (a.rd), U8 (a.rs1), U8 (a.rs2), I64 (a.imm)]) rfl rfl rfl rfl (by kernel_rfl) rfl (fun _ _ _ h => h) (fun wx hS => ?_) (R24) ?_
  · have B27 := ((n3.blk).ext (ed_1)).ext (hS)
    exact WL.loadS [U8 (a.op), U8 (a.rd), U8 (a.rs1), U8 (a.rs2), I64 (a.imm)] rfl ag48 sz48 rfl (B27.sub (o := 0) (vs := [U8 (a.op), U8 (a.rd), U8 (a.rs1), U8 (a.rs2), I64 (a.imm)]) rfl) rfl (WL.nil ⟨rfl, rfl, rfl⟩)
  refine WA.take (i := 1) (m' := 3) (v := ptr b 0) rfl rfl rfl rfl (by kernel_rfl) rfl (fun _ _ _ h => h) (fun wx hS => ?_) (R24) ?_
  · exact WL.move (v := ptr b 0) rfl rfl (WL.nil ⟨rfl, rfl, rfl⟩)
  refine WA.takeN (i := 2) (m' := 7) (v := ptr b 0) rfl rfl rfl rfl (by kernel_rfl) rfl (fun _ _ _ h => h) (fun wx hS => ?_) (R24) ?_
  · exact WL.nilCheck rfl rfl (WL.nil ⟨rfl, rfl, rfl⟩)
  refine WA.take (i := 3) (m' := 15) (v := ptr b 35) rfl rfl rfl rfl (by kernel_rfl) rfl (fun _ _ _ h => h) (fun wx hS => ?_) (R24) ?_
  · exact WL.fieldAddr rfl fo85_4 rfl (WL.nil ⟨rfl, rfl, rfl⟩)
  refine WA.take (i := 4) (m' := 31) (v := U64 (M.pc)) rfl rfl rfl rfl (by kernel_rfl) rfl (fun _ _ _ h => h) (fun wx hS => ?_) (R24) ?_
  · have B32 := (((hb).ext (n3.ext)).ext (ed_1)).ext (hS)
    exact WL.load1 rfl ag39 (B32.cell (j := 35) rfl) rfl (WL.nil ⟨rfl, rfl, rfl⟩)
  refine WA.take (i := 5) (m' := 63) (v := U64 (M.x (a.rs1).toNat)) rfl rfl rfl rfl (by kernel_rfl) rfl (fun _ _ _ h => h) (fun wx hS => ?_) (R24) ?_
  · exact WL.move (v := U64 (M.x (a.rs1).toNat)) rfl rfl (WL.nil ⟨rfl, rfl, rfl⟩)
  refine WA.take (i := 6) (m' := 127) (v := U64 (M.x (a.rs2).toNat)) rfl rfl rfl rfl (by kernel_rfl) rfl (fun _ _ _ h => h) (fun wx hS => ?_) (R24) ?_
  · exact WL.move (v := U64 (M.x (a.rs2).toNat)) rfl rfl (WL.nil ⟨rfl, rfl, rfl⟩)
  refine WA.one (i := 7) (m' := 255) (by kernel_rfl) rfl rfl ?_
  refine WL.call ca53 (rfl) rfl (do_spec a.op a.rd a.rs1 a.rs2 a.imm M.pc (M.x (a.rs1).toNat) (M.x (a.rs2).toNat) _ ho1 ho2) ?_
  rintro _ wdo ⟨rfl, edo⟩
  have R35 : Ext wd_1 wdo := Mod.trans (R24) (edo)
  have E36 : Ext w wdo := Mod.trans (E25) (edo)
  refine WL.behind (R35) ?_
  refine WA.take (i := 8) (m' := 511) (v := .tuple #[U64 (doM (a.op).toNat a.imm M.pc (M.x (a.rs1).toNat) (M.x (a.rs2).toNat)).1, U64 (doM (a.op).toNat a.imm M.pc (M.x (a.rs1).toNat) (M.x (a.rs2).toNat)).2]) rfl rfl rfl rfl (by kernel_rfl) rfl (fun _ _ _ h => h) (fun wx hS => ?_) (R35) ?_
  · exact WL.move (v := .tuple #[U64 (doM (a.op).toNat a.imm M.pc (M.x (a.rs1).toNat) (M.x (a.rs2).toNat)).1, U64 (doM (a.op).toNat a.imm M.pc (M.x (a.rs1).toNat) (M.x (a.rs2).toNat)).2]) rfl rfl (WL.nil ⟨rfl, rfl, rfl⟩)
  refine WA.take (i := 9) (m' := 1023) (v := U64 ((doM (a.op).toNat a.imm M.pc (M.x (a.rs1).toNat) (M.x (a.rs2).toNat)).1)) rfl rfl rfl rfl (by kernel_rfl) rfl (fun _ _ _ h => h) (fun wx hS => ?_) (R35) ?_
  · exact WL.extract rfl rfl rfl (WL.nil ⟨rfl, rfl, rfl⟩)
  refine WA.take (i := 10) (m' := 2047) (v := U64 ((doM (a.op).toNat a.imm M.pc (M.x (a.rs1).toNat) (M.x (a.rs2).toNat)).2)) rfl rfl rfl rfl (by kernel_rfl) rfl (fun _ _ _ h => h) (fun wx hS => ?_) (R35) ?_
  · exact WL.extract rfl rfl rfl (WL.nil ⟨rfl, rfl, rfl⟩)
  refine WA.take (i := 11) (m' := 4095) (v := U64 ((doM (a.op).toNat a.imm M.pc (M.x (a.rs1).toNat) (M.x (a.rs2).toNat)).1)) rfl rfl rfl rfl (by kernel_rfl) rfl (fun _ _ _ h => h) (fun wx hS => ?_) (R35) ?_
  · exact WL.assign (v := U64 ((doM (a.op).toNat a.imm M.pc (M.x (a.rs1).toNat) (M.x (a.rs2).toNat)).1)) rfl rfl (WL.nil ⟨rfl, rfl, rfl⟩)
  refine WA.take (i := 12) (m' := 8191) (v := U64 ((doM (a.op).toNat a.imm M.pc (M.x (a.rs1).toNat) (M.x (a.rs2).toNat)).2)) rfl rfl rfl rfl (by kernel_rfl) rfl (fun _ _ _ h => h) (fun wx hS => ?_) (R35) ?_
  · exact WL.assign (v := U64 ((doM (a.op).toNat a.imm M.pc (M.x (a.rs1).toNat) (M.x (a.rs2).toNat)).2)) rfl rfl (WL.nil ⟨rfl, rfl, rfl⟩)
  refine WA.done (by kernel_rfl) ?_
  refine WC.seq (WC.region (WL.assign (v := .nilIface) rfl rfl (WL.nil (WC.seq (WC.seq (WC.region (WL.fieldAddr rfl fo48_0 rfl ?_)))))))
  have B42 := (((n3.blk).ext (ed_1)).ext (ed_2)).ext (edo)
  refine WL.load1 rfl ag5 (B42.cell (j := 0) rfl) rfl (WL.call ca68 (rfl) rfl (loads_spec a.op _ ho1 ho2) ?_)
  rintro v42 wlo ⟨hv42, elo⟩
  rw [hz] at hv42
  obtain rfl : v42 = .tuple #[IN 0, .bool false] := hv42
  have E43 : Ext w wlo := Mod.trans (E36) (elo)
  refine WL.move (v := .tuple #[IN 0, .bool false]) rfl rfl (WL.extract rfl rfl rfl (WL.extract rfl rfl rfl (WL.assign (v := IN (0)) rfl rfl (WL.assign (v := .bool (false)) rfl rfl (WL.nil (WC.block (WC.seq (WC.region (WL.move (v := IN (0)) rfl rfl ?_)))))))))
  refine WL.bin rfl rfl rfl (BinR.gtr) (WL.assign (v := .bool (decide ((0 : Int) < ((0 : Nat) : Int)))) rfl rfl (WL.nil (WC.condF (congrArg Value.bool (decide_eq_false (by omega))) (WC.seq (WC.region (WL.fieldAddr rfl fo48_0 rfl ?_))))))
  have B44 := (B42).ext (elo)
  refine WL.load1 rfl ag5 (B44.cell (j := 0) rfl) rfl (WL.bin (v := .bool (true)) rfl (vy := U8 (18#8)) rfl rfl (BinR.toB (BinR.geqU8) (by rw [hop]; rfl)) (WL.move (v := .bool (true)) rfl rfl (WL.guardT (rfl) (WL.fieldAddr rfl fo48_0 rfl (WL.guardT (rfl) (WL.load1 rfl ag5 (B44.cell (j := 0) rfl) rfl (WL.guardT (rfl) (WL.bin (v := .bool (true)) rfl (vy := U8 (21#8)) rfl rfl (BinR.toB (BinR.leqU8) (by rw [hop]; rfl)) (WL.pick (b := true) rfl rfl rfl ?_)))))))))
  refine WL.assign (v := .bool (true)) rfl rfl (WL.nil (WC.condT rfl (WC.region (WL.move (v := ptr b 0) rfl rfl (WL.move (v := U64 (M.x (a.rs1).toNat)) rfl rfl (WL.fieldAddr rfl fo48_4 rfl (WL.load1 rfl ag2 (B44.cell (j := 4) rfl) rfl (WL.conv rfl rfl (ConvR.i64u64 Tryz.underlying2 Tryz.underlying39) (WL.bin rfl rfl rfl (BinR.addU64) ?_)))))))))
  refine WL.fieldAddr rfl fo48_0 rfl (WL.load1 rfl ag5 (B44.cell (j := 0) rfl) rfl (WL.bin rfl (vy := U8 (18#8)) rfl rfl (BinR.subU8) (WL.bin (vx := I64 1#64) (vy := .int .u8 ((0 : Nat) : Int)) (v := I64 (1#64 <<< 0)) rfl (by show U8 (a.op - 18#8) = _; rw [hop]; rfl) rfl BinR.shl64 (WL.move (v := U64 (M.x (a.rs2).toNat)) rfl rfl ?_))))
  have t3 : T b3 = 0 := by rcases Nat.eq_zero_or_pos (T b3) with h | h; exact h; have := (ht.lt b3 (by omega)).1; have := n3.num; omega
  refine WL.call ca69 (rfl) rfl (store_no T b M (M.x (a.rs1).toNat + a.imm) (M.x (a.rs2).toNat) 1 _ (hM0.ext (E43)) (by decide) (by decide) hw) ?_
  rintro _ wl ⟨⟨e, rfl, he, hle⟩, el⟩
  have hse := Mod.size (E43)
  have E45 : Ext w wl := Mod.trans (E43) (el)
  refine WL.assign (v := .iface 144 (ptr e 0)) rfl rfl (WL.nil ?_)
  rw [hR]
  have hEe : EndV wl (.iface 144 (ptr e 0)) (some true) := ⟨e, rfl, he⟩
  have B46 := (B44).ext (el)
  exact tail_trap T b b3 M a (doM (a.op).toNat a.imm M.pc (M.x (a.rs1).toNat) (M.x (a.rs2).toNat)).1 _ _ (some true) _ _ _ (hM0.ext (E45)) rfl rfl rfl rfl rfl B46 t3 hEe (hG.ext (E45)) (Mod.cell (E45) hX (fun h => h)) rfl (fun w2 e2 => turnE_same hM0 (Mod.trans (E45) e2) (hEe.mod e2 (fun _ _ h => h)) (fun k hk => by cases hk; omega))
set_option maxRecDepth 100000 in
theorem does_s18_1 (T : Nat → Nat) (b : Nat) (M : MS) (a : RvInst) (w : World) (hM : MR T w b M) (hG : Glob w) (hX : w.cell? ⟨3, 0, none⟩ = some (.iface 206 (.agg #[.pointer (some ⟨6, 83, none⟩)]))) (ho1 : 1 ≤ a.op.toNat) (ho2 : a.op.toNat < 66) (hr1 : (a.rs1).toNat < 32) (hr2 : (a.rs2).toNat < 32) (hrd : (a.rd).toNat < 32) (hz : loadsM a.op.toNat = (0, false)) (hop : a.op = 18#8) (k : Bool) (off : Nat) (hw : whereM M.n (M.x (a.rs1).toNat + a.imm) 1 = some (k, off)) (hR : doesM M a = (putM (storeM M k off 1 (M.x (a.rs2).toNat)) a (doM (a.op).toNat a.imm M.pc (M.x (a.rs1).toNat) (M.x (a.rs2).toNat)).1 (doM (a.op).toNat a.imm M.pc (M.x (a.rs1).toNat) (M.x (a.rs2).toNat)).2, none)) : CallsR Tryz.prog 36 #[ptr b 0, .agg #[U8 (a.op), U8 (a.rd), U8 (a.rs1), U8 (a.rs2), I64 (a.imm)]] w (fun v w' => TurnE T w b (doesM M a).1 w' (doesM M a).2 v) := by
  have hM0 := hM
  obtain ⟨bq, sd, ss, cv, iv, ev, en, hb, ht⟩ := hM
  refine callsR_of Tryz.func36 rfl rfl rfl ?_
  refine WC.seq (WC.region (WL.box (v := .agg #[U8 (a.op), U8 (a.rd), U8 (a.rs1), U8 (a.rs2), I64 (a.imm)]) rfl rfl ?_))
  intro b3 w3 n3
  have E1 : Ext w w3 := Mod.trans (Mod.refl _ _) (n3.ext)
  refine WL.assign (v := .nilIface) rfl rfl (WL.nil (WC.seq (WC.draw (fun w_ => Ext w3 w_) 16 rfl mixed ?_)))
  intro wd_1 ed_1
  have R2 : Ext w3 wd_1 := Mod.trans (Mod.refl _ _) (ed_1)
  have E3 : Ext w wd_1 := Mod.trans (E1) (ed_1)
  refine WA.take (i := 0) (m' := 1) (v := ptr b 0) rfl rfl rfl rfl (by kernel_rfl) rfl (fun _ _ _ h => h) (fun wx hS => ?_) (R2) ?_
  · exact WL.move (v := ptr b 0) rfl rfl (WL.nil ⟨rfl, rfl, rfl⟩)
  refine WA.take (i := 1) (m' := 3) (v := ptr b3 2) rfl rfl rfl rfl (by kernel_rfl) rfl (fun _ _ _ h => h) (fun wx hS => ?_) (R2) ?_
  · exact WL.fieldAddr rfl fo48_2 rfl (WL.nil ⟨rfl, rfl, rfl⟩)
  refine WA.take (i := 2) (m' := 7) (v := U8 (a.rs1)) rfl rfl rfl rfl (by kernel_rfl) rfl (fun _ _ _ h => h) (fun wx hS => ?_) (R2) ?_
  · have B7 := (n3.blk).ext (hS)
    exact WL.load1 rfl ag5 (B7.cell (j := 2) rfl) rfl (WL.nil ⟨rfl, rfl, rfl⟩)
  refine WA.takeN (i := 3) (m' := 15) (v := ptr b 0) rfl rfl rfl rfl (by kernel_rfl) rfl (fun _ _ _ h => h) (fun wx hS => ?_) (R2) ?_
  · exact WL.nilCheck rfl rfl (WL.nil ⟨rfl, rfl, rfl⟩)
  refine WA.take (i := 4) (m' := 31) (v := ptr b 3) rfl rfl rfl rfl (by kernel_rfl) rfl (fun _ _ _ h => h) (fun wx hS => ?_) (R2) ?_
  · exact WL.fieldAddr rfl fo85_3 rfl (WL.nil ⟨rfl, rfl, rfl⟩)
  refine WA.take (i := 5) (m' := 63) (v := ptr b (3 + (a.rs1).toNat)) rfl rfl rfl rfl (by kernel_rfl) rfl (fun _ _ _ h => h) (fun wx hS => ?_) (R2) ?_
  · exact WL.indexArr1 (i := (a.rs1).toNat) ar68 sz39 rfl rfl hr1 rfl (WL.nil ⟨rfl, rfl, rfl⟩)
  refine WA.take (i := 6) (m' := 127) (v := U64 (M.x (a.rs1).toNat)) rfl rfl rfl rfl (by kernel_rfl) rfl (fun _ _ _ h => h) (fun wx hS => ?_) (R2) ?_
  · have B12 := ((hb).ext (n3.ext)).ext (hS)
    exact WL.load1 rfl ag39 (B12.cell (machCells_x _ _ _ _ _ _ _ _ hr1)) rfl (WL.nil ⟨rfl, rfl, rfl⟩)
  refine WA.take (i := 7) (m' := 255) (v := ptr b 0) rfl rfl rfl rfl (by kernel_rfl) rfl (fun _ _ _ h => h) (fun wx hS => ?_) (R2) ?_
  · exact WL.move (v := ptr b 0) rfl rfl (WL.nil ⟨rfl, rfl, rfl⟩)
  refine WA.take (i := 8) (m' := 511) (v := ptr b3 3) rfl rfl rfl rfl (by kernel_rfl) rfl (fun _ _ _ h => h) (fun wx hS => ?_) (R2) ?_
  · exact WL.fieldAddr rfl fo48_3 rfl (WL.nil ⟨rfl, rfl, rfl⟩)
  refine WA.take (i := 9) (m' := 1023) (v := U8 (a.rs2)) rfl rfl rfl rfl (by kernel_rfl) rfl (fun _ _ _ h => h) (fun wx hS => ?_) (R2) ?_
  · have B16 := (n3.blk).ext (hS)
    exact WL.load1 rfl ag5 (B16.cell (j := 3) rfl) rfl (WL.nil ⟨rfl, rfl, rfl⟩)
  refine WA.takeN (i := 10) (m' := 2047) (v := ptr b 0) rfl rfl rfl rfl (by kernel_rfl) rfl (fun _ _ _ h => h) (fun wx hS => ?_) (R2) ?_
  · exact WL.nilCheck rfl rfl (WL.nil ⟨rfl, rfl, rfl⟩)
  refine WA.take (i := 11) (m' := 4095) (v := ptr b 3) rfl rfl rfl rfl (by kernel_rfl) rfl (fun _ _ _ h => h) (fun wx hS => ?_) (R2) ?_
  · exact WL.fieldAddr rfl fo85_3 rfl (WL.nil ⟨rfl, rfl, rfl⟩)
  refine WA.take (i := 12) (m' := 8191) (v := ptr b (3 + (a.rs2).toNat)) rfl rfl rfl rfl (by kernel_rfl) rfl (fun _ _ _ h => h) (fun wx hS => ?_) (R2) ?_
  · exact WL.indexArr1 (i := (a.rs2).toNat) ar68 sz39 rfl rfl hr2 rfl (WL.nil ⟨rfl, rfl, rfl⟩)
  refine WA.take (i := 13) (m' := 16383) (v := U64 (M.x (a.rs2).toNat)) rfl rfl rfl rfl (by kernel_rfl) rfl (fun _ _ _ h => h) (fun wx hS => ?_) (R2) ?_
  · have B21 := ((hb).ext (n3.ext)).ext (hS)
    exact WL.load1 rfl ag39 (B21.cell (machCells_x _ _ _ _ _ _ _ _ hr2)) rfl (WL.nil ⟨rfl, rfl, rfl⟩)
  refine WA.take (i := 14) (m' := 32767) (v := U64 (M.x (a.rs1).toNat)) rfl rfl rfl rfl (by kernel_rfl) rfl (fun _ _ _ h => h) (fun wx hS => ?_) (R2) ?_
  · exact WL.assign (v := U64 (M.x (a.rs1).toNat)) rfl rfl (WL.nil ⟨rfl, rfl, rfl⟩)
  refine WA.take (i := 15) (m' := 65535) (v := U64 (M.x (a.rs2).toNat)) rfl rfl rfl rfl (by kernel_rfl) rfl (fun _ _ _ h => h) (fun wx hS => ?_) (R2) ?_
  · exact WL.assign (v := U64 (M.x (a.rs2).toNat)) rfl rfl (WL.nil ⟨rfl, rfl, rfl⟩)
  refine WA.done (by kernel_rfl) ?_
  refine WC.seq (WC.draw (fun w_ => Ext wd_1 w_) 13 rfl mixed ?_)
  intro wd_2 ed_2
  have R24 : Ext wd_1 wd_2 := Mod.trans (Mod.refl _ _) (ed_2)
  have E25 : Ext w wd_2 := Mod.trans (E3) (ed_2)
  refine WA.take (i := 0) (m' := 1) (v := .agg #[U8 (a.op), U8 (a.rd), U8 (a.rs1), U8 (a.rs2), I64 (a.imm)]) rfl rfl rfl rfl (by kernel_rfl) rfl (fun _ _ _ h => h) (fun wx hS => ?_) (R24) ?_
  · have B27 := ((n3.blk).ext (ed_1)).ext (hS)
    exact WL.loadS [U8 (a.op), U8 (a.rd), U8 (a.rs1), U8 (a.rs2), I64 (a.imm)] rfl ag48 sz48 rfl (B27.sub (o := 0) (vs := [U8 (a.op), U8 (a.rd), U8 (a.rs1), U8 (a.rs2), I64 (a.imm)]) rfl) rfl (WL.nil ⟨rfl, rfl, rfl⟩)
  refine WA.take (i := 1) (m' := 3) (v := ptr b 0) rfl rfl rfl rfl (by kernel_rfl) rfl (fun _ _ _ h => h) (fun wx hS => ?_) (R24) ?_
  · exact WL.move (v := ptr b 0) rfl rfl (WL.nil ⟨rfl, rfl, rfl⟩)
  refine WA.takeN (i := 2) (m' := 7) (v := ptr b 0) rfl rfl rfl rfl (by kernel_rfl) rfl (fun _ _ _ h => h) (fun wx hS => ?_) (R24) ?_
  · exact WL.nilCheck rfl rfl (WL.nil ⟨rfl, rfl, rfl⟩)
  refine WA.take (i := 3) (m' := 15) (v := ptr b 35) rfl rfl rfl rfl (by kernel_rfl) rfl (fun _ _ _ h => h) (fun wx hS => ?_) (R24) ?_
  · exact WL.fieldAddr rfl fo85_4 rfl (WL.nil ⟨rfl, rfl, rfl⟩)
  refine WA.take (i := 4) (m' := 31) (v := U64 (M.pc)) rfl rfl rfl rfl (by kernel_rfl) rfl (fun _ _ _ h => h) (fun wx hS => ?_) (R24) ?_
  · have B32 := (((hb).ext (n3.ext)).ext (ed_1)).ext (hS)
    exact WL.load1 rfl ag39 (B32.cell (j := 35) rfl) rfl (WL.nil ⟨rfl, rfl, rfl⟩)
  refine WA.take (i := 5) (m' := 63) (v := U64 (M.x (a.rs1).toNat)) rfl rfl rfl rfl (by kernel_rfl) rfl (fun _ _ _ h => h) (fun wx hS => ?_) (R24) ?_
  · exact WL.move (v := U64 (M.x (a.rs1).toNat)) rfl rfl (WL.nil ⟨rfl, rfl, rfl⟩)
  refine WA.take (i := 6) (m' := 127) (v := U64 (M.x (a.rs2).toNat)) rfl rfl rfl rfl (by kernel_rfl) rfl (fun _ _ _ h => h) (fun wx hS => ?_) (R24) ?_
  · exact WL.move (v := U64 (M.x (a.rs2).toNat)) rfl rfl (WL.nil ⟨rfl, rfl, rfl⟩)
  refine WA.one (i := 7) (m' := 255) (by kernel_rfl) rfl rfl ?_
  refine WL.call ca53 (rfl) rfl (do_spec a.op a.rd a.rs1 a.rs2 a.imm M.pc (M.x (a.rs1).toNat) (M.x (a.rs2).toNat) _ ho1 ho2) ?_
  rintro _ wdo ⟨rfl, edo⟩
  have R35 : Ext wd_1 wdo := Mod.trans (R24) (edo)
  have E36 : Ext w wdo := Mod.trans (E25) (edo)
  refine WL.behind (R35) ?_
  refine WA.take (i := 8) (m' := 511) (v := .tuple #[U64 (doM (a.op).toNat a.imm M.pc (M.x (a.rs1).toNat) (M.x (a.rs2).toNat)).1, U64 (doM (a.op).toNat a.imm M.pc (M.x (a.rs1).toNat) (M.x (a.rs2).toNat)).2]) rfl rfl rfl rfl (by kernel_rfl) rfl (fun _ _ _ h => h) (fun wx hS => ?_) (R35) ?_
  · exact WL.move (v := .tuple #[U64 (doM (a.op).toNat a.imm M.pc (M.x (a.rs1).toNat) (M.x (a.rs2).toNat)).1, U64 (doM (a.op).toNat a.imm M.pc (M.x (a.rs1).toNat) (M.x (a.rs2).toNat)).2]) rfl rfl (WL.nil ⟨rfl, rfl, rfl⟩)
  refine WA.take (i := 9) (m' := 1023) (v := U64 ((doM (a.op).toNat a.imm M.pc (M.x (a.rs1).toNat) (M.x (a.rs2).toNat)).1)) rfl rfl rfl rfl (by kernel_rfl) rfl (fun _ _ _ h => h) (fun wx hS => ?_) (R35) ?_
  · exact WL.extract rfl rfl rfl (WL.nil ⟨rfl, rfl, rfl⟩)
  refine WA.take (i := 10) (m' := 2047) (v := U64 ((doM (a.op).toNat a.imm M.pc (M.x (a.rs1).toNat) (M.x (a.rs2).toNat)).2)) rfl rfl rfl rfl (by kernel_rfl) rfl (fun _ _ _ h => h) (fun wx hS => ?_) (R35) ?_
  · exact WL.extract rfl rfl rfl (WL.nil ⟨rfl, rfl, rfl⟩)
  refine WA.take (i := 11) (m' := 4095) (v := U64 ((doM (a.op).toNat a.imm M.pc (M.x (a.rs1).toNat) (M.x (a.rs2).toNat)).1)) rfl rfl rfl rfl (by kernel_rfl) rfl (fun _ _ _ h => h) (fun wx hS => ?_) (R35) ?_
  · exact WL.assign (v := U64 ((doM (a.op).toNat a.imm M.pc (M.x (a.rs1).toNat) (M.x (a.rs2).toNat)).1)) rfl rfl (WL.nil ⟨rfl, rfl, rfl⟩)
  refine WA.take (i := 12) (m' := 8191) (v := U64 ((doM (a.op).toNat a.imm M.pc (M.x (a.rs1).toNat) (M.x (a.rs2).toNat)).2)) rfl rfl rfl rfl (by kernel_rfl) rfl (fun _ _ _ h => h) (fun wx hS => ?_) (R35) ?_
  · exact WL.assign (v := U64 ((doM (a.op).toNat a.imm M.pc (M.x (a.rs1).toNat) (M.x (a.rs2).toNat)).2)) rfl rfl (WL.nil ⟨rfl, rfl, rfl⟩)
  refine WA.done (by kernel_rfl) ?_
  refine WC.seq (WC.region (WL.assign (v := .nilIface) rfl rfl (WL.nil (WC.seq (WC.seq (WC.region (WL.fieldAddr rfl fo48_0 rfl ?_)))))))
  have B42 := (((n3.blk).ext (ed_1)).ext (ed_2)).ext (edo)
  refine WL.load1 rfl ag5 (B42.cell (j := 0) rfl) rfl (WL.call ca68 (rfl) rfl (loads_spec a.op _ ho1 ho2) ?_)
  rintro v42 wlo ⟨hv42, elo⟩
  rw [hz] at hv42
  obtain rfl : v42 = .tuple #[IN 0, .bool false] := hv42
  have E43 : Ext w wlo := Mod.trans (E36) (elo)
  refine WL.move (v := .tuple #[IN 0, .bool false]) rfl rfl (WL.extract rfl rfl rfl (WL.extract rfl rfl rfl (WL.assign (v := IN (0)) rfl rfl (WL.assign (v := .bool (false)) rfl rfl (WL.nil (WC.block (WC.seq (WC.region (WL.move (v := IN (0)) rfl rfl ?_)))))))))
  refine WL.bin rfl rfl rfl (BinR.gtr) (WL.assign (v := .bool (decide ((0 : Int) < ((0 : Nat) : Int)))) rfl rfl (WL.nil (WC.condF (congrArg Value.bool (decide_eq_false (by omega))) (WC.seq (WC.region (WL.fieldAddr rfl fo48_0 rfl ?_))))))
  have B44 := (B42).ext (elo)
  refine WL.load1 rfl ag5 (B44.cell (j := 0) rfl) rfl (WL.bin (v := .bool (true)) rfl (vy := U8 (18#8)) rfl rfl (BinR.toB (BinR.geqU8) (by rw [hop]; rfl)) (WL.move (v := .bool (true)) rfl rfl (WL.guardT (rfl) (WL.fieldAddr rfl fo48_0 rfl (WL.guardT (rfl) (WL.load1 rfl ag5 (B44.cell (j := 0) rfl) rfl (WL.guardT (rfl) (WL.bin (v := .bool (true)) rfl (vy := U8 (21#8)) rfl rfl (BinR.toB (BinR.leqU8) (by rw [hop]; rfl)) (WL.pick (b := true) rfl rfl rfl ?_)))))))))
  refine WL.assign (v := .bool (true)) rfl rfl (WL.nil (WC.condT rfl (WC.region (WL.move (v := ptr b 0) rfl rfl (WL.move (v := U64 (M.x (a.rs1).toNat)) rfl rfl (WL.fieldAddr rfl fo48_4 rfl (WL.load1 rfl ag2 (B44.cell (j := 4) rfl) rfl (WL.conv rfl rfl (ConvR.i64u64 Tryz.underlying2 Tryz.underlying39) (WL.bin rfl rfl rfl (BinR.addU64) ?_)))))))))
  refine WL.fieldAddr rfl fo48_0 rfl (WL.load1 rfl ag5 (B44.cell (j := 0) rfl) rfl (WL.bin rfl (vy := U8 (18#8)) rfl rfl (BinR.subU8) (WL.bin (vx := I64 1#64) (vy := .int .u8 ((0 : Nat) : Int)) (v := I64 (1#64 <<< 0)) rfl (by show U8 (a.op - 18#8) = _; rw [hop]; rfl) rfl BinR.shl64 (WL.move (v := U64 (M.x (a.rs2).toNat)) rfl rfl ?_))))
  have t3 : T b3 = 0 := by rcases Nat.eq_zero_or_pos (T b3) with h | h; exact h; have := (ht.lt b3 (by omega)).1; have := n3.num; omega
  refine WL.call ca69 (rfl) rfl (store_ok T b M (M.x (a.rs1).toNat + a.imm) (M.x (a.rs2).toNat) 1 _ (hM0.ext (E43)) (by decide) (by decide) k off hw) ?_
  rintro _ wst ⟨rfl, T1, h1, m1, hs1⟩
  have hG1 : Glob wst := glob_turn (hG.ext (E43)) m1 (fun k h => (hM0.lt k h).2)
  have hX1 := Mod.cell m1 (Mod.cell (E43) hX (fun h => h)) (fun h => by have := (hM0.lt 3 h).2; omega)
  have h31 := (B44).mod m1 (fun h => h t3)
  have t31 := zero_of hs1 t3 (B44).lt
  have mw := (Mod.ext (O := Fp T) (E43)).trans m1
  have hs2 : ∀ k, T1 k ≠ 0 → T k ≠ 0 ∨ w.heap.size ≤ k := fun k h => by have := Mod.size (E43); rcases hs1 k h with h | h; exact .inl h; exact .inr (by omega)
  refine WL.assign (v := .nilIface) rfl rfl (WL.nil ?_)
  rw [hR]
  exact tail_go T1 b b3 (storeM M k off 1 (M.x (a.rs2).toNat)) a (doM (a.op).toNat a.imm M.pc (M.x (a.rs1).toNat) (M.x (a.rs2).toNat)).1 (doM (a.op).toNat a.imm M.pc (M.x (a.rs1).toNat) (M.x (a.rs2).toNat)).2 (.nilIface) none _ _ _ h1 rfl rfl rfl rfl rfl h31 t31 rfl hG1 hX1 rfl (fun e h => (by cases h)) ho1 ho2 hrd (fun w2 h2 m2 e2 => TurnE.then h2 mw m2 hs2 e2 (fun e h => by cases h))
set_option maxRecDepth 100000 in
theorem does_s19_0 (T : Nat → Nat) (b : Nat) (M : MS) (a : RvInst) (w : World) (hM : MR T w b M) (hG : Glob w) (hX : w.cell? ⟨3, 0, none⟩ = some (.iface 206 (.agg #[.pointer (some ⟨6, 83, none⟩)]))) (ho1 : 1 ≤ a.op.toNat) (ho2 : a.op.toNat < 66) (hr1 : (a.rs1).toNat < 32) (hr2 : (a.rs2).toNat < 32) (hrd : (a.rd).toNat < 32) (hz : loadsM a.op.toNat = (0, false)) (hop : a.op = 19#8) (hw : whereM M.n (M.x (a.rs1).toNat + a.imm) 2 = none) (hR : doesM M a = (M, some true)) : CallsR Tryz.prog 36 #[ptr b 0, .agg #[U8 (a.op), U8 (a.rd), U8 (a.rs1), U8 (a.rs2), I64 (a.imm)]] w (fun v w' => TurnE T w b (doesM M a).1 w' (doesM M a).2 v) := by
  have hM0 := hM
  obtain ⟨bq, sd, ss, cv, iv, ev, en, hb, ht⟩ := hM
  refine callsR_of Tryz.func36 rfl rfl rfl ?_
  refine WC.seq (WC.region (WL.box (v := .agg #[U8 (a.op), U8 (a.rd), U8 (a.rs1), U8 (a.rs2), I64 (a.imm)]) rfl rfl ?_))
  intro b3 w3 n3
  have E1 : Ext w w3 := Mod.trans (Mod.refl _ _) (n3.ext)
  refine WL.assign (v := .nilIface) rfl rfl (WL.nil (WC.seq (WC.draw (fun w_ => Ext w3 w_) 16 rfl mixed ?_)))
  intro wd_1 ed_1
  have R2 : Ext w3 wd_1 := Mod.trans (Mod.refl _ _) (ed_1)
  have E3 : Ext w wd_1 := Mod.trans (E1) (ed_1)
  refine WA.take (i := 0) (m' := 1) (v := ptr b 0) rfl rfl rfl rfl (by kernel_rfl) rfl (fun _ _ _ h => h) (fun wx hS => ?_) (R2) ?_
  · exact WL.move (v := ptr b 0) rfl rfl (WL.nil ⟨rfl, rfl, rfl⟩)
  refine WA.take (i := 1) (m' := 3) (v := ptr b3 2) rfl rfl rfl rfl (by kernel_rfl) rfl (fun _ _ _ h => h) (fun wx hS => ?_) (R2) ?_
  · exact WL.fieldAddr rfl fo48_2 rfl (WL.nil ⟨rfl, rfl, rfl⟩)
  refine WA.take (i := 2) (m' := 7) (v := U8 (a.rs1)) rfl rfl rfl rfl (by kernel_rfl) rfl (fun _ _ _ h => h) (fun wx hS => ?_) (R2) ?_
  · have B7 := (n3.blk).ext (hS)
    exact WL.load1 rfl ag5 (B7.cell (j := 2) rfl) rfl (WL.nil ⟨rfl, rfl, rfl⟩)
  refine WA.takeN (i := 3) (m' := 15) (v := ptr b 0) rfl rfl rfl rfl (by kernel_rfl) rfl (fun _ _ _ h => h) (fun wx hS => ?_) (R2) ?_
  · exact WL.nilCheck rfl rfl (WL.nil ⟨rfl, rfl, rfl⟩)
  refine WA.take (i := 4) (m' := 31) (v := ptr b 3) rfl rfl rfl rfl (by kernel_rfl) rfl (fun _ _ _ h => h) (fun wx hS => ?_) (R2) ?_
  · exact WL.fieldAddr rfl fo85_3 rfl (WL.nil ⟨rfl, rfl, rfl⟩)
  refine WA.take (i := 5) (m' := 63) (v := ptr b (3 + (a.rs1).toNat)) rfl rfl rfl rfl (by kernel_rfl) rfl (fun _ _ _ h => h) (fun wx hS => ?_) (R2) ?_
  · exact WL.indexArr1 (i := (a.rs1).toNat) ar68 sz39 rfl rfl hr1 rfl (WL.nil ⟨rfl, rfl, rfl⟩)
  refine WA.take (i := 6) (m' := 127) (v := U64 (M.x (a.rs1).toNat)) rfl rfl rfl rfl (by kernel_rfl) rfl (fun _ _ _ h => h) (fun wx hS => ?_) (R2) ?_
  · have B12 := ((hb).ext (n3.ext)).ext (hS)
    exact WL.load1 rfl ag39 (B12.cell (machCells_x _ _ _ _ _ _ _ _ hr1)) rfl (WL.nil ⟨rfl, rfl, rfl⟩)
  refine WA.take (i := 7) (m' := 255) (v := ptr b 0) rfl rfl rfl rfl (by kernel_rfl) rfl (fun _ _ _ h => h) (fun wx hS => ?_) (R2) ?_
  · exact WL.move (v := ptr b 0) rfl rfl (WL.nil ⟨rfl, rfl, rfl⟩)
  refine WA.take (i := 8) (m' := 511) (v := ptr b3 3) rfl rfl rfl rfl (by kernel_rfl) rfl (fun _ _ _ h => h) (fun wx hS => ?_) (R2) ?_
  · exact WL.fieldAddr rfl fo48_3 rfl (WL.nil ⟨rfl, rfl, rfl⟩)
  refine WA.take (i := 9) (m' := 1023) (v := U8 (a.rs2)) rfl rfl rfl rfl (by kernel_rfl) rfl (fun _ _ _ h => h) (fun wx hS => ?_) (R2) ?_
  · have B16 := (n3.blk).ext (hS)
    exact WL.load1 rfl ag5 (B16.cell (j := 3) rfl) rfl (WL.nil ⟨rfl, rfl, rfl⟩)
  refine WA.takeN (i := 10) (m' := 2047) (v := ptr b 0) rfl rfl rfl rfl (by kernel_rfl) rfl (fun _ _ _ h => h) (fun wx hS => ?_) (R2) ?_
  · exact WL.nilCheck rfl rfl (WL.nil ⟨rfl, rfl, rfl⟩)
  refine WA.take (i := 11) (m' := 4095) (v := ptr b 3) rfl rfl rfl rfl (by kernel_rfl) rfl (fun _ _ _ h => h) (fun wx hS => ?_) (R2) ?_
  · exact WL.fieldAddr rfl fo85_3 rfl (WL.nil ⟨rfl, rfl, rfl⟩)
  refine WA.take (i := 12) (m' := 8191) (v := ptr b (3 + (a.rs2).toNat)) rfl rfl rfl rfl (by kernel_rfl) rfl (fun _ _ _ h => h) (fun wx hS => ?_) (R2) ?_
  · exact WL.indexArr1 (i := (a.rs2).toNat) ar68 sz39 rfl rfl hr2 rfl (WL.nil ⟨rfl, rfl, rfl⟩)
  refine WA.take (i := 13) (m' := 16383) (v := U64 (M.x (a.rs2).toNat)) rfl rfl rfl rfl (by kernel_rfl) rfl (fun _ _ _ h => h) (fun wx hS => ?_) (R2) ?_
  · have B21 := ((hb).ext (n3.ext)).ext (hS)
    exact WL.load1 rfl ag39 (B21.cell (machCells_x _ _ _ _ _ _ _ _ hr2)) rfl (WL.nil ⟨rfl, rfl, rfl⟩)
  refine WA.take (i := 14) (m' := 32767) (v := U64 (M.x (a.rs1).toNat)) rfl rfl rfl rfl (by kernel_rfl) rfl (fun _ _ _ h => h) (fun wx hS => ?_) (R2) ?_
  · exact WL.assign (v := U64 (M.x (a.rs1).toNat)) rfl rfl (WL.nil ⟨rfl, rfl, rfl⟩)
  refine WA.take (i := 15) (m' := 65535) (v := U64 (M.x (a.rs2).toNat)) rfl rfl rfl rfl (by kernel_rfl) rfl (fun _ _ _ h => h) (fun wx hS => ?_) (R2) ?_
  · exact WL.assign (v := U64 (M.x (a.rs2).toNat)) rfl rfl (WL.nil ⟨rfl, rfl, rfl⟩)
  refine WA.done (by kernel_rfl) ?_
  refine WC.seq (WC.draw (fun w_ => Ext wd_1 w_) 13 rfl mixed ?_)
  intro wd_2 ed_2
  have R24 : Ext wd_1 wd_2 := Mod.trans (Mod.refl _ _) (ed_2)
  have E25 : Ext w wd_2 := Mod.trans (E3) (ed_2)
  refine WA.take (i := 0) (m' := 1) (v := .agg #[U8 (a.op), U8 (a.rd), U8 (a.rs1), U8 (a.rs2), I64 (a.imm)]) rfl rfl rfl rfl (by kernel_rfl) rfl (fun _ _ _ h => h) (fun wx hS => ?_) (R24) ?_
  · have B27 := ((n3.blk).ext (ed_1)).ext (hS)
    exact WL.loadS [U8 (a.op), U8 (a.rd), U8 (a.rs1), U8 (a.rs2), I64 (a.imm)] rfl ag48 sz48 rfl (B27.sub (o := 0) (vs := [U8 (a.op), U8 (a.rd), U8 (a.rs1), U8 (a.rs2), I64 (a.imm)]) rfl) rfl (WL.nil ⟨rfl, rfl, rfl⟩)
  refine WA.take (i := 1) (m' := 3) (v := ptr b 0) rfl rfl rfl rfl (by kernel_rfl) rfl (fun _ _ _ h => h) (fun wx hS => ?_) (R24) ?_
  · exact WL.move (v := ptr b 0) rfl rfl (WL.nil ⟨rfl, rfl, rfl⟩)
  refine WA.takeN (i := 2) (m' := 7) (v := ptr b 0) rfl rfl rfl rfl (by kernel_rfl) rfl (fun _ _ _ h => h) (fun wx hS => ?_) (R24) ?_
  · exact WL.nilCheck rfl rfl (WL.nil ⟨rfl, rfl, rfl⟩)
  refine WA.take (i := 3) (m' := 15) (v := ptr b 35) rfl rfl rfl rfl (by kernel_rfl) rfl (fun _ _ _ h => h) (fun wx hS => ?_) (R24) ?_
  · exact WL.fieldAddr rfl fo85_4 rfl (WL.nil ⟨rfl, rfl, rfl⟩)
  refine WA.take (i := 4) (m' := 31) (v := U64 (M.pc)) rfl rfl rfl rfl (by kernel_rfl) rfl (fun _ _ _ h => h) (fun wx hS => ?_) (R24) ?_
  · have B32 := (((hb).ext (n3.ext)).ext (ed_1)).ext (hS)
    exact WL.load1 rfl ag39 (B32.cell (j := 35) rfl) rfl (WL.nil ⟨rfl, rfl, rfl⟩)
  refine WA.take (i := 5) (m' := 63) (v := U64 (M.x (a.rs1).toNat)) rfl rfl rfl rfl (by kernel_rfl) rfl (fun _ _ _ h => h) (fun wx hS => ?_) (R24) ?_
  · exact WL.move (v := U64 (M.x (a.rs1).toNat)) rfl rfl (WL.nil ⟨rfl, rfl, rfl⟩)
  refine WA.take (i := 6) (m' := 127) (v := U64 (M.x (a.rs2).toNat)) rfl rfl rfl rfl (by kernel_rfl) rfl (fun _ _ _ h => h) (fun wx hS => ?_) (R24) ?_
  · exact WL.move (v := U64 (M.x (a.rs2).toNat)) rfl rfl (WL.nil ⟨rfl, rfl, rfl⟩)
  refine WA.one (i := 7) (m' := 255) (by kernel_rfl) rfl rfl ?_
  refine WL.call ca53 (rfl) rfl (do_spec a.op a.rd a.rs1 a.rs2 a.imm M.pc (M.x (a.rs1).toNat) (M.x (a.rs2).toNat) _ ho1 ho2) ?_
  rintro _ wdo ⟨rfl, edo⟩
  have R35 : Ext wd_1 wdo := Mod.trans (R24) (edo)
  have E36 : Ext w wdo := Mod.trans (E25) (edo)
  refine WL.behind (R35) ?_
  refine WA.take (i := 8) (m' := 511) (v := .tuple #[U64 (doM (a.op).toNat a.imm M.pc (M.x (a.rs1).toNat) (M.x (a.rs2).toNat)).1, U64 (doM (a.op).toNat a.imm M.pc (M.x (a.rs1).toNat) (M.x (a.rs2).toNat)).2]) rfl rfl rfl rfl (by kernel_rfl) rfl (fun _ _ _ h => h) (fun wx hS => ?_) (R35) ?_
  · exact WL.move (v := .tuple #[U64 (doM (a.op).toNat a.imm M.pc (M.x (a.rs1).toNat) (M.x (a.rs2).toNat)).1, U64 (doM (a.op).toNat a.imm M.pc (M.x (a.rs1).toNat) (M.x (a.rs2).toNat)).2]) rfl rfl (WL.nil ⟨rfl, rfl, rfl⟩)
  refine WA.take (i := 9) (m' := 1023) (v := U64 ((doM (a.op).toNat a.imm M.pc (M.x (a.rs1).toNat) (M.x (a.rs2).toNat)).1)) rfl rfl rfl rfl (by kernel_rfl) rfl (fun _ _ _ h => h) (fun wx hS => ?_) (R35) ?_
  · exact WL.extract rfl rfl rfl (WL.nil ⟨rfl, rfl, rfl⟩)
  refine WA.take (i := 10) (m' := 2047) (v := U64 ((doM (a.op).toNat a.imm M.pc (M.x (a.rs1).toNat) (M.x (a.rs2).toNat)).2)) rfl rfl rfl rfl (by kernel_rfl) rfl (fun _ _ _ h => h) (fun wx hS => ?_) (R35) ?_
  · exact WL.extract rfl rfl rfl (WL.nil ⟨rfl, rfl, rfl⟩)
  refine WA.take (i := 11) (m' := 4095) (v := U64 ((doM (a.op).toNat a.imm M.pc (M.x (a.rs1).toNat) (M.x (a.rs2).toNat)).1)) rfl rfl rfl rfl (by kernel_rfl) rfl (fun _ _ _ h => h) (fun wx hS => ?_) (R35) ?_
  · exact WL.assign (v := U64 ((doM (a.op).toNat a.imm M.pc (M.x (a.rs1).toNat) (M.x (a.rs2).toNat)).1)) rfl rfl (WL.nil ⟨rfl, rfl, rfl⟩)
  refine WA.take (i := 12) (m' := 8191) (v := U64 ((doM (a.op).toNat a.imm M.pc (M.x (a.rs1).toNat) (M.x (a.rs2).toNat)).2)) rfl rfl rfl rfl (by kernel_rfl) rfl (fun _ _ _ h => h) (fun wx hS => ?_) (R35) ?_
  · exact WL.assign (v := U64 ((doM (a.op).toNat a.imm M.pc (M.x (a.rs1).toNat) (M.x (a.rs2).toNat)).2)) rfl rfl (WL.nil ⟨rfl, rfl, rfl⟩)
  refine WA.done (by kernel_rfl) ?_
  refine WC.seq (WC.region (WL.assign (v := .nilIface) rfl rfl (WL.nil (WC.seq (WC.seq (WC.region (WL.fieldAddr rfl fo48_0 rfl ?_)))))))
  have B42 := (((n3.blk).ext (ed_1)).ext (ed_2)).ext (edo)
  refine WL.load1 rfl ag5 (B42.cell (j := 0) rfl) rfl (WL.call ca68 (rfl) rfl (loads_spec a.op _ ho1 ho2) ?_)
  rintro v42 wlo ⟨hv42, elo⟩
  rw [hz] at hv42
  obtain rfl : v42 = .tuple #[IN 0, .bool false] := hv42
  have E43 : Ext w wlo := Mod.trans (E36) (elo)
  refine WL.move (v := .tuple #[IN 0, .bool false]) rfl rfl (WL.extract rfl rfl rfl (WL.extract rfl rfl rfl (WL.assign (v := IN (0)) rfl rfl (WL.assign (v := .bool (false)) rfl rfl (WL.nil (WC.block (WC.seq (WC.region (WL.move (v := IN (0)) rfl rfl ?_)))))))))
  refine WL.bin rfl rfl rfl (BinR.gtr) (WL.assign (v := .bool (decide ((0 : Int) < ((0 : Nat) : Int)))) rfl rfl (WL.nil (WC.condF (congrArg Value.bool (decide_eq_false (by omega))) (WC.seq (WC.region (WL.fieldAddr rfl fo48_0 rfl ?_))))))
  have B44 := (B42).ext (elo)
  refine WL.load1 rfl ag5 (B44.cell (j := 0) rfl) rfl (WL.bin (v := .bool (true)) rfl (vy := U8 (18#8)) rfl rfl (BinR.toB (BinR.geqU8) (by rw [hop]; rfl)) (WL.move (v := .bool (true)) rfl rfl (WL.guardT (rfl) (WL.fieldAddr rfl fo48_0 rfl (WL.guardT (rfl) (WL.load1 rfl ag5 (B44.cell (j := 0) rfl) rfl (WL.guardT (rfl) (WL.bin (v := .bool (true)) rfl (vy := U8 (21#8)) rfl rfl (BinR.toB (BinR.leqU8) (by rw [hop]; rfl)) (WL.pick (b := true) rfl rfl rfl ?_)))))))))
  refine WL.assign (v := .bool (true)) rfl rfl (WL.nil (WC.condT rfl (WC.region (WL.move (v := ptr b 0) rfl rfl (WL.move (v := U64 (M.x (a.rs1).toNat)) rfl rfl (WL.fieldAddr rfl fo48_4 rfl (WL.load1 rfl ag2 (B44.cell (j := 4) rfl) rfl (WL.conv rfl rfl (ConvR.i64u64 Tryz.underlying2 Tryz.underlying39) (WL.bin rfl rfl rfl (BinR.addU64) ?_)))))))))
  refine WL.fieldAddr rfl fo48_0 rfl (WL.load1 rfl ag5 (B44.cell (j := 0) rfl) rfl (WL.bin rfl (vy := U8 (18#8)) rfl rfl (BinR.subU8) (WL.bin (vx := I64 1#64) (vy := .int .u8 ((1 : Nat) : Int)) (v := I64 (1#64 <<< 1)) rfl (by show U8 (a.op - 18#8) = _; rw [hop]; rfl) rfl BinR.shl64 (WL.move (v := U64 (M.x (a.rs2).toNat)) rfl rfl ?_))))
  have t3 : T b3 = 0 := by rcases Nat.eq_zero_or_pos (T b3) with h | h; exact h; have := (ht.lt b3 (by omega)).1; have := n3.num; omega
  refine WL.call ca69 (rfl) rfl (store_no T b M (M.x (a.rs1).toNat + a.imm) (M.x (a.rs2).toNat) 2 _ (hM0.ext (E43)) (by decide) (by decide) hw) ?_
  rintro _ wl ⟨⟨e, rfl, he, hle⟩, el⟩
  have hse := Mod.size (E43)
  have E45 : Ext w wl := Mod.trans (E43) (el)
  refine WL.assign (v := .iface 144 (ptr e 0)) rfl rfl (WL.nil ?_)
  rw [hR]
  have hEe : EndV wl (.iface 144 (ptr e 0)) (some true) := ⟨e, rfl, he⟩
  have B46 := (B44).ext (el)
  exact tail_trap T b b3 M a (doM (a.op).toNat a.imm M.pc (M.x (a.rs1).toNat) (M.x (a.rs2).toNat)).1 _ _ (some true) _ _ _ (hM0.ext (E45)) rfl rfl rfl rfl rfl B46 t3 hEe (hG.ext (E45)) (Mod.cell (E45) hX (fun h => h)) rfl (fun w2 e2 => turnE_same hM0 (Mod.trans (E45) e2) (hEe.mod e2 (fun _ _ h => h)) (fun k hk => by cases hk; omega))
set_option maxRecDepth 100000 in
theorem does_s19_1 (T : Nat → Nat) (b : Nat) (M : MS) (a : RvInst) (w : World) (hM : MR T w b M) (hG : Glob w) (hX : w.cell? ⟨3, 0, none⟩ = some (.iface 206 (.agg #[.pointer (some ⟨6, 83, none⟩)]))) (ho1 : 1 ≤ a.op.toNat) (ho2 : a.op.toNat < 66) (hr1 : (a.rs1).toNat < 32) (hr2 : (a.rs2).toNat < 32) (hrd : (a.rd).toNat < 32) (hz : loadsM a.op.toNat = (0, false)) (hop : a.op = 19#8) (k : Bool) (off : Nat) (hw : whereM M.n (M.x (a.rs1).toNat + a.imm) 2 = some (k, off)) (hR : doesM M a = (putM (storeM M k off 2 (M.x (a.rs2).toNat)) a (doM (a.op).toNat a.imm M.pc (M.x (a.rs1).toNat) (M.x (a.rs2).toNat)).1 (doM (a.op).toNat a.imm M.pc (M.x (a.rs1).toNat) (M.x (a.rs2).toNat)).2, none)) : CallsR Tryz.prog 36 #[ptr b 0, .agg #[U8 (a.op), U8 (a.rd), U8 (a.rs1), U8 (a.rs2), I64 (a.imm)]] w (fun v w' => TurnE T w b (doesM M a).1 w' (doesM M a).2 v) := by
  have hM0 := hM
  obtain ⟨bq, sd, ss, cv, iv, ev, en, hb, ht⟩ := hM
  refine callsR_of Tryz.func36 rfl rfl rfl ?_
  refine WC.seq (WC.region (WL.box (v := .agg #[U8 (a.op), U8 (a.rd), U8 (a.rs1), U8 (a.rs2), I64 (a.imm)]) rfl rfl ?_))
  intro b3 w3 n3
  have E1 : Ext w w3 := Mod.trans (Mod.refl _ _) (n3.ext)
  refine WL.assign (v := .nilIface) rfl rfl (WL.nil (WC.seq (WC.draw (fun w_ => Ext w3 w_) 16 rfl mixed ?_)))
  intro wd_1 ed_1
  have R2 : Ext w3 wd_1 := Mod.trans (Mod.refl _ _) (ed_1)
  have E3 : Ext w wd_1 := Mod.trans (E1) (ed_1)
  refine WA.take (i := 0) (m' := 1) (v := ptr b 0) rfl rfl rfl rfl (by kernel_rfl) rfl (fun _ _ _ h => h) (fun wx hS => ?_) (R2) ?_
  · exact WL.move (v := ptr b 0) rfl rfl (WL.nil ⟨rfl, rfl, rfl⟩)
  refine WA.take (i := 1) (m' := 3) (v := ptr b3 2) rfl rfl rfl rfl (by kernel_rfl) rfl (fun _ _ _ h => h) (fun wx hS => ?_) (R2) ?_
  · exact WL.fieldAddr rfl fo48_2 rfl (WL.nil ⟨rfl, rfl, rfl⟩)
  refine WA.take (i := 2) (m' := 7) (v := U8 (a.rs1)) rfl rfl rfl rfl (by kernel_rfl) rfl (fun _ _ _ h => h) (fun wx hS => ?_) (R2) ?_
  · have B7 := (n3.blk).ext (hS)
    exact WL.load1 rfl ag5 (B7.cell (j := 2) rfl) rfl (WL.nil ⟨rfl, rfl, rfl⟩)
  refine WA.takeN (i := 3) (m' := 15) (v := ptr b 0) rfl rfl rfl rfl (by kernel_rfl) rfl (fun _ _ _ h => h) (fun wx hS => ?_) (R2) ?_
  · exact WL.nilCheck rfl rfl (WL.nil ⟨rfl, rfl, rfl⟩)
  refine WA.take (i := 4) (m' := 31) (v := ptr b 3) rfl rfl rfl rfl (by kernel_rfl) rfl (fun _ _ _ h => h) (fun wx hS => ?_) (R2) ?_
  · exact WL.fieldAddr rfl fo85_3 rfl (WL.nil ⟨rfl, rfl, rfl⟩)
  refine WA.take (i := 5) (m' := 63) (v := ptr b (3 + (a.rs1).toNat)) rfl rfl rfl rfl (by kernel_rfl) rfl (fun _ _ _ h => h) (fun wx hS => ?_) (R2) ?_
  · exact WL.indexArr1 (i := (a.rs1).toNat) ar68 sz39 rfl rfl hr1 rfl (WL.nil ⟨rfl, rfl, rfl⟩)
  refine WA.take (i := 6) (m' := 127) (v := U64 (M.x (a.rs1).toNat)) rfl rfl rfl rfl (by kernel_rfl) rfl (fun _ _ _ h => h) (fun wx hS => ?_) (R2) ?_
  · have B12 := ((hb).ext (n3.ext)).ext (hS)
    exact WL.load1 rfl ag39 (B12.cell (machCells_x _ _ _ _ _ _ _ _ hr1)) rfl (WL.nil ⟨rfl, rfl, rfl⟩)
  refine WA.take (i := 7) (m' := 255) (v := ptr b 0) rfl rfl rfl rfl (by kernel_rfl) rfl (fun _ _ _ h => h) (fun wx hS => ?_) (R2) ?_
  · exact WL.move (v := ptr b 0) rfl rfl (WL.nil ⟨rfl, rfl, rfl⟩)
  refine WA.take (i := 8) (m' := 511) (v := ptr b3 3) rfl rfl rfl rfl (by kernel_rfl) rfl (fun _ _ _ h => h) (fun wx hS => ?_) (R2) ?_
  · exact WL.fieldAddr rfl fo48_3 rfl (WL.nil ⟨rfl, rfl, rfl⟩)
  refine WA.take (i := 9) (m' := 1023) (v := U8 (a.rs2)) rfl rfl rfl rfl (by kernel_rfl) rfl (fun _ _ _ h => h) (fun wx hS => ?_) (R2) ?_
  · have B16 := (n3.blk).ext (hS)
    exact WL.load1 rfl ag5 (B16.cell (j := 3) rfl) rfl (WL.nil ⟨rfl, rfl, rfl⟩)
  refine WA.takeN (i := 10) (m' := 2047) (v := ptr b 0) rfl rfl rfl rfl (by kernel_rfl) rfl (fun _ _ _ h => h) (fun wx hS => ?_) (R2) ?_
  · exact WL.nilCheck rfl rfl (WL.nil ⟨rfl, rfl, rfl⟩)
  refine WA.take (i := 11) (m' := 4095) (v := ptr b 3) rfl rfl rfl rfl (by kernel_rfl) rfl (fun _ _ _ h => h) (fun wx hS => ?_) (R2) ?_
  · exact WL.fieldAddr rfl fo85_3 rfl (WL.nil ⟨rfl, rfl, rfl⟩)
  refine WA.take (i := 12) (m' := 8191) (v := ptr b (3 + (a.rs2).toNat)) rfl rfl rfl rfl (by kernel_rfl) rfl (fun _ _ _ h => h) (fun wx hS => ?_) (R2) ?_
  · exact WL.indexArr1 (i := (a.rs2).toNat) ar68 sz39 rfl rfl hr2 rfl (WL.nil ⟨rfl, rfl, rfl⟩)
  refine WA.take (i := 13) (m' := 16383) (v := U64 (M.x (a.rs2).toNat)) rfl rfl rfl rfl (by kernel_rfl) rfl (fun _ _ _ h => h) (fun wx hS => ?_) (R2) ?_
  · have B21 := ((hb).ext (n3.ext)).ext (hS)
    exact WL.load1 rfl ag39 (B21.cell (machCells_x _ _ _ _ _ _ _ _ hr2)) rfl (WL.nil ⟨rfl, rfl, rfl⟩)
  refine WA.take (i := 14) (m' := 32767) (v := U64 (M.x (a.rs1).toNat)) rfl rfl rfl rfl (by kernel_rfl) rfl (fun _ _ _ h => h) (fun wx hS => ?_) (R2) ?_
  · exact WL.assign (v := U64 (M.x (a.rs1).toNat)) rfl rfl (WL.nil ⟨rfl, rfl, rfl⟩)
  refine WA.take (i := 15) (m' := 65535) (v := U64 (M.x (a.rs2).toNat)) rfl rfl rfl rfl (by kernel_rfl) rfl (fun _ _ _ h => h) (fun wx hS => ?_) (R2) ?_
  · exact WL.assign (v := U64 (M.x (a.rs2).toNat)) rfl rfl (WL.nil ⟨rfl, rfl, rfl⟩)
  refine WA.done (by kernel_rfl) ?_
  refine WC.seq (WC.draw (fun w_ => Ext wd_1 w_) 13 rfl mixed ?_)
  intro wd_2 ed_2
  have R24 : Ext wd_1 wd_2 := Mod.trans (Mod.refl _ _) (ed_2)
  have E25 : Ext w wd_2 := Mod.trans (E3) (ed_2)
  refine WA.take (i := 0) (m' := 1) (v := .agg #[U8 (a.op), U8 (a.rd), U8 (a.rs1), U8 (a.rs2), I64 (a.imm)]) rfl rfl rfl rfl (by kernel_rfl) rfl (fun _ _ _ h => h) (fun wx hS => ?_) (R24) ?_
  · have B27 := ((n3.blk).ext (ed_1)).ext (hS)
    exact WL.loadS [U8 (a.op), U8 (a.rd), U8 (a.rs1), U8 (a.rs2), I64 (a.imm)] rfl ag48 sz48 rfl (B27.sub (o := 0) (vs := [U8 (a.op), U8 (a.rd), U8 (a.rs1), U8 (a.rs2), I64 (a.imm)]) rfl) rfl (WL.nil ⟨rfl, rfl, rfl⟩)
  refine WA.take (i := 1) (m' := 3) (v := ptr b 0) rfl rfl rfl rfl (by kernel_rfl) rfl (fun _ _ _ h => h) (fun wx hS => ?_) (R24) ?_
  · exact WL.move (v := ptr b 0) rfl rfl (WL.nil ⟨rfl, rfl, rfl⟩)
  refine WA.takeN (i := 2) (m' := 7) (v := ptr b 0) rfl rfl rfl rfl (by kernel_rfl) rfl (fun _ _ _ h => h) (fun wx hS => ?_) (R24) ?_
  · exact WL.nilCheck rfl rfl (WL.nil ⟨rfl, rfl, rfl⟩)
  refine WA.take (i := 3) (m' := 15) (v := ptr b 35) rfl rfl rfl rfl (by kernel_rfl) rfl (fun _ _ _ h => h) (fun wx hS => ?_) (R24) ?_
  · exact WL.fieldAddr rfl fo85_4 rfl (WL.nil ⟨rfl, rfl, rfl⟩)
  refine WA.take (i := 4) (m' := 31) (v := U64 (M.pc)) rfl rfl rfl rfl (by kernel_rfl) rfl (fun _ _ _ h => h) (fun wx hS => ?_) (R24) ?_
  · have B32 := (((hb).ext (n3.ext)).ext (ed_1)).ext (hS)
    exact WL.load1 rfl ag39 (B32.cell (j := 35) rfl) rfl (WL.nil ⟨rfl, rfl, rfl⟩)
  refine WA.take (i := 5) (m' := 63) (v := U64 (M.x (a.rs1).toNat)) rfl rfl rfl rfl (by kernel_rfl) rfl (fun _ _ _ h => h) (fun wx hS => ?_) (R24) ?_
  · exact WL.move (v := U64 (M.x (a.rs1).toNat)) rfl rfl (WL.nil ⟨rfl, rfl, rfl⟩)
  refine WA.take (i := 6) (m' := 127) (v := U64 (M.x (a.rs2).toNat)) rfl rfl rfl rfl (by kernel_rfl) rfl (fun _ _ _ h => h) (fun wx hS => ?_) (R24) ?_
  · exact WL.move (v := U64 (M.x (a.rs2).toNat)) rfl rfl (WL.nil ⟨rfl, rfl, rfl⟩)
  refine WA.one (i := 7) (m' := 255) (by kernel_rfl) rfl rfl ?_
  refine WL.call ca53 (rfl) rfl (do_spec a.op a.rd a.rs1 a.rs2 a.imm M.pc (M.x (a.rs1).toNat) (M.x (a.rs2).toNat) _ ho1 ho2) ?_
  rintro _ wdo ⟨rfl, edo⟩
  have R35 : Ext wd_1 wdo := Mod.trans (R24) (edo)
  have E36 : Ext w wdo := Mod.trans (E25) (edo)
  refine WL.behind (R35) ?_
  refine WA.take (i := 8) (m' := 511) (v := .tuple #[U64 (doM (a.op).toNat a.imm M.pc (M.x (a.rs1).toNat) (M.x (a.rs2).toNat)).1, U64 (doM (a.op).toNat a.imm M.pc (M.x (a.rs1).toNat) (M.x (a.rs2).toNat)).2]) rfl rfl rfl rfl (by kernel_rfl) rfl (fun _ _ _ h => h) (fun wx hS => ?_) (R35) ?_
  · exact WL.move (v := .tuple #[U64 (doM (a.op).toNat a.imm M.pc (M.x (a.rs1).toNat) (M.x (a.rs2).toNat)).1, U64 (doM (a.op).toNat a.imm M.pc (M.x (a.rs1).toNat) (M.x (a.rs2).toNat)).2]) rfl rfl (WL.nil ⟨rfl, rfl, rfl⟩)
  refine WA.take (i := 9) (m' := 1023) (v := U64 ((doM (a.op).toNat a.imm M.pc (M.x (a.rs1).toNat) (M.x (a.rs2).toNat)).1)) rfl rfl rfl rfl (by kernel_rfl) rfl (fun _ _ _ h => h) (fun wx hS => ?_) (R35) ?_
  · exact WL.extract rfl rfl rfl (WL.nil ⟨rfl, rfl, rfl⟩)
  refine WA.take (i := 10) (m' := 2047) (v := U64 ((doM (a.op).toNat a.imm M.pc (M.x (a.rs1).toNat) (M.x (a.rs2).toNat)).2)) rfl rfl rfl rfl (by kernel_rfl) rfl (fun _ _ _ h => h) (fun wx hS => ?_) (R35) ?_
  · exact WL.extract rfl rfl rfl (WL.nil ⟨rfl, rfl, rfl⟩)
  refine WA.take (i := 11) (m' := 4095) (v := U64 ((doM (a.op).toNat a.imm M.pc (M.x (a.rs1).toNat) (M.x (a.rs2).toNat)).1)) rfl rfl rfl rfl (by kernel_rfl) rfl (fun _ _ _ h => h) (fun wx hS => ?_) (R35) ?_
  · exact WL.assign (v := U64 ((doM (a.op).toNat a.imm M.pc (M.x (a.rs1).toNat) (M.x (a.rs2).toNat)).1)) rfl rfl (WL.nil ⟨rfl, rfl, rfl⟩)
  refine WA.take (i := 12) (m' := 8191) (v := U64 ((doM (a.op).toNat a.imm M.pc (M.x (a.rs1).toNat) (M.x (a.rs2).toNat)).2)) rfl rfl rfl rfl (by kernel_rfl) rfl (fun _ _ _ h => h) (fun wx hS => ?_) (R35) ?_
  · exact WL.assign (v := U64 ((doM (a.op).toNat a.imm M.pc (M.x (a.rs1).toNat) (M.x (a.rs2).toNat)).2)) rfl rfl (WL.nil ⟨rfl, rfl, rfl⟩)
  refine WA.done (by kernel_rfl) ?_
  refine WC.seq (WC.region (WL.assign (v := .nilIface) rfl rfl (WL.nil (WC.seq (WC.seq (WC.region (WL.fieldAddr rfl fo48_0 rfl ?_)))))))
  have B42 := (((n3.blk).ext (ed_1)).ext (ed_2)).ext (edo)
  refine WL.load1 rfl ag5 (B42.cell (j := 0) rfl) rfl (WL.call ca68 (rfl) rfl (loads_spec a.op _ ho1 ho2) ?_)
  rintro v42 wlo ⟨hv42, elo⟩
  rw [hz] at hv42
  obtain rfl : v42 = .tuple #[IN 0, .bool false] := hv42
  have E43 : Ext w wlo := Mod.trans (E36) (elo)
  refine WL.move (v := .tuple #[IN 0, .bool false]) rfl rfl (WL.extract rfl rfl rfl (WL.extract rfl rfl rfl (WL.assign (v := IN (0)) rfl rfl (WL.assign (v := .bool (false)) rfl rfl (WL.nil (WC.block (WC.seq (WC.region (WL.move (v := IN (0)) rfl rfl ?_)))))))))
  refine WL.bin rfl rfl rfl (BinR.gtr) (WL.assign (v := .bool (decide ((0 : Int) < ((0 : Nat) : Int)))) rfl rfl (WL.nil (WC.condF (congrArg Value.bool (decide_eq_false (by omega))) (WC.seq (WC.region (WL.fieldAddr rfl fo48_0 rfl ?_))))))
  have B44 := (B42).ext (elo)
  refine WL.load1 rfl ag5 (B44.cell (j := 0) rfl) rfl (WL.bin (v := .bool (true)) rfl (vy := U8 (18#8)) rfl rfl (BinR.toB (BinR.geqU8) (by rw [hop]; rfl)) (WL.move (v := .bool (true)) rfl rfl (WL.guardT (rfl) (WL.fieldAddr rfl fo48_0 rfl (WL.guardT (rfl) (WL.load1 rfl ag5 (B44.cell (j := 0) rfl) rfl (WL.guardT (rfl) (WL.bin (v := .bool (true)) rfl (vy := U8 (21#8)) rfl rfl (BinR.toB (BinR.leqU8) (by rw [hop]; rfl)) (WL.pick (b := true) rfl rfl rfl ?_)))))))))
  refine WL.assign (v := .bool (true)) rfl rfl (WL.nil (WC.condT rfl (WC.region (WL.move (v := ptr b 0) rfl rfl (WL.move (v := U64 (M.x (a.rs1).toNat)) rfl rfl (WL.fieldAddr rfl fo48_4 rfl (WL.load1 rfl ag2 (B44.cell (j := 4) rfl) rfl (WL.conv rfl rfl (ConvR.i64u64 Tryz.underlying2 Tryz.underlying39) (WL.bin rfl rfl rfl (BinR.addU64) ?_)))))))))
  refine WL.fieldAddr rfl fo48_0 rfl (WL.load1 rfl ag5 (B44.cell (j := 0) rfl) rfl (WL.bin rfl (vy := U8 (18#8)) rfl rfl (BinR.subU8) (WL.bin (vx := I64 1#64) (vy := .int .u8 ((1 : Nat) : Int)) (v := I64 (1#64 <<< 1)) rfl (by show U8 (a.op - 18#8) = _; rw [hop]; rfl) rfl BinR.shl64 (WL.move (v := U64 (M.x (a.rs2).toNat)) rfl rfl ?_))))
  have t3 : T b3 = 0 := by rcases Nat.eq_zero_or_pos (T b3) with h | h; exact h; have := (ht.lt b3 (by omega)).1; have := n3.num; omega
  refine WL.call ca69 (rfl) rfl (store_ok T b M (M.x (a.rs1).toNat + a.imm) (M.x (a.rs2).toNat) 2 _ (hM0.ext (E43)) (by decide) (by decide) k off hw) ?_
  rintro _ wst ⟨rfl, T1, h1, m1, hs1⟩
  have hG1 : Glob wst := glob_turn (hG.ext (E43)) m1 (fun k h => (hM0.lt k h).2)
  have hX1 := Mod.cell m1 (Mod.cell (E43) hX (fun h => h)) (fun h => by have := (hM0.lt 3 h).2; omega)
  have h31 := (B44).mod m1 (fun h => h t3)
  have t31 := zero_of hs1 t3 (B44).lt
  have mw := (Mod.ext (O := Fp T) (E43)).trans m1
  have hs2 : ∀ k, T1 k ≠ 0 → T k ≠ 0 ∨ w.heap.size ≤ k := fun k h => by have := Mod.size (E43); rcases hs1 k h with h | h; exact .inl h; exact .inr (by omega)
  refine WL.assign (v := .nilIface) rfl rfl (WL.nil ?_)
  rw [hR]
  exact tail_go T1 b b3 (storeM M k off 2 (M.x (a.rs2).toNat)) a (doM (a.op).toNat a.imm M.pc (M.x (a.rs1).toNat) (M.x (a.rs2).toNat)).1 (doM (a.op).toNat a.imm M.pc (M.x (a.rs1).toNat) (M.x (a.rs2).toNat)).2 (.nilIface) none _ _ _ h1 rfl rfl rfl rfl rfl h31 t31 rfl hG1 hX1 rfl (fun e h => (by cases h)) ho1 ho2 hrd (fun w2 h2 m2 e2 => TurnE.then h2 mw m2 hs2 e2 (fun e h => by cases h))
set_option maxRecDepth 100000 in
theorem does_s20_0 (T : Nat → Nat) (b : Nat) (M : MS) (a : RvInst) (w : World) (hM : MR T w b M) (hG : Glob w) (hX : w.cell? ⟨3, 0, none⟩ = some (.iface 206 (.agg #[.pointer (some ⟨6, 83, none⟩)]))) (ho1 : 1 ≤ a.op.toNat) (ho2 : a.op.toNat < 66) (hr1 : (a.rs1).toNat < 32) (hr2 : (a.rs2).toNat < 32) (hrd : (a.rd).toNat < 32) (hz : loadsM a.op.toNat = (0, false)) (hop : a.op = 20#8) (hw : whereM M.n (M.x (a.rs1).toNat + a.imm) 4 = none) (hR : doesM M a = (M, some true)) : CallsR Tryz.prog 36 #[ptr b 0, .agg #[U8 (a.op), U8 (a.rd), U8 (a.rs1), U8 (a.rs2), I64 (a.imm)]] w (fun v w' => TurnE T w b (doesM M a).1 w' (doesM M a).2 v) := by
  have hM0 := hM
  obtain ⟨bq, sd, ss, cv, iv, ev, en, hb, ht⟩ := hM
  refine callsR_of Tryz.func36 rfl rfl rfl ?_
  refine WC.seq (WC.region (WL.box (v := .agg #[U8 (a.op), U8 (a.rd), U8 (a.rs1), U8 (a.rs2), I64 (a.imm)]) rfl rfl ?_))
  intro b3 w3 n3
  have E1 : Ext w w3 := Mod.trans (Mod.refl _ _) (n3.ext)
  refine WL.assign (v := .nilIface) rfl rfl (WL.nil (WC.seq (WC.draw (fun w_ => Ext w3 w_) 16 rfl mixed ?_)))
  intro wd_1 ed_1
  have R2 : Ext w3 wd_1 := Mod.trans (Mod.refl _ _) (ed_1)
  have E3 : Ext w wd_1 := Mod.trans (E1) (ed_1)
  refine WA.take (i := 0) (m' := 1) (v := ptr b 0) rfl rfl rfl rfl (by kernel_rfl) rfl (fun _ _ _ h => h) (fun wx hS => ?_) (R2) ?_
  · exact WL.move (v := ptr b 0) rfl rfl (WL.nil ⟨rfl, rfl, rfl⟩)
  refine WA.take (i := 1) (m' := 3) (v := ptr b3 2) rfl rfl rfl rfl (by kernel_rfl) rfl (fun _ _ _ h => h) (fun wx hS => ?_) (R2) ?_
  · exact WL.fieldAddr rfl fo48_2 rfl (WL.nil ⟨rfl, rfl, rfl⟩)
  refine WA.take (i := 2) (m' := 7) (v := U8 (a.rs1)) rfl rfl rfl rfl (by kernel_rfl) rfl (fun _ _ _ h => h) (fun wx hS => ?_) (R2) ?_
  · have B7 := (n3.blk).ext (hS)
    exact WL.load1 rfl ag5 (B7.cell (j := 2) rfl) rfl (WL.nil ⟨rfl, rfl, rfl⟩)
  refine WA.takeN (i := 3) (m' := 15) (v := ptr b 0) rfl rfl rfl rfl (by kernel_rfl) rfl (fun _ _ _ h => h) (fun wx hS => ?_) (R2) ?_
  · exact WL.nilCheck rfl rfl (WL.nil ⟨rfl, rfl, rfl⟩)
  refine WA.take (i := 4) (m' := 31) (v := ptr b 3) rfl rfl rfl rfl (by kernel_rfl) rfl (fun _ _ _ h => h) (fun wx hS => ?_) (R2) ?_
  · exact WL.fieldAddr rfl fo85_3 rfl (WL.nil ⟨rfl, rfl, rfl⟩)
  refine WA.take (i := 5) (m' := 63) (v := ptr b (3 + (a.rs1).toNat)) rfl rfl rfl rfl (by kernel_rfl) rfl (fun _ _ _ h => h) (fun wx hS => ?_) (R2) ?_
  · exact WL.indexArr1 (i := (a.rs1).toNat) ar68 sz39 rfl rfl hr1 rfl (WL.nil ⟨rfl, rfl, rfl⟩)
  refine WA.take (i := 6) (m' := 127) (v := U64 (M.x (a.rs1).toNat)) rfl rfl rfl rfl (by kernel_rfl) rfl (fun _ _ _ h => h) (fun wx hS => ?_) (R2) ?_
  · have B12 := ((hb).ext (n3.ext)).ext (hS)
    exact WL.load1 rfl ag39 (B12.cell (machCells_x _ _ _ _ _ _ _ _ hr1)) rfl (WL.nil ⟨rfl, rfl, rfl⟩)
  refine WA.take (i := 7) (m' := 255) (v := ptr b 0) rfl rfl rfl rfl (by kernel_rfl) rfl (fun _ _ _ h => h) (fun wx hS => ?_) (R2) ?_
  · exact WL.move (v := ptr b 0) rfl rfl (WL.nil ⟨rfl, rfl, rfl⟩)
  refine WA.take (i := 8) (m' := 511) (v := ptr b3 3) rfl rfl rfl rfl (by kernel_rfl) rfl (fun _ _ _ h => h) (fun wx hS => ?_) (R2) ?_
  · exact WL.fieldAddr rfl fo48_3 rfl (WL.nil ⟨rfl, rfl, rfl⟩)
  refine WA.take (i := 9) (m' := 1023) (v := U8 (a.rs2)) rfl rfl rfl rfl (by kernel_rfl) rfl (fun _ _ _ h => h) (fun wx hS => ?_) (R2) ?_
  · have B16 := (n3.blk).ext (hS)
    exact WL.load1 rfl ag5 (B16.cell (j := 3) rfl) rfl (WL.nil ⟨rfl, rfl, rfl⟩)
  refine WA.takeN (i := 10) (m' := 2047) (v := ptr b 0) rfl rfl rfl rfl (by kernel_rfl) rfl (fun _ _ _ h => h) (fun wx hS => ?_) (R2) ?_
  · exact WL.nilCheck rfl rfl (WL.nil ⟨rfl, rfl, rfl⟩)
  refine WA.take (i := 11) (m' := 4095) (v := ptr b 3) rfl rfl rfl rfl (by kernel_rfl) rfl (fun _ _ _ h => h) (fun wx hS => ?_) (R2) ?_
  · exact WL.fieldAddr rfl fo85_3 rfl (WL.nil ⟨rfl, rfl, rfl⟩)
  refine WA.take (i := 12) (m' := 8191) (v := ptr b (3 + (a.rs2).toNat)) rfl rfl rfl rfl (by kernel_rfl) rfl (fun _ _ _ h => h) (fun wx hS => ?_) (R2) ?_
  · exact WL.indexArr1 (i := (a.rs2).toNat) ar68 sz39 rfl rfl hr2 rfl (WL.nil ⟨rfl, rfl, rfl⟩)
  refine WA.take (i := 13) (m' := 16383) (v := U64 (M.x (a.rs2).toNat)) rfl rfl rfl rfl (by kernel_rfl) rfl (fun _ _ _ h => h) (fun wx hS => ?_) (R2) ?_
  · have B21 := ((hb).ext (n3.ext)).ext (hS)
    exact WL.load1 rfl ag39 (B21.cell (machCells_x _ _ _ _ _ _ _ _ hr2)) rfl (WL.nil ⟨rfl, rfl, rfl⟩)
  refine WA.take (i := 14) (m' := 32767) (v := U64 (M.x (a.rs1).toNat)) rfl rfl rfl rfl (by kernel_rfl) rfl (fun _ _ _ h => h) (fun wx hS => ?_) (R2) ?_
  · exact WL.assign (v := U64 (M.x (a.rs1).toNat)) rfl rfl (WL.nil ⟨rfl, rfl, rfl⟩)
  refine WA.take (i := 15) (m' := 65535) (v := U64 (M.x (a.rs2).toNat)) rfl rfl rfl rfl (by kernel_rfl) rfl (fun _ _ _ h => h) (fun wx hS => ?_) (R2) ?_
  · exact WL.assign (v := U64 (M.x (a.rs2).toNat)) rfl rfl (WL.nil ⟨rfl, rfl, rfl⟩)
  refine WA.done (by kernel_rfl) ?_
  refine WC.seq (WC.draw (fun w_ => Ext wd_1 w_) 13 rfl mixed ?_)
  intro wd_2 ed_2
  have R24 : Ext wd_1 wd_2 := Mod.trans (Mod.refl _ _) (ed_2)
  have E25 : Ext w wd_2 := Mod.trans (E3) (ed_2)
  refine WA.take (i := 0) (m' := 1) (v := .agg #[U8 (a.op), U8 (a.rd), U8 (a.rs1), U8 (a.rs2), I64 (a.imm)]) rfl rfl rfl rfl (by kernel_rfl) rfl (fun _ _ _ h => h) (fun wx hS => ?_) (R24) ?_
  · have B27 := ((n3.blk).ext (ed_1)).ext (hS)
    exact WL.loadS [U8 (a.op), U8 (a.rd), U8 (a.rs1), U8 (a.rs2), I64 (a.imm)] rfl ag48 sz48 rfl (B27.sub (o := 0) (vs := [U8 (a.op), U8 (a.rd), U8 (a.rs1), U8 (a.rs2), I64 (a.imm)]) rfl) rfl (WL.nil ⟨rfl, rfl, rfl⟩)
  refine WA.take (i := 1) (m' := 3) (v := ptr b 0) rfl rfl rfl rfl (by kernel_rfl) rfl (fun _ _ _ h => h) (fun wx hS => ?_) (R24) ?_
  · exact WL.move (v := ptr b 0) rfl rfl (WL.nil ⟨rfl, rfl, rfl⟩)
  refine WA.takeN (i := 2) (m' := 7) (v := ptr b 0) rfl rfl rfl rfl (by kernel_rfl) rfl (fun _ _ _ h => h) (fun wx hS => ?_) (R24) ?_
  · exact WL.nilCheck rfl rfl (WL.nil ⟨rfl, rfl, rfl⟩)
  refine WA.take (i := 3) (m' := 15) (v := ptr b 35) rfl rfl rfl rfl (by kernel_rfl) rfl (fun _ _ _ h => h) (fun wx hS => ?_) (R24) ?_
  · exact WL.fieldAddr rfl fo85_4 rfl (WL.nil ⟨rfl, rfl, rfl⟩)
  refine WA.take (i := 4) (m' := 31) (v := U64 (M.pc)) rfl rfl rfl rfl (by kernel_rfl) rfl (fun _ _ _ h => h) (fun wx hS => ?_) (R24) ?_
  · have B32 := (((hb).ext (n3.ext)).ext (ed_1)).ext (hS)
    exact WL.load1 rfl ag39 (B32.cell (j := 35) rfl) rfl (WL.nil ⟨rfl, rfl, rfl⟩)
  refine WA.take (i := 5) (m' := 63) (v := U64 (M.x (a.rs1).toNat)) rfl rfl rfl rfl (by kernel_rfl) rfl (fun _ _ _ h => h) (fun wx hS => ?_) (R24) ?_
  · exact WL.move (v := U64 (M.x (a.rs1).toNat)) rfl rfl (WL.nil ⟨rfl, rfl, rfl⟩)
  refine WA.take (i := 6) (m' := 127) (v := U64 (M.x (a.rs2).toNat)) rfl rfl rfl rfl (by kernel_rfl) rfl (fun _ _ _ h => h) (fun wx hS => ?_) (R24) ?_
  · exact WL.move (v := U64 (M.x (a.rs2).toNat)) rfl rfl (WL.nil ⟨rfl, rfl, rfl⟩)
  refine WA.one (i := 7) (m' := 255) (by kernel_rfl) rfl rfl ?_
  refine WL.call ca53 (rfl) rfl (do_spec a.op a.rd a.rs1 a.rs2 a.imm M.pc (M.x (a.rs1).toNat) (M.x (a.rs2).toNat) _ ho1 ho2) ?_
  rintro _ wdo ⟨rfl, edo⟩
  have R35 : Ext wd_1 wdo := Mod.trans (R24) (edo)
  have E36 : Ext w wdo := Mod.trans (E25) (edo)
  refine WL.behind (R35) ?_
  refine WA.take (i := 8) (m' := 511) (v := .tuple #[U64 (doM (a.op).toNat a.imm M.pc (M.x (a.rs1).toNat) (M.x (a.rs2).toNat)).1, U64 (doM (a.op).toNat a.imm M.pc (M.x (a.rs1).toNat) (M.x (a.rs2).toNat)).2]) rfl rfl rfl rfl (by kernel_rfl) rfl (fun _ _ _ h => h) (fun wx hS => ?_) (R35) ?_
  · exact WL.move (v := .tuple #[U64 (doM (a.op).toNat a.imm M.pc (M.x (a.rs1).toNat) (M.x (a.rs2).toNat)).1, U64 (doM (a.op).toNat a.imm M.pc (M.x (a.rs1).toNat) (M.x (a.rs2).toNat)).2]) rfl rfl (WL.nil ⟨rfl, rfl, rfl⟩)
  refine WA.take (i := 9) (m' := 1023) (v := U64 ((doM (a.op).toNat a.imm M.pc (M.x (a.rs1).toNat) (M.x (a.rs2).toNat)).1)) rfl rfl rfl rfl (by kernel_rfl) rfl (fun _ _ _ h => h) (fun wx hS => ?_) (R35) ?_
  · exact WL.extract rfl rfl rfl (WL.nil ⟨rfl, rfl, rfl⟩)
  refine WA.take (i := 10) (m' := 2047) (v := U64 ((doM (a.op).toNat a.imm M.pc (M.x (a.rs1).toNat) (M.x (a.rs2).toNat)).2)) rfl rfl rfl rfl (by kernel_rfl) rfl (fun _ _ _ h => h) (fun wx hS => ?_) (R35) ?_
  · exact WL.extract rfl rfl rfl (WL.nil ⟨rfl, rfl, rfl⟩)
  refine WA.take (i := 11) (m' := 4095) (v := U64 ((doM (a.op).toNat a.imm M.pc (M.x (a.rs1).toNat) (M.x (a.rs2).toNat)).1)) rfl rfl rfl rfl (by kernel_rfl) rfl (fun _ _ _ h => h) (fun wx hS => ?_) (R35) ?_
  · exact WL.assign (v := U64 ((doM (a.op).toNat a.imm M.pc (M.x (a.rs1).toNat) (M.x (a.rs2).toNat)).1)) rfl rfl (WL.nil ⟨rfl, rfl, rfl⟩)
  refine WA.take (i := 12) (m' := 8191) (v := U64 ((doM (a.op).toNat a.imm M.pc (M.x (a.rs1).toNat) (M.x (a.rs2).toNat)).2)) rfl rfl rfl rfl (by kernel_rfl) rfl (fun _ _ _ h => h) (fun wx hS => ?_) (R35) ?_
  · exact WL.assign (v := U64 ((doM (a.op).toNat a.imm M.pc (M.x (a.rs1).toNat) (M.x (a.rs2).toNat)).2)) rfl rfl (WL.nil ⟨rfl, rfl, rfl⟩)
  refine WA.done (by kernel_rfl) ?_
  refine WC.seq (WC.region (WL.assign (v := .nilIface) rfl rfl (WL.nil (WC.seq (WC.seq (WC.region (WL.fieldAddr rfl fo48_0 rfl ?_)))))))
  have B42 := (((n3.blk).ext (ed_1)).ext (ed_2)).ext (edo)
  refine WL.load1 rfl ag5 (B42.cell (j := 0) rfl) rfl (WL.call ca68 (rfl) rfl (loads_spec a.op _ ho1 ho2) ?_)
  rintro v42 wlo ⟨hv42, elo⟩
  rw [hz] at hv42
  obtain rfl : v42 = .tuple #[IN 0, .bool false] := hv42
  have E43 : Ext w wlo := Mod.trans (E36) (elo)
  refine WL.move (v := .tuple #[IN 0, .bool false]) rfl rfl (WL.extract rfl rfl rfl (WL.extract rfl rfl rfl (WL.assign (v := IN (0)) rfl rfl (WL.assign (v := .bool (false)) rfl rfl (WL.nil (WC.block (WC.seq (WC.region (WL.move (v := IN (0)) rfl rfl ?_)))))))))
  refine WL.bin rfl rfl rfl (BinR.gtr) (WL.assign (v := .bool (decide ((0 : Int) < ((0 : Nat) : Int)))) rfl rfl (WL.nil (WC.condF (congrArg Value.bool (decide_eq_false (by omega))) (WC.seq (WC.region (WL.fieldAddr rfl fo48_0 rfl ?_))))))
  have B44 := (B42).ext (elo)
  refine WL.load1 rfl ag5 (B44.cell (j := 0) rfl) rfl (WL.bin (v := .bool (true)) rfl (vy := U8 (18#8)) rfl rfl (BinR.toB (BinR.geqU8) (by rw [hop]; rfl)) (WL.move (v := .bool (true)) rfl rfl (WL.guardT (rfl) (WL.fieldAddr rfl fo48_0 rfl (WL.guardT (rfl) (WL.load1 rfl ag5 (B44.cell (j := 0) rfl) rfl (WL.guardT (rfl) (WL.bin (v := .bool (true)) rfl (vy := U8 (21#8)) rfl rfl (BinR.toB (BinR.leqU8) (by rw [hop]; rfl)) (WL.pick (b := true) rfl rfl rfl ?_)))))))))
  refine WL.assign (v := .bool (true)) rfl rfl (WL.nil (WC.condT rfl (WC.region (WL.move (v := ptr b 0) rfl rfl (WL.move (v := U64 (M.x (a.rs1).toNat)) rfl rfl (WL.fieldAddr rfl fo48_4 rfl (WL.load1 rfl ag2 (B44.cell (j := 4) rfl) rfl (WL.conv rfl rfl (ConvR.i64u64 Tryz.underlying2 Tryz.underlying39) (WL.bin rfl rfl rfl (BinR.addU64) ?_)))))))))
  refine WL.fieldAddr rfl fo48_0 rfl (WL.load1 rfl ag5 (B44.cell (j := 0) rfl) rfl (WL.bin rfl (vy := U8 (18#8)) rfl rfl (BinR.subU8) (WL.bin (vx := I64 1#64) (vy := .int .u8 ((2 : Nat) : Int)) (v := I64 (1#64 <<< 2)) rfl (by show U8 (a.op - 18#8) = _; rw [hop]; rfl) rfl BinR.shl64 (WL.move (v := U64 (M.x (a.rs2).toNat)) rfl rfl ?_))))
  have t3 : T b3 = 0 := by rcases Nat.eq_zero_or_pos (T b3) with h | h; exact h; have := (ht.lt b3 (by omega)).1; have := n3.num; omega
  refine WL.call ca69 (rfl) rfl (store_no T b M (M.x (a.rs1).toNat + a.imm) (M.x (a.rs2).toNat) 4 _ (hM0.ext (E43)) (by decide) (by decide) hw) ?_
  rintro _ wl ⟨⟨e, rfl, he, hle⟩, el⟩
  have hse := Mod.size (E43)
  have E45 : Ext w wl := Mod.trans (E43) (el)
  refine WL.assign (v := .iface 144 (ptr e 0)) rfl rfl (WL.nil ?_)
  rw [hR]
  have hEe : EndV wl (.iface 144 (ptr e 0)) (some true) := ⟨e, rfl, he⟩
  have B46 := (B44).ext (el)
  exact tail_trap T b b3 M a (doM (a.op).toNat a.imm M.pc (M.x (a.rs1).toNat) (M.x (a.rs2).toNat)).1 _ _ (some true) _ _ _ (hM0.ext (E45)) rfl rfl rfl rfl rfl B46 t3 hEe (hG.ext (E45)) (Mod.cell (E45) hX (fun h => h)) rfl (fun w2 e2 => turnE_same hM0 (Mod.trans (E45) e2) (hEe.mod e2 (fun _ _ h => h)) (fun k hk => by cases hk; omega))
set_option maxRecDepth 100000 in
theorem does_s20_1 (T : Nat → Nat) (b : Nat) (M : MS) (a : RvInst) (w : World) (hM : MR T w b M) (hG : Glob w) (hX : w.cell? ⟨3, 0, none⟩ = some (.iface 206 (.agg #[.pointer (some ⟨6, 83, none⟩)]))) (ho1 : 1 ≤ a.op.toNat) (ho2 : a.op.toNat < 66) (hr1 : (a.rs1).toNat < 32) (hr2 : (a.rs2).toNat < 32) (hrd : (a.rd).toNat < 32) (hz : loadsM a.op.toNat = (0, false)) (hop : a.op = 20#8) (k : Bool) (off : Nat) (hw : whereM M.n (M.x (a.rs1).toNat + a.imm) 4 = some (k, off)) (hR : doesM M a = (putM (storeM M k off 4 (M.x (a.rs2).toNat)) a (doM (a.op).toNat a.imm M.pc (M.x (a.rs1).toNat) (M.x (a.rs2).toNat)).1 (doM (a.op).toNat a.imm M.pc (M.x (a.rs1).toNat) (M.x (a.rs2).toNat)).2, none)) : CallsR Tryz.prog 36 #[ptr b 0, .agg #[U8 (a.op), U8 (a.rd), U8 (a.rs1), U8 (a.rs2), I64 (a.imm)]] w (fun v w' => TurnE T w b (doesM M a).1 w' (doesM M a).2 v) := by
  have hM0 := hM
  obtain ⟨bq, sd, ss, cv, iv, ev, en, hb, ht⟩ := hM
  refine callsR_of Tryz.func36 rfl rfl rfl ?_
  refine WC.seq (WC.region (WL.box (v := .agg #[U8 (a.op), U8 (a.rd), U8 (a.rs1), U8 (a.rs2), I64 (a.imm)]) rfl rfl ?_))
  intro b3 w3 n3
  have E1 : Ext w w3 := Mod.trans (Mod.refl _ _) (n3.ext)
  refine WL.assign (v := .nilIface) rfl rfl (WL.nil (WC.seq (WC.draw (fun w_ => Ext w3 w_) 16 rfl mixed ?_)))
  intro wd_1 ed_1
  have R2 : Ext w3 wd_1 := Mod.trans (Mod.refl _ _) (ed_1)
  have E3 : Ext w wd_1 := Mod.trans (E1) (ed_1)
  refine WA.take (i := 0) (m' := 1) (v := ptr b 0) rfl rfl rfl rfl (by kernel_rfl) rfl (fun _ _ _ h => h) (fun wx hS => ?_) (R2) ?_
  · exact WL.move (v := ptr b 0) rfl rfl (WL.nil ⟨rfl, rfl, rfl⟩)
  refine WA.take (i := 1) (m' := 3) (v := ptr b3 2) rfl rfl rfl rfl (by kernel_rfl) rfl (fun _ _ _ h => h) (fun wx hS => ?_) (R2) ?_
  · exact WL.fieldAddr rfl fo48_2 rfl (WL.nil ⟨rfl, rfl, rfl⟩)
  refine WA.take (i := 2) (m' := 7) (v := U8 (a.rs1)) rfl rfl rfl rfl (by kernel_rfl) rfl (fun _ _ _ h => h) (fun wx hS => ?_) (R2) ?_
  · have B7 := (n3.blk).ext (hS)
    exact WL.load1 rfl ag5 (B7.cell (j := 2) rfl) rfl (WL.nil ⟨rfl, rfl, rfl⟩)
  refine WA.takeN (i := 3) (m' := 15) (v := ptr b 0) rfl rfl rfl rfl (by kernel_rfl) rfl (fun _ _ _ h => h) (fun wx hS => ?_) (R2) ?_
  · exact WL.nilCheck rfl rfl (WL.nil ⟨rfl, rfl, rfl⟩)
  refine WA.take (i := 4) (m' := 31) (v := ptr b 3) rfl rfl rfl rfl (by kernel_rfl) rfl (fun _ _ _ h => h) (fun wx hS => ?_) (R2) ?_
  · exact WL.fieldAddr rfl fo85_3 rfl (WL.nil ⟨rfl, rfl, rfl⟩)
  refine WA.take (i := 5) (m' := 63) (v := ptr b (3 + (a.rs1).toNat)) rfl rfl rfl rfl (by kernel_rfl) rfl (fun _ _ _ h => h) (fun wx hS => ?_) (R2) ?_
  · exact WL.indexArr1 (i := (a.rs1).toNat) ar68 sz39 rfl rfl hr1 rfl (WL.nil ⟨rfl, rfl, rfl⟩)
  refine WA.take (i := 6) (m' := 127) (v := U64 (M.x (a.rs1).toNat)) rfl rfl rfl rfl (by kernel_rfl) rfl (fun _ _ _ h => h) (fun wx hS => ?_) (R2) ?_
  · have B12 := ((hb).ext (n3.ext)).ext (hS)
    exact WL.load1 rfl ag39 (B12.cell (machCells_x _ _ _ _ _ _ _ _ hr1)) rfl (WL.nil ⟨rfl, rfl, rfl⟩)
  refine WA.take (i := 7) (m' := 255) (v := ptr b 0) rfl rfl rfl rfl (by kernel_rfl) rfl (fun _ _ _ h => h) (fun wx hS => ?_) (R2) ?_
  · exact WL.move (v := ptr b 0) rfl rfl (WL.nil ⟨rfl, rfl, rfl⟩)
  refine WA.take (i := 8) (m' := 511) (v := ptr b3 3) rfl rfl rfl rfl (by kernel_rfl) rfl (fun _ _ _ h => h) (fun wx hS => ?_) (R2) ?_
  · exact WL.fieldAddr rfl fo48_3 rfl (WL.nil ⟨rfl, rfl, rfl⟩)
  refine WA.take (i := 9) (m' := 1023) (v := U8 (a.rs2)) rfl rfl rfl rfl (by kernel_rfl) rfl (fun _ _ _ h => h) (fun wx hS => ?_) (R2) ?_
  · have B16 := (n3.blk).ext (hS)
    exact WL.load1 rfl ag5 (B16.cell (j := 3) rfl) rfl (WL.nil ⟨rfl, rfl, rfl⟩)
  refine WA.takeN (i := 10) (m' := 2047) (v := ptr b 0) rfl rfl rfl rfl (by kernel_rfl) rfl (fun _ _ _ h => h) (fun wx hS => ?_) (R2) ?_
  · exact WL.nilCheck rfl rfl (WL.nil ⟨rfl, rfl, rfl⟩)
  refine WA.take (i := 11) (m' := 4095) (v := ptr b 3) rfl rfl rfl rfl (by kernel_rfl) rfl (fun _ _ _ h => h) (fun wx hS => ?_) (R2) ?_
  · exact WL.fieldAddr rfl fo85_3 rfl (WL.nil ⟨rfl, rfl, rfl⟩)
  refine WA.take (i := 12) (m' := 8191) (v := ptr b (3 + (a.rs2).toNat)) rfl rfl rfl rfl (by kernel_rfl) rfl (fun _ _ _ h => h) (fun wx hS => ?_) (R2) ?_
  · exact WL.indexArr1 (i := (a.rs2).toNat) ar68 sz39 rfl rfl hr2 rfl (WL.nil ⟨rfl, rfl, rfl⟩)
  refine WA.take (i := 13) (m' := 16383) (v := U64 (M.x (a.rs2).toNat)) rfl rfl rfl rfl (by kernel_rfl) rfl (fun _ _ _ h => h) (fun wx hS => ?_) (R2) ?_
  · have B21 := ((hb).ext (n3.ext)).ext (hS)
    exact WL.load1 rfl ag39 (B21.cell (machCells_x _ _ _ _ _ _ _ _ hr2)) rfl (WL.nil ⟨rfl, rfl, rfl⟩)
  refine WA.take (i := 14) (m' := 32767) (v := U64 (M.x (a.rs1).toNat)) rfl rfl rfl rfl (by kernel_rfl) rfl (fun _ _ _ h => h) (fun wx hS => ?_) (R2) ?_
  · exact WL.assign (v := U64 (M.x (a.rs1).toNat)) rfl rfl (WL.nil ⟨rfl, rfl, rfl⟩)
  refine WA.take (i := 15) (m' := 65535) (v := U64 (M.x (a.rs2).toNat)) rfl rfl rfl rfl (by kernel_rfl) rfl (fun _ _ _ h => h) (fun wx hS => ?_) (R2) ?_
  · exact WL.assign (v := U64 (M.x (a.rs2).toNat)) rfl rfl (WL.nil ⟨rfl, rfl, rfl⟩)
  refine WA.done (by kernel_rfl) ?_
  refine WC.seq (WC.draw (fun w_ => Ext wd_1 w_) 13 rfl mixed ?_)
  intro wd_2 ed_2
  have R24 : Ext wd_1 wd_2 := Mod.trans (Mod.refl _ _) (ed_2)
  have E25 : Ext w wd_2 := Mod.trans (E3) (ed_2)
  refine WA.take (i := 0) (m' := 1) (v := .agg #[U8 (a.op), U8 (a.rd), U8 (a.rs1), U8 (a.rs2), I64 (a.imm)]) rfl rfl rfl rfl (by kernel_rfl) rfl (fun _ _ _ h => h) (fun wx hS => ?_) (R24) ?_
  · have B27 := ((n3.blk).ext (ed_1)).ext (hS)
    exact WL.loadS [U8 (a.op), U8 (a.rd), U8 (a.rs1), U8 (a.rs2), I64 (a.imm)] rfl ag48 sz48 rfl (B27.sub (o := 0) (vs := [U8 (a.op), U8 (a.rd), U8 (a.rs1), U8 (a.rs2), I64 (a.imm)]) rfl) rfl (WL.nil ⟨rfl, rfl, rfl⟩)
  refine WA.take (i := 1) (m' := 3) (v := ptr b 0) rfl rfl rfl rfl (by kernel_rfl) rfl (fun _ _ _ h => h) (fun wx hS => ?_) (R24) ?_
  · exact WL.move (v := ptr b 0) rfl rfl (WL.nil ⟨rfl, rfl, rfl⟩)
  refine WA.takeN (i := 2) (m' := 7) (v := ptr b 0) rfl rfl rfl rfl (by kernel_rfl) rfl (fun _ _ _ h => h) (fun wx hS => ?_) (R24) ?_
  · exact WL.nilCheck rfl rfl (WL.nil ⟨rfl, rfl, rfl⟩)
  refine WA.take (i := 3) (m' := 15) (v := ptr b 35) rfl rfl rfl rfl (by kernel_rfl) rfl (fun _ _ _ h => h) (fun wx hS => ?_) (R24) ?_
  · exact WL.fieldAddr rfl fo85_4 rfl (WL.nil ⟨rfl, rfl, rfl⟩)
  refine WA.take (i := 4) (m' := 31) (v := U64 (M.pc)) rfl rfl rfl rfl (by kernel_rfl) rfl (fun _ _ _ h => h) (fun wx hS => ?_) (R24) ?_
  · have B32 := (((hb).ext (n3.ext)).ext (ed_1)).ext (hS)
    exact WL.load1 rfl ag39 (B32.cell (j := 35) rfl) rfl (WL.nil ⟨rfl, rfl, rfl⟩)
  refine WA.take (i := 5) (m' := 63) (v := U64 (M.x (a.rs1).toNat)) rfl rfl rfl rfl (by kernel_rfl) rfl (fun _ _ _ h => h) (fun wx hS => ?_) (R24) ?_
  · exact WL.move (v := U64 (M.x (a.rs1).toNat)) rfl rfl (WL.nil ⟨rfl, rfl, rfl⟩)
  refine WA.take (i := 6) (m' := 127) (v := U64 (M.x (a.rs2).toNat)) rfl rfl rfl rfl (by kernel_rfl) rfl (fun _ _ _ h => h) (fun wx hS => ?_) (R24) ?_
  · exact WL.move (v := U64 (M.x (a.rs2).toNat)) rfl rfl (WL.nil ⟨rfl, rfl, rfl⟩)
  refine WA.one (i := 7) (m' := 255) (by kernel_rfl) rfl rfl ?_
  refine WL.call ca53 (rfl) rfl (do_spec a.op a.rd a.rs1 a.rs2 a.imm M.pc (M.x (a.rs1).toNat) (M.x (a.rs2).toNat) _ ho1 ho2) ?_
  rintro _ wdo ⟨rfl, edo⟩
  have R35 : Ext wd_1 wdo := Mod.trans (R24) (edo)
  have E36 : Ext w wdo := Mod.trans (E25) (edo)
  refine WL.behind (R35) ?_
  refine WA.take (i := 8) (m' := 511) (v := .tuple #[U64 (doM (a.op).toNat a.imm M.pc (M.x (a.rs1).toNat) (M.x (a.rs2).toNat)).1, U64 (doM (a.op).toNat a.imm M.pc (M.x (a.rs1).toNat) (M.x (a.rs2).toNat)).2]) rfl rfl rfl rfl (by kernel_rfl) rfl (fun _ _ _ h => h) (fun wx hS => ?_) (R35) ?_
  · exact WL.move (v := .tuple #[U64 (doM (a.op).toNat a.imm M.pc (M.x (a.rs1).toNat) (M.x (a.rs2).toNat)).1, U64 (doM (a.op).toNat a.imm M.pc (M.x (a.rs1).toNat) (M.x (a.rs2).toNat)).2]) rfl rfl (WL.nil ⟨rfl, rfl, rfl⟩)
  refine WA.take (i := 9) (m' := 1023) (v := U64 ((doM (a.op).toNat a.imm M.pc (M.x (a.rs1).toNat) (M.x (a.rs2).toNat)).1)) rfl rfl rfl rfl (by kernel_rfl) rfl (fun _ _ _ h => h) (fun wx hS => ?_) (R35) ?_
  · exact WL.extract rfl rfl rfl (WL.nil ⟨rfl, rfl, rfl⟩)
  refine WA.take (i := 10) (m' := 2047) (v := U64 ((doM (a.op).toNat a.imm M.pc (M.x (a.rs1).toNat) (M.x (a.rs2).toNat)).2)) rfl rfl rfl rfl (by kernel_rfl) rfl (fun _ _ _ h => h) (fun wx hS => ?_) (R35) ?_
  · exact WL.extract rfl rfl rfl (WL.nil ⟨rfl, rfl, rfl⟩)
  refine WA.take (i := 11) (m' := 4095) (v := U64 ((doM (a.op).toNat a.imm M.pc (M.x (a.rs1).toNat) (M.x (a.rs2).toNat)).1)) rfl rfl rfl rfl (by kernel_rfl) rfl (fun _ _ _ h => h) (fun wx hS => ?_) (R35) ?_
  · exact WL.assign (v := U64 ((doM (a.op).toNat a.imm M.pc (M.x (a.rs1).toNat) (M.x (a.rs2).toNat)).1)) rfl rfl (WL.nil ⟨rfl, rfl, rfl⟩)
  refine WA.take (i := 12) (m' := 8191) (v := U64 ((doM (a.op).toNat a.imm M.pc (M.x (a.rs1).toNat) (M.x (a.rs2).toNat)).2)) rfl rfl rfl rfl (by kernel_rfl) rfl (fun _ _ _ h => h) (fun wx hS => ?_) (R35) ?_
  · exact WL.assign (v := U64 ((doM (a.op).toNat a.imm M.pc (M.x (a.rs1).toNat) (M.x (a.rs2).toNat)).2)) rfl rfl (WL.nil ⟨rfl, rfl, rfl⟩)
  refine WA.done (by kernel_rfl) ?_
  refine WC.seq (WC.region (WL.assign (v := .nilIface) rfl rfl (WL.nil (WC.seq (WC.seq (WC.region (WL.fieldAddr rfl fo48_0 rfl ?_)))))))
  have B42 := (((n3.blk).ext (ed_1)).ext (ed_2)).ext (edo)
  refine WL.load1 rfl ag5 (B42.cell (j := 0) rfl) rfl (WL.call ca68 (rfl) rfl (loads_spec a.op _ ho1 ho2) ?_)
  rintro v42 wlo ⟨hv42, elo⟩
  rw [hz] at hv42
  obtain rfl : v42 = .tuple #[IN 0, .bool false] := hv42
  have E43 : Ext w wlo := Mod.trans (E36) (elo)
  refine WL.move (v := .tuple #[IN 0, .bool false]) rfl rfl (WL.extract rfl rfl rfl (WL.extract rfl rfl rfl (WL.assign (v := IN (0)) rfl rfl (WL.assign (v := .bool (false)) rfl rfl (WL.nil (WC.block (WC.seq (WC.region (WL.move (v := IN (0)) rfl rfl ?_)))))))))
  refine WL.bin rfl rfl rfl (BinR.gtr) (WL.assign (v := .bool (decide ((0 : Int) < ((0 : Nat) : Int)))) rfl rfl (WL.nil (WC.condF (congrArg Value.bool (decide_eq_false (by omega))) (WC.seq (WC.region (WL.fieldAddr rfl fo48_0 rfl ?_))))))
  have B44 := (B42).ext (elo)
  refine WL.load1 rfl ag5 (B44.cell (j := 0) rfl) rfl (WL.bin (v := .bool (true)) rfl (vy := U8 (18#8)) rfl rfl (BinR.toB (BinR.geqU8) (by rw [hop]; rfl)) (WL.move (v := .bool (true)) rfl rfl (WL.guardT (rfl) (WL.fieldAddr rfl fo48_0 rfl (WL.guardT (rfl) (WL.load1 rfl ag5 (B44.cell (j := 0) rfl) rfl (WL.guardT (rfl) (WL.bin (v := .bool (true)) rfl (vy := U8 (21#8)) rfl rfl (BinR.toB (BinR.leqU8) (by rw [hop]; rfl)) (WL.pick (b := true) rfl rfl rfl ?_)))))))))
  refine WL.assign (v := .bool (true)) rfl rfl (WL.nil (WC.condT rfl (WC.region (WL.move (v := ptr b 0) rfl rfl (WL.move (v := U64 (M.x (a.rs1).toNat)) rfl rfl (WL.fieldAddr rfl fo48_4 rfl (WL.load1 rfl ag2 (B44.cell (j := 4) rfl) rfl (WL.conv rfl rfl (ConvR.i64u64 Tryz.underlying2 Tryz.underlying39) (WL.bin rfl rfl rfl (BinR.addU64) ?_)))))))))
  refine WL.fieldAddr rfl fo48_0 rfl (WL.load1 rfl ag5 (B44.cell (j := 0) rfl) rfl (WL.bin rfl (vy := U8 (18#8)) rfl rfl (BinR.subU8) (WL.bin (vx := I64 1#64) (vy := .int .u8 ((2 : Nat) : Int)) (v := I64 (1#64 <<< 2)) rfl (by show U8 (a.op - 18#8) = _; rw [hop]; rfl) rfl BinR.shl64 (WL.move (v := U64 (M.x (a.rs2).toNat)) rfl rfl ?_))))
  have t3 : T b3 = 0 := by rcases Nat.eq_zero_or_pos (T b3) with h | h; exact h; have := (ht.lt b3 (by omega)).1; have := n3.num; omega
  refine WL.call ca69 (rfl) rfl (store_ok T b M (M.x (a.rs1).toNat + a.imm) (M.x (a.rs2).toNat) 4 _ (hM0.ext (E43)) (by decide) (by decide) k off hw) ?_
  rintro _ wst ⟨rfl, T1, h1, m1, hs1⟩
  have hG1 : Glob wst := glob_turn (hG.ext (E43)) m1 (fun k h => (hM0.lt k h).2)
  have hX1 := Mod.cell m1 (Mod.cell (E43) hX (fun h => h)) (fun h => by have := (hM0.lt 3 h).2; omega)
  have h31 := (B44).mod m1 (fun h => h t3)
  have t31 := zero_of hs1 t3 (B44).lt
  have mw := (Mod.ext (O := Fp T) (E43)).trans m1
  have hs2 : ∀ k, T1 k ≠ 0 → T k ≠ 0 ∨ w.heap.size ≤ k := fun k h => by have := Mod.size (E43); rcases hs1 k h with h | h; exact .inl h; exact .inr (by omega)
  refine WL.assign (v := .nilIface) rfl rfl (WL.nil ?_)
  rw [hR]
  exact tail_go T1 b b3 (storeM M k off 4 (M.x (a.rs2).toNat)) a (doM (a.op).toNat a.imm M.pc (M.x (a.rs1).toNat) (M.x (a.rs2).toNat)).1 (doM (a.op).toNat a.imm M.pc (M.x (a.rs1).toNat) (M.x (a.rs2).toNat)).2 (.nilIface) none _ _ _ h1 rfl rfl rfl rfl rfl h31 t31 rfl hG1 hX1 rfl (fun e h => (by cases h)) ho1 ho2 hrd (fun w2 h2 m2 e2 => TurnE.then h2 mw m2 hs2 e2 (fun e h => by cases h))
set_option maxRecDepth 100000 in
theorem does_s21_0 (T : Nat → Nat) (b : Nat) (M : MS) (a : RvInst) (w : World) (hM : MR T w b M) (hG : Glob w) (hX : w.cell? ⟨3, 0, none⟩ = some (.iface 206 (.agg #[.pointer (some ⟨6, 83, none⟩)]))) (ho1 : 1 ≤ a.op.toNat) (ho2 : a.op.toNat < 66) (hr1 : (a.rs1).toNat < 32) (hr2 : (a.rs2).toNat < 32) (hrd : (a.rd).toNat < 32) (hz : loadsM a.op.toNat = (0, false)) (hop : a.op = 21#8) (hw : whereM M.n (M.x (a.rs1).toNat + a.imm) 8 = none) (hR : doesM M a = (M, some true)) : CallsR Tryz.prog 36 #[ptr b 0, .agg #[U8 (a.op), U8 (a.rd), U8 (a.rs1), U8 (a.rs2), I64 (a.imm)]] w (fun v w' => TurnE T w b (doesM M a).1 w' (doesM M a).2 v) := by
  have hM0 := hM
  obtain ⟨bq, sd, ss, cv, iv, ev, en, hb, ht⟩ := hM
  refine callsR_of Tryz.func36 rfl rfl rfl ?_
  refine WC.seq (WC.region (WL.box (v := .agg #[U8 (a.op), U8 (a.rd), U8 (a.rs1), U8 (a.rs2), I64 (a.imm)]) rfl rfl ?_))
  intro b3 w3 n3
  have E1 : Ext w w3 := Mod.trans (Mod.refl _ _) (n3.ext)
  refine WL.assign (v := .nilIface) rfl rfl (WL.nil (WC.seq (WC.draw (fun w_ => Ext w3 w_) 16 rfl mixed ?_)))
  intro wd_1 ed_1
  have R2 : Ext w3 wd_1 := Mod.trans (Mod.refl _ _) (ed_1)
  have E3 : Ext w wd_1 := Mod.trans (E1) (ed_1)
  refine WA.take (i := 0) (m' := 1) (v := ptr b 0) rfl rfl rfl rfl (by kernel_rfl) rfl (fun _ _ _ h => h) (fun wx hS => ?_) (R2) ?_
  · exact WL.move (v := ptr b 0) rfl rfl (WL.nil ⟨rfl, rfl, rfl⟩)
  refine WA.take (i := 1) (m' := 3) (v := ptr b3 2) rfl rfl rfl rfl (by kernel_rfl) rfl (fun _ _ _ h => h) (fun wx hS => ?_) (R2) ?_
  · exact WL.fieldAddr rfl fo48_2 rfl (WL.nil ⟨rfl, rfl, rfl⟩)
  refine WA.take (i := 2) (m' := 7) (v := U8 (a.rs1)) rfl rfl rfl rfl (by kernel_rfl) rfl (fun _ _ _ h => h) (fun wx hS => ?_) (R2) ?_
  · have B7 := (n3.blk).ext (hS)
    exact WL.load1 rfl ag5 (B7.cell (j := 2) rfl) rfl (WL.nil ⟨rfl, rfl, rfl⟩)
  refine WA.takeN (i := 3) (m' := 15) (v := ptr b 0) rfl rfl rfl rfl (by kernel_rfl) rfl (fun _ _ _ h => h) (fun wx hS => ?_) (R2) ?_
  · exact WL.nilCheck rfl rfl (WL.nil ⟨rfl, rfl, rfl⟩)
  refine WA.take (i := 4) (m' := 31) (v := ptr b 3) rfl rfl rfl rfl (by kernel_rfl) rfl (fun _ _ _ h => h) (fun wx hS => ?_) (R2) ?_
  · exact WL.fieldAddr rfl fo85_3 rfl (WL.nil ⟨rfl, rfl, rfl⟩)
  refine WA.take (i := 5) (m' := 63) (v := ptr b (3 + (a.rs1).toNat)) rfl rfl rfl rfl (by kernel_rfl) rfl (fun _ _ _ h => h) (fun wx hS => ?_) (R2) ?_
  · exact WL.indexArr1 (i := (a.rs1).toNat) ar68 sz39 rfl rfl hr1 rfl (WL.nil ⟨rfl, rfl, rfl⟩)
  refine WA.take (i := 6) (m' := 127) (v := U64 (M.x (a.rs1).toNat)) rfl rfl rfl rfl (by kernel_rfl) rfl (fun _ _ _ h => h) (fun wx hS => ?_) (R2) ?_
  · have B12 := ((hb).ext (n3.ext)).ext (hS)
    exact WL.load1 rfl ag39 (B12.cell (machCells_x _ _ _ _ _ _ _ _ hr1)) rfl (WL.nil ⟨rfl, rfl, rfl⟩)
  refine WA.take (i := 7) (m' := 255) (v := ptr b 0) rfl rfl rfl rfl (by kernel_rfl) rfl (fun _ _ _ h => h) (fun wx hS => ?_) (R2) ?_
  · exact WL.move (v := ptr b 0) rfl rfl (WL.nil ⟨rfl, rfl, rfl⟩)
  refine WA.take (i := 8) (m' := 511) (v := ptr b3 3) rfl rfl rfl rfl (by kernel_rfl) rfl (fun _ _ _ h => h) (fun wx hS => ?_) (R2) ?_
  · exact WL.fieldAddr rfl fo48_3 rfl (WL.nil ⟨rfl, rfl, rfl⟩)
  refine WA.take (i := 9) (m' := 1023) (v := U8 (a.rs2)) rfl rfl rfl rfl (by kernel_rfl) rfl (fun _ _ _ h => h) (fun wx hS => ?_) (R2) ?_
  · have B16 := (n3.blk).ext (hS)
    exact WL.load1 rfl ag5 (B16.cell (j := 3) rfl) rfl (WL.nil ⟨rfl, rfl, rfl⟩)
  refine WA.takeN (i := 10) (m' := 2047) (v := ptr b 0) rfl rfl rfl rfl (by kernel_rfl) rfl (fun _ _ _ h => h) (fun wx hS => ?_) (R2) ?_
  · exact WL.nilCheck rfl rfl (WL.nil ⟨rfl, rfl, rfl⟩)
  refine WA.take (i := 11) (m' := 4095) (v := ptr b 3) rfl rfl rfl rfl (by kernel_rfl) rfl (fun _ _ _ h => h) (fun wx hS => ?_) (R2) ?_
  · exact WL.fieldAddr rfl fo85_3 rfl (WL.nil ⟨rfl, rfl, rfl⟩)
  refine WA.take (i := 12) (m' := 8191) (v := ptr b (3 + (a.rs2).toNat)) rfl rfl rfl rfl (by kernel_rfl) rfl (fun _ _ _ h => h) (fun wx hS => ?_) (R2) ?_
  · exact WL.indexArr1 (i := (a.rs2).toNat) ar68 sz39 rfl rfl hr2 rfl (WL.nil ⟨rfl, rfl, rfl⟩)
  refine WA.take (i := 13) (m' := 16383) (v := U64 (M.x (a.rs2).toNat)) rfl rfl rfl rfl (by kernel_rfl) rfl (fun _ _ _ h => h) (fun wx hS => ?_) (R2) ?_
  · have B21 := ((hb).ext (n3.ext)).ext (hS)
    exact WL.load1 rfl ag39 (B21.cell (machCells_x _ _ _ _ _ _ _ _ hr2)) rfl (WL.nil ⟨rfl, rfl, rfl⟩)
  refine WA.take (i := 14) (m' := 32767) (v := U64 (M.x (a.rs1).toNat)) rfl rfl rfl rfl (by kernel_rfl) rfl (fun _ _ _ h => h) (fun wx hS => ?_) (R2) ?_
  · exact WL.assign (v := U64 (M.x (a.rs1).toNat)) rfl rfl (WL.nil ⟨rfl, rfl, rfl⟩)
  refine WA.take (i := 15) (m' := 65535) (v := U64 (M.x (a.rs2).toNat)) rfl rfl rfl rfl (by kernel_rfl) rfl (fun _ _ _ h => h) (fun wx hS => ?_) (R2) ?_
  · exact WL.assign (v := U64 (M.x (a.rs2).toNat)) rfl rfl (WL.nil ⟨rfl, rfl, rfl⟩)
  refine WA.done (by kernel_rfl) ?_
  refine WC.seq (WC.draw (fun w_ => Ext wd_1 w_) 13 rfl mixed ?_)
  intro wd_2 ed_2
  have R24 : Ext wd_1 wd_2 := Mod.trans (Mod.refl _ _) (ed_2)
  have E25 : Ext w wd_2 := Mod.trans (E3) (ed_2)
  refine WA.take (i := 0) (m' := 1) (v := .agg #[U8 (a.op), U8 (a.rd), U8 (a.rs1), U8 (a.rs2), I64 (a.imm)]) rfl rfl rfl rfl (by kernel_rfl) rfl (fun _ _ _ h => h) (fun wx hS => ?_) (R24) ?_
  · have B27 := ((n3.blk).ext (ed_1)).ext (hS)
    exact WL.loadS [U8 (a.op), U8 (a.rd), U8 (a.rs1), U8 (a.rs2), I64 (a.imm)] rfl ag48 sz48 rfl (B27.sub (o := 0) (vs := [U8 (a.op), U8 (a.rd), U8 (a.rs1), U8 (a.rs2), I64 (a.imm)]) rfl) rfl (WL.nil ⟨rfl, rfl, rfl⟩)
  refine WA.take (i := 1) (m' := 3) (v := ptr b 0) rfl rfl rfl rfl (by kernel_rfl) rfl (fun _ _ _ h => h) (fun wx hS => ?_) (R24) ?_
  · exact WL.move (v := ptr b 0) rfl rfl (WL.nil ⟨rfl, rfl, rfl⟩)
  refine WA.takeN (i := 2) (m' := 7) (v := ptr b 0) rfl rfl rfl rfl (by kernel_rfl) rfl (fun _ _ _ h => h) (fun wx hS => ?_) (R24) ?_
  · exact WL.nilCheck rfl rfl (WL.nil ⟨rfl, rfl, rfl⟩)
  refine WA.take (i := 3) (m' := 15) (v := ptr b 35) rfl rfl rfl rfl (by kernel_rfl) rfl (fun _ _ _ h => h) (fun wx hS => ?_) (R24) ?_
  · exact WL.fieldAddr rfl fo85_4 rfl (WL.nil ⟨rfl, rfl, rfl⟩)
  refine WA.take (i := 4) (m' := 31) (v := U64 (M.pc)) rfl rfl rfl rfl (by kernel_rfl) rfl (fun _ _ _ h => h) (fun wx hS => ?_) (R24) ?_
  · have B32 := (((hb).ext (n3.ext)).ext (ed_1)).ext (hS)
    exact WL.load1 rfl ag39 (B32.cell (j := 35) rfl) rfl (WL.nil ⟨rfl, rfl, rfl⟩)
  refine WA.take (i := 5) (m' := 63) (v := U64 (M.x (a.rs1).toNat)) rfl rfl rfl rfl (by kernel_rfl) rfl (fun _ _ _ h => h) (fun wx hS => ?_) (R24) ?_
  · exact WL.move (v := U64 (M.x (a.rs1).toNat)) rfl rfl (WL.nil ⟨rfl, rfl, rfl⟩)
  refine WA.take (i := 6) (m' := 127) (v := U64 (M.x (a.rs2).toNat)) rfl rfl rfl rfl (by kernel_rfl) rfl (fun _ _ _ h => h) (fun wx hS => ?_) (R24) ?_
  · exact WL.move (v := U64 (M.x (a.rs2).toNat)) rfl rfl (WL.nil ⟨rfl, rfl, rfl⟩)
  refine WA.one (i := 7) (m' := 255) (by kernel_rfl) rfl rfl ?_
  refine WL.call ca53 (rfl) rfl (do_spec a.op a.rd a.rs1 a.rs2 a.imm M.pc (M.x (a.rs1).toNat) (M.x (a.rs2).toNat) _ ho1 ho2) ?_
  rintro _ wdo ⟨rfl, edo⟩
  have R35 : Ext wd_1 wdo := Mod.trans (R24) (edo)
  have E36 : Ext w wdo := Mod.trans (E25) (edo)
  refine WL.behind (R35) ?_
  refine WA.take (i := 8) (m' := 511) (v := .tuple #[U64 (doM (a.op).toNat a.imm M.pc (M.x (a.rs1).toNat) (M.x (a.rs2).toNat)).1, U64 (doM (a.op).toNat a.imm M.pc (M.x (a.rs1).toNat) (M.x (a.rs2).toNat)).2]) rfl rfl rfl rfl (by kernel_rfl) rfl (fun _ _ _ h => h) (fun wx hS => ?_) (R35) ?_
  · exact WL.move (v := .tuple #[U64 (doM (a.op).toNat a.imm M.pc (M.x (a.rs1).toNat) (M.x (a.rs2).toNat)).1, U64 (doM (a.op).toNat a.imm M.pc (M.x (a.rs1).toNat) (M.x (a.rs2).toNat)).2]) rfl rfl (WL.nil ⟨rfl, rfl, rfl⟩)
  refine WA.take (i := 9) (m' := 1023) (v := U64 ((doM (a.op).toNat a.imm M.pc (M.x (a.rs1).toNat) (M.x (a.rs2).toNat)).1)) rfl rfl rfl rfl (by kernel_rfl) rfl (fun _ _ _ h => h) (fun wx hS => ?_) (R35) ?_
  · exact WL.extract rfl rfl rfl (WL.nil ⟨rfl, rfl, rfl⟩)
  refine WA.take (i := 10) (m' := 2047) (v := U64 ((doM (a.op).toNat a.imm M.pc (M.x (a.rs1).toNat) (M.x (a.rs2).toNat)).2)) rfl rfl rfl rfl (by kernel_rfl) rfl (fun _ _ _ h => h) (fun wx hS => ?_) (R35) ?_
  · exact WL.extract rfl rfl rfl (WL.nil ⟨rfl, rfl, rfl⟩)
  refine WA.take (i := 11) (m' := 4095) (v := U64 ((doM (a.op).toNat a.imm M.pc (M.x (a.rs1).toNat) (M.x (a.rs2).toNat)).1)) rfl rfl rfl rfl (by kernel_rfl) rfl (fun _ _ _ h => h) (fun wx hS => ?_) (R35) ?_
  · exact WL.assign (v := U64 ((doM (a.op).toNat a.imm M.pc (M.x (a.rs1).toNat) (M.x (a.rs2).toNat)).1)) rfl rfl (WL.nil ⟨rfl, rfl, rfl⟩)
  refine WA.take (i := 12) (m' := 8191) (v := U64 ((doM (a.op).toNat a.imm M.pc (M.x (a.rs1).toNat) (M.x (a.rs2).toNat)).2)) rfl rfl rfl rfl (by kernel_rfl) rfl (fun _ _ _ h => h) (fun wx hS => ?_) (R35) ?_
  · exact WL.assign (v := U64 ((doM (a.op).toNat a.imm M.pc (M.x (a.rs1).toNat) (M.x (a.rs2).toNat)).2)) rfl rfl (WL.nil ⟨rfl, rfl, rfl⟩)
  refine WA.done (by kernel_rfl) ?_
  refine WC.seq (WC.region (WL.assign (v := .nilIface) rfl rfl (WL.nil (WC.seq (WC.seq (WC.region (WL.fieldAddr rfl fo48_0 rfl ?_)))))))
  have B42 := (((n3.blk).ext (ed_1)).ext (ed_2)).ext (edo)
  refine WL.load1 rfl ag5 (B42.cell (j := 0) rfl) rfl (WL.call ca68 (rfl) rfl (loads_spec a.op _ ho1 ho2) ?_)
  rintro v42 wlo ⟨hv42, elo⟩
  rw [hz] at hv42
  obtain rfl : v42 = .tuple #[IN 0, .bool false] := hv42
  have E43 : Ext w wlo := Mod.trans (E36) (elo)
  refine WL.move (v := .tuple #[IN 0, .bool false]) rfl rfl (WL.extract rfl rfl rfl (WL.extract rfl rfl rfl (WL.assign (v := IN (0)) rfl rfl (WL.assign (v := .bool (false)) rfl rfl (WL.nil (WC.block (WC.seq (WC.region (WL.move (v := IN (0)) rfl rfl ?_)))))))))
  refine WL.bin rfl rfl rfl (BinR.gtr) (WL.assign (v := .bool (decide ((0 : Int) < ((0 : Nat) : Int)))) rfl rfl (WL.nil (WC.condF (congrArg Value.bool (decide_eq_false (by omega))) (WC.seq (WC.region (WL.fieldAddr rfl fo48_0 rfl ?_))))))
  have B44 := (B42).ext (elo)
  refine WL.load1 rfl ag5 (B44.cell (j := 0) rfl) rfl (WL.bin (v := .bool (true)) rfl (vy := U8 (18#8)) rfl rfl (BinR.toB (BinR.geqU8) (by rw [hop]; rfl)) (WL.move (v := .bool (true)) rfl rfl (WL.guardT (rfl) (WL.fieldAddr rfl fo48_0 rfl (WL.guardT (rfl) (WL.load1 rfl ag5 (B44.cell (j := 0) rfl) rfl (WL.guardT (rfl) (WL.bin (v := .bool (true)) rfl (vy := U8 (21#8)) rfl rfl (BinR.toB (BinR.leqU8) (by rw [hop]; rfl)) (WL.pick (b := true) rfl rfl rfl ?_)))))))))
  refine WL.assign (v := .bool (true)) rfl rfl (WL.nil (WC.condT rfl (WC.region (WL.move (v := ptr b 0) rfl rfl (WL.move (v := U64 (M.x (a.rs1).toNat)) rfl rfl (WL.fieldAddr rfl fo48_4 rfl (WL.load1 rfl ag2 (B44.cell (j := 4) rfl) rfl (WL.conv rfl rfl (ConvR.i64u64 Tryz.underlying2 Tryz.underlying39) (WL.bin rfl rfl rfl (BinR.addU64) ?_)))))))))
  refine WL.fieldAddr rfl fo48_0 rfl (WL.load1 rfl ag5 (B44.cell (j := 0) rfl) rfl (WL.bin rfl (vy := U8 (18#8)) rfl rfl (BinR.subU8) (WL.bin (vx := I64 1#64) (vy := .int .u8 ((3 : Nat) : Int)) (v := I64 (1#64 <<< 3)) rfl (by show U8 (a.op - 18#8) = _; rw [hop]; rfl) rfl BinR.shl64 (WL.move (v := U64 (M.x (a.rs2).toNat)) rfl rfl ?_))))
  have t3 : T b3 = 0 := by rcases Nat.eq_zero_or_pos (T b3) with h | h; exact h; have := (ht.lt b3 (by omega)).1; have := n3.num; omega
  refine WL.call ca69 (rfl) rfl (store_no T b M (M.x (a.rs1).toNat + a.imm) (M.x (a.rs2).toNat) 8 _ (hM0.ext (E43)) (by decide) (by decide) hw) ?_
  rintro _ wl ⟨⟨e, rfl, he, hle⟩, el⟩
  have hse := Mod.size (E43)
  have E45 : Ext w wl := Mod.trans (E43) (el)
  refine WL.assign (v := .iface 144 (ptr e 0)) rfl rfl (WL.nil ?_)
  rw [hR]
  have hEe : EndV wl (.iface 144 (ptr e 0)) (some true) := ⟨e, rfl, he⟩
  have B46 := (B44).ext (el)
  exact tail_trap T b b3 M a (doM (a.op).toNat a.imm M.pc (M.x (a.rs1).toNat) (M.x (a.rs2).toNat)).1 _ _ (some true) _ _ _ (hM0.ext (E45)) rfl rfl rfl rfl rfl B46 t3 hEe (hG.ext (E45)) (Mod.cell (E45) hX (fun h => h)) rfl (fun w2 e2 => turnE_same hM0 (Mod.trans (E45) e2) (hEe.mod e2 (fun _ _ h => h)) (fun k hk => by cases hk; omega))
set_option maxRecDepth 100000 in
theorem does_s21_1 (T : Nat → Nat) (b : Nat) (M : MS) (a : RvInst) (w : World) (hM : MR T w b M) (hG : Glob w) (hX : w.cell? ⟨3, 0, none⟩ = some (.iface 206 (.agg #[.pointer (some ⟨6, 83, none⟩)]))) (ho1 : 1 ≤ a.op.toNat) (ho2 : a.op.toNat < 66) (hr1 : (a.rs1).toNat < 32) (hr2 : (a.rs2).toNat < 32) (hrd : (a.rd).toNat < 32) (hz : loadsM a.op.toNat = (0, false)) (hop : a.op = 21#8) (k : Bool) (off : Nat) (hw : whereM M.n (M.x (a.rs1).toNat + a.imm) 8 = some (k, off)) (hR : doesM M a = (putM (storeM M k off 8 (M.x (a.rs2).toNat)) a (doM (a.op).toNat a.imm M.pc (M.x (a.rs1).toNat) (M.x (a.rs2).toNat)).1 (doM (a.op).toNat a.imm M.pc (M.x (a.rs1).toNat) (M.x (a.rs2).toNat)).2, none)) : CallsR Tryz.prog 36 #[ptr b 0, .agg #[U8 (a.op), U8 (a.rd), U8 (a.rs1), U8 (a.rs2), I64 (a.imm)]] w (fun v w' => TurnE T w b (doesM M a).1 w' (doesM M a).2 v) := by
  have hM0 := hM
  obtain ⟨bq, sd, ss, cv, iv, ev, en, hb, ht⟩ := hM
  refine callsR_of Tryz.func36 rfl rfl rfl ?_
  refine WC.seq (WC.region (WL.box (v := .agg #[U8 (a.op), U8 (a.rd), U8 (a.rs1), U8 (a.rs2), I64 (a.imm)]) rfl rfl ?_))
  intro b3 w3 n3
  have E1 : Ext w w3 := Mod.trans (Mod.refl _ _) (n3.ext)
  refine WL.assign (v := .nilIface) rfl rfl (WL.nil (WC.seq (WC.draw (fun w_ => Ext w3 w_) 16 rfl mixed ?_)))
  intro wd_1 ed_1
  have R2 : Ext w3 wd_1 := Mod.trans (Mod.refl _ _) (ed_1)
  have E3 : Ext w wd_1 := Mod.trans (E1) (ed_1)
  refine WA.take (i := 0) (m' := 1) (v := ptr b 0) rfl rfl rfl rfl (by kernel_rfl) rfl (fun _ _ _ h => h) (fun wx hS => ?_) (R2) ?_
  · exact WL.move (v := ptr b 0) rfl rfl (WL.nil ⟨rfl, rfl, rfl⟩)
  refine WA.take (i := 1) (m' := 3) (v := ptr b3 2) rfl rfl rfl rfl (by kernel_rfl) rfl (fun _ _ _ h => h) (fun wx hS => ?_) (R2) ?_
  · exact WL.fieldAddr rfl fo48_2 rfl (WL.nil ⟨rfl, rfl, rfl⟩)
  refine WA.take (i := 2) (m' := 7) (v := U8 (a.rs1)) rfl rfl rfl rfl (by kernel_rfl) rfl (fun _ _ _ h => h) (fun wx hS => ?_) (R2) ?_
  · have B7 := (n3.blk).ext (hS)
    exact WL.load1 rfl ag5 (B7.cell (j := 2) rfl) rfl (WL.nil ⟨rfl, rfl, rfl⟩)
  refine WA.takeN (i := 3) (m' := 15) (v := ptr b 0) rfl rfl rfl rfl (by kernel_rfl) rfl (fun _ _ _ h => h) (fun wx hS => ?_) (R2) ?_
  · exact WL.nilCheck rfl rfl (WL.nil ⟨rfl, rfl, rfl⟩)
  refine WA.take (i := 4) (m' := 31) (v := ptr b 3) rfl rfl rfl rfl (by kernel_rfl) rfl (fun _ _ _ h => h) (fun wx hS => ?_) (R2) ?_
  · exact WL.fieldAddr rfl fo85_3 rfl (WL.nil ⟨rfl, rfl, rfl⟩)
  refine WA.take (i := 5) (m' := 63) (v := ptr b (3 + (a.rs1).toNat)) rfl rfl rfl rfl (by kernel_rfl) rfl (fun _ _ _ h => h) (fun wx hS => ?_) (R2) ?_
  · exact WL.indexArr1 (i := (a.rs1).toNat) ar68 sz39 rfl rfl hr1 rfl (WL.nil ⟨rfl, rfl, rfl⟩)
  refine WA.take (i := 6) (m' := 127) (v := U64 (M.x (a.rs1).toNat)) rfl rfl rfl rfl (by kernel_rfl) rfl (fun _ _ _ h => h) (fun wx hS => ?_) (R2) ?_
  · have B12 := ((hb).ext (n3.ext)).ext (hS)
    exact WL.load1 rfl ag39 (B12.cell (machCells_x _ _ _ _ _ _ _ _ hr1)) rfl (WL.nil ⟨rfl, rfl, rfl⟩)
  refine WA.take (i := 7) (m' := 255) (v := ptr b 0) rfl rfl rfl rfl (by kernel_rfl) rfl (fun _ _ _ h => h) (fun wx hS => ?_) (R2) ?_
  · exact WL.move (v := ptr b 0) rfl rfl (WL.nil ⟨rfl, rfl, rfl⟩)
  refine WA.take (i := 8) (m' := 511) (v := ptr b3 3) rfl rfl rfl rfl (by kernel_rfl) rfl (fun _ _ _ h => h) (fun wx hS => ?_) (R2) ?_
  · exact WL.fieldAddr rfl fo48_3 rfl (WL.nil ⟨rfl, rfl, rfl⟩)
  refine WA.take (i := 9) (m' := 1023) (v := U8 (a.rs2)) rfl rfl rfl rfl (by kernel_rfl) rfl (fun _ _ _ h => h) (fun wx hS => ?_) (R2) ?_
  · have B16 := (n3.blk).ext (hS)
    exact WL.load1 rfl ag5 (B16.cell (j := 3) rfl) rfl (WL.nil ⟨rfl, rfl, rfl⟩)
  refine WA.takeN (i := 10) (m' := 2047) (v := ptr b 0) rfl rfl rfl rfl (by kernel_rfl) rfl (fun _ _ _ h => h) (fun wx hS => ?_) (R2) ?_
  · exact WL.nilCheck rfl rfl (WL.nil ⟨rfl, rfl, rfl⟩)
  refine WA.take (i := 11) (m' := 4095) (v := ptr b 3) rfl rfl rfl rfl (by kernel_rfl) rfl (fun _ _ _ h => h) (fun wx hS => ?_) (R2) ?_
  · exact WL.fieldAddr rfl fo85_3 rfl (WL.nil ⟨rfl, rfl, rfl⟩)
  refine WA.take (i := 12) (m' := 8191) (v := ptr b (3 + (a.rs2).toNat)) rfl rfl rfl rfl (by kernel_rfl) rfl (fun _ _ _ h => h) (fun wx hS => ?_) (R2) ?_
  · exact WL.indexArr1 (i := (a.rs2).toNat) ar68 sz39 rfl rfl hr2 rfl (WL.nil ⟨rfl, rfl, rfl⟩)
  refine WA.take (i := 13) (m' := 16383) (v := U64 (M.x (a.rs2).toNat)) rfl rfl rfl rfl (by kernel_rfl) rfl (fun _ _ _ h => h) (fun wx hS => ?_) (R2) ?_
  · have B21 := ((hb).ext (n3.ext)).ext (hS)
    exact WL.load1 rfl ag39 (B21.cell (machCells_x _ _ _ _ _ _ _ _ hr2)) rfl (WL.nil ⟨rfl, rfl, rfl⟩)
  refine WA.take (i := 14) (m' := 32767) (v := U64 (M.x (a.rs1).toNat)) rfl rfl rfl rfl (by kernel_rfl) rfl (fun _ _ _ h => h) (fun wx hS => ?_) (R2) ?_
  · exact WL.assign (v := U64 (M.x (a.rs1).toNat)) rfl rfl (WL.nil ⟨rfl, rfl, rfl⟩)
  refine WA.take (i := 15) (m' := 65535) (v := U64 (M.x (a.rs2).toNat)) rfl rfl rfl rfl (by kernel_rfl) rfl (fun _ _ _ h => h) (fun wx hS => ?_) (R2) ?_
  · exact WL.assign (v := U64 (M.x (a.rs2).toNat)) rfl rfl (WL.nil ⟨rfl, rfl, rfl⟩)
  refine WA.done (by kernel_rfl) ?_
  refine WC.seq (WC.draw (fun w_ => Ext wd_1 w_) 13 rfl mixed ?_)
  intro wd_2 ed_2
  have R24 : Ext wd_1 wd_2 := Mod.trans (Mod.refl _ _) (ed_2)
  have E25 : Ext w wd_2 := Mod.trans (E3) (ed_2)
  refine WA.take (i := 0) (m' := 1) (v := .agg #[U8 (a.op), U8 (a.rd), U8 (a.rs1), U8 (a.rs2), I64 (a.imm)]) rfl rfl rfl rfl (by kernel_rfl) rfl (fun _ _ _ h => h) (fun wx hS => ?_) (R24) ?_
  · have B27 := ((n3.blk).ext (ed_1)).ext (hS)
    exact WL.loadS [U8 (a.op), U8 (a.rd), U8 (a.rs1), U8 (a.rs2), I64 (a.imm)] rfl ag48 sz48 rfl (B27.sub (o := 0) (vs := [U8 (a.op), U8 (a.rd), U8 (a.rs1), U8 (a.rs2), I64 (a.imm)]) rfl) rfl (WL.nil ⟨rfl, rfl, rfl⟩)
  refine WA.take (i := 1) (m' := 3) (v := ptr b 0) rfl rfl rfl rfl (by kernel_rfl) rfl (fun _ _ _ h => h) (fun wx hS => ?_) (R24) ?_
  · exact WL.move (v := ptr b 0) rfl rfl (WL.nil ⟨rfl, rfl, rfl⟩)
  refine WA.takeN (i := 2) (m' := 7) (v := ptr b 0) rfl rfl rfl rfl (by kernel_rfl) rfl (fun _ _ _ h => h) (fun wx hS => ?_) (R24) ?_
  · exact WL.nilCheck rfl rfl (WL.nil ⟨rfl, rfl, rfl⟩)
  refine WA.take (i := 3) (m' := 15) (v := ptr b 35) rfl rfl rfl rfl (by kernel_rfl) rfl (fun _ _ _ h => h) (fun wx hS => ?_) (R24) ?_
  · exact WL.fieldAddr rfl fo85_4 rfl (WL.nil ⟨rfl, rfl, rfl⟩)
  refine WA.take (i := 4) (m' := 31) (v := U64 (M.pc)) rfl rfl rfl rfl (by kernel_rfl) rfl (fun _ _ _ h => h) (fun wx hS => ?_) (R24) ?_
  · have B32 := (((hb).ext (n3.ext)).ext (ed_1)).ext (hS)
    exact WL.load1 rfl ag39 (B32.cell (j := 35) rfl) rfl (WL.nil ⟨rfl, rfl, rfl⟩)
  refine WA.take (i := 5) (m' := 63) (v := U64 (M.x (a.rs1).toNat)) rfl rfl rfl rfl (by kernel_rfl) rfl (fun _ _ _ h => h) (fun wx hS => ?_) (R24) ?_
  · exact WL.move (v := U64 (M.x (a.rs1).toNat)) rfl rfl (WL.nil ⟨rfl, rfl, rfl⟩)
  refine WA.take (i := 6) (m' := 127) (v := U64 (M.x (a.rs2).toNat)) rfl rfl rfl rfl (by kernel_rfl) rfl (fun _ _ _ h => h) (fun wx hS => ?_) (R24) ?_
  · exact WL.move (v := U64 (M.x (a.rs2).toNat)) rfl rfl (WL.nil ⟨rfl, rfl, rfl⟩)
  refine WA.one (i := 7) (m' := 255) (by kernel_rfl) rfl rfl ?_
  refine WL.call ca53 (rfl) rfl (do_spec a.op a.rd a.rs1 a.rs2 a.imm M.pc (M.x (a.rs1).toNat) (M.x (a.rs2).toNat) _ ho1 ho2) ?_
  rintro _ wdo ⟨rfl, edo⟩
  have R35 : Ext wd_1 wdo := Mod.trans (R24) (edo)
  have E36 : Ext w wdo := Mod.trans (E25) (edo)
  refine WL.behind (R35) ?_
  refine WA.take (i := 8) (m' := 511) (v := .tuple #[U64 (doM (a.op).toNat a.imm M.pc (M.x (a.rs1).toNat) (M.x (a.rs2).toNat)).1, U64 (doM (a.op).toNat a.imm M.pc (M.x (a.rs1).toNat) (M.x (a.rs2).toNat)).2]) rfl rfl rfl rfl (by kernel_rfl) rfl (fun _ _ _ h => h) (fun wx hS => ?_) (R35) ?_
  · exact WL.move (v := .tuple #[U64 (doM (a.op).toNat a.imm M.pc (M.x (a.rs1).toNat) (M.x (a.rs2).toNat)).1, U64 (doM (a.op).toNat a.imm M.pc (M.x (a.rs1).toNat) (M.x (a.rs2).toNat)).2]) rfl rfl (WL.nil ⟨rfl, rfl, rfl⟩)
  refine WA.take (i := 9) (m' := 1023) (v := U64 ((doM (a.op).toNat a.imm M.pc (M.x (a.rs1).toNat) (M.x (a.rs2).toNat)).1)) rfl rfl rfl rfl (by kernel_rfl) rfl (fun _ _ _ h => h) (fun wx hS => ?_) (R35) ?_
  · exact WL.extract rfl rfl rfl (WL.nil ⟨rfl, rfl, rfl⟩)
  refine WA.take (i := 10) (m' := 2047) (v := U64 ((doM (a.op).toNat a.imm M.pc (M.x (a.rs1).toNat) (M.x (a.rs2).toNat)).2)) rfl rfl rfl rfl (by kernel_rfl) rfl (fun _ _ _ h => h) (fun wx hS => ?_) (R35) ?_
  · exact WL.extract rfl rfl rfl (WL.nil ⟨rfl, rfl, rfl⟩)
  refine WA.take (i := 11) (m' := 4095) (v := U64 ((doM (a.op).toNat a.imm M.pc (M.x (a.rs1).toNat) (M.x (a.rs2).toNat)).1)) rfl rfl rfl rfl (by kernel_rfl) rfl (fun _ _ _ h => h) (fun wx hS => ?_) (R35) ?_
  · exact WL.assign (v := U64 ((doM (a.op).toNat a.imm M.pc (M.x (a.rs1).toNat) (M.x (a.rs2).toNat)).1)) rfl rfl (WL.nil ⟨rfl, rfl, rfl⟩)
  refine WA.take (i := 12) (m' := 8191) (v := U64 ((doM (a.op).toNat a.imm M.pc (M.x (a.rs1).toNat) (M.x (a.rs2).toNat)).2)) rfl rfl rfl rfl (by kernel_rfl) rfl (fun _ _ _ h => h) (fun wx hS => ?_) (R35) ?_
  · exact WL.assign (v := U64 ((doM (a.op).toNat a.imm M.pc (M.x (a.rs1).toNat) (M.x (a.rs2).toNat)).2)) rfl rfl (WL.nil ⟨rfl, rfl, rfl⟩)
  refine WA.done (by kernel_rfl) ?_
  refine WC.seq (WC.region (WL.assign (v := .nilIface) rfl rfl (WL.nil (WC.seq (WC.seq (WC.region (WL.fieldAddr rfl fo48_0 rfl ?_)))))))
  have B42 := (((n3.blk).ext (ed_1)).ext (ed_2)).ext (edo)
  refine WL.load1 rfl ag5 (B42.cell (j := 0) rfl) rfl (WL.call ca68 (rfl) rfl (loads_spec a.op _ ho1 ho2) ?_)
  rintro v42 wlo ⟨hv42, elo⟩
  rw [hz] at hv42
  obtain rfl : v42 = .tuple #[IN 0, .bool false] := hv42
  have E43 : Ext w wlo := Mod.trans (E36) (elo)
  refine WL.move (v := .tuple #[IN 0, .bool false]) rfl rfl (WL.extract rfl rfl rfl (WL.extract rfl rfl rfl (WL.assign (v := IN (0)) rfl rfl (WL.assign (v := .bool (false)) rfl rfl (WL.nil (WC.block (WC.seq (WC.region (WL.move (v := IN (0)) rfl rfl ?_)))))))))
  refine WL.bin rfl rfl rfl (BinR.gtr) (WL.assign (v := .bool (decide ((0 : Int) < ((0 : Nat) : Int)))) rfl rfl (WL.nil (WC.condF (congrArg Value.bool (decide_eq_false (by omega))) (WC.seq (WC.region (WL.fieldAddr rfl fo48_0 rfl ?_))))))
  have B44 := (B42).ext (elo)
  refine WL.load1 rfl ag5 (B44.cell (j := 0) rfl) rfl (WL.bin (v := .bool (true)) rfl (vy := U8 (18#8)) rfl rfl (BinR.toB (BinR.geqU8) (by rw [hop]; rfl)) (WL.move (v := .bool (true)) rfl rfl (WL.guardT (rfl) (WL.fieldAddr rfl fo48_0 rfl (WL.guardT (rfl) (WL.load1 rfl ag5 (B44.cell (j := 0) rfl) rfl (WL.guardT (rfl) (WL.bin (v := .bool (true)) rfl (vy := U8 (21#8)) rfl rfl (BinR.toB (BinR.leqU8) (by rw [hop]; rfl)) (WL.pick (b := true) rfl rfl rfl ?_)))))))))
  refine WL.assign (v := .bool (true)) rfl rfl (WL.nil (WC.condT rfl (WC.region (WL.move (v := ptr b 0) rfl rfl (WL.move (v := U64 (M.x (a.rs1).toNat)) rfl rfl (WL.fieldAddr rfl fo48_4 rfl (WL.load1 rfl ag2 (B44.cell (j := 4) rfl) rfl (WL.conv rfl rfl (ConvR.i64u64 Tryz.underlying2 Tryz.underlying39) (WL.bin rfl rfl rfl (BinR.addU64) ?_)))))))))
  refine WL.fieldAddr rfl fo48_0 rfl (WL.load1 rfl ag5 (B44.cell (j := 0) rfl) rfl (WL.bin rfl (vy := U8 (18#8)) rfl rfl (BinR.subU8) (WL.bin (vx := I64 1#64) (vy := .int .u8 ((3 : Nat) : Int)) (v := I64 (1#64 <<< 3)) rfl (by show U8 (a.op - 18#8) = _; rw [hop]; rfl) rfl BinR.shl64 (WL.move (v := U64 (M.x (a.rs2).toNat)) rfl rfl ?_))))
  have t3 : T b3 = 0 := by rcases Nat.eq_zero_or_pos (T b3) with h | h; exact h; have := (ht.lt b3 (by omega)).1; have := n3.num; omega
  refine WL.call ca69 (rfl) rfl (store_ok T b M (M.x (a.rs1).toNat + a.imm) (M.x (a.rs2).toNat) 8 _ (hM0.ext (E43)) (by decide) (by decide) k off hw) ?_
  rintro _ wst ⟨rfl, T1, h1, m1, hs1⟩
  have hG1 : Glob wst := glob_turn (hG.ext (E43)) m1 (fun k h => (hM0.lt k h).2)
  have hX1 := Mod.cell m1 (Mod.cell (E43) hX (fun h => h)) (fun h => by have := (hM0.lt 3 h).2; omega)
  have h31 := (B44).mod m1 (fun h => h t3)
  have t31 := zero_of hs1 t3 (B44).lt
  have mw := (Mod.ext (O := Fp T) (E43)).trans m1
  have hs2 : ∀ k, T1 k ≠ 0 → T k ≠ 0 ∨ w.heap.size ≤ k := fun k h => by have := Mod.size (E43); rcases hs1 k h with h | h; exact .inl h; exact .inr (by omega)
  refine WL.assign (v := .nilIface) rfl rfl (WL.nil ?_)
  rw [hR]
  exact tail_go T1 b b3 (storeM M k off 8 (M.x (a.rs2).toNat)) a (doM (a.op).toNat a.imm M.pc (M.x (a.rs1).toNat) (M.x (a.rs2).toNat)).1 (doM (a.op).toNat a.imm M.pc (M.x (a.rs1).toNat) (M.x (a.rs2).toNat)).2 (.nilIface) none _ _ _ h1 rfl rfl rfl rfl rfl h31 t31 rfl hG1 hX1 rfl (fun e h => (by cases h)) ho1 ho2 hrd (fun w2 h2 m2 e2 => TurnE.then h2 mw m2 hs2 e2 (fun e h => by cases h))
set_option maxRecDepth 100000 in
theorem does_e1 (T : Nat → Nat) (b : Nat) (M : MS) (a : RvInst) (w : World) (hM : MR T w b M) (hG : Glob w) (hX : w.cell? ⟨3, 0, none⟩ = some (.iface 206 (.agg #[.pointer (some ⟨6, 83, none⟩)]))) (ho1 : 1 ≤ a.op.toNat) (ho2 : a.op.toNat < 66) (hr1 : (a.rs1).toNat < 32) (hr2 : (a.rs2).toNat < 32) (hrd : (a.rd).toNat < 32) (hz : loadsM a.op.toNat = (0, false)) (hop : a.op = 64#8) (hev : M.events.length < 8796093022208) (ho : ((callsM M).2 == some true) = true) (hR : doesM M a = ((callsM M).1, (callsM M).2)) : CallsR Tryz.prog 36 #[ptr b 0, .agg #[U8 (a.op), U8 (a.rd), U8 (a.rs1), U8 (a.rs2), I64 (a.imm)]] w (fun v w' => TurnE T w b (doesM M a).1 w' (doesM M a).2 v) := by
  have hM0 := hM
  obtain ⟨bq, sd, ss, cv, iv, ev, en, hb, ht⟩ := hM
  refine callsR_of Tryz.func36 rfl rfl rfl ?_
  refine WC.seq (WC.region (WL.box (v := .agg #[U8 (a.op), U8 (a.rd), U8 (a.rs1), U8 (a.rs2), I64 (a.imm)]) rfl rfl ?_))
  intro b3 w3 n3
  have E1 : Ext w w3 := Mod.trans (Mod.refl _ _) (n3.ext)
  refine WL.assign (v := .nilIface) rfl rfl (WL.nil (WC.seq (WC.draw (fun w_ => Ext w3 w_) 16 rfl mixed ?_)))
  intro wd_1 ed_1
  have R2 : Ext w3 wd_1 := Mod.trans (Mod.refl _ _) (ed_1)
  have E3 : Ext w wd_1 := Mod.trans (E1) (ed_1)
  refine WA.take (i := 0) (m' := 1) (v := ptr b 0) rfl rfl rfl rfl (by kernel_rfl) rfl (fun _ _ _ h => h) (fun wx hS => ?_) (R2) ?_
  · exact WL.move (v := ptr b 0) rfl rfl (WL.nil ⟨rfl, rfl, rfl⟩)
  refine WA.take (i := 1) (m' := 3) (v := ptr b3 2) rfl rfl rfl rfl (by kernel_rfl) rfl (fun _ _ _ h => h) (fun wx hS => ?_) (R2) ?_
  · exact WL.fieldAddr rfl fo48_2 rfl (WL.nil ⟨rfl, rfl, rfl⟩)
  refine WA.take (i := 2) (m' := 7) (v := U8 (a.rs1)) rfl rfl rfl rfl (by kernel_rfl) rfl (fun _ _ _ h => h) (fun wx hS => ?_) (R2) ?_
  · have B7 := (n3.blk).ext (hS)
    exact WL.load1 rfl ag5 (B7.cell (j := 2) rfl) rfl (WL.nil ⟨rfl, rfl, rfl⟩)
  refine WA.takeN (i := 3) (m' := 15) (v := ptr b 0) rfl rfl rfl rfl (by kernel_rfl) rfl (fun _ _ _ h => h) (fun wx hS => ?_) (R2) ?_
  · exact WL.nilCheck rfl rfl (WL.nil ⟨rfl, rfl, rfl⟩)
  refine WA.take (i := 4) (m' := 31) (v := ptr b 3) rfl rfl rfl rfl (by kernel_rfl) rfl (fun _ _ _ h => h) (fun wx hS => ?_) (R2) ?_
  · exact WL.fieldAddr rfl fo85_3 rfl (WL.nil ⟨rfl, rfl, rfl⟩)
  refine WA.take (i := 5) (m' := 63) (v := ptr b (3 + (a.rs1).toNat)) rfl rfl rfl rfl (by kernel_rfl) rfl (fun _ _ _ h => h) (fun wx hS => ?_) (R2) ?_
  · exact WL.indexArr1 (i := (a.rs1).toNat) ar68 sz39 rfl rfl hr1 rfl (WL.nil ⟨rfl, rfl, rfl⟩)
  refine WA.take (i := 6) (m' := 127) (v := U64 (M.x (a.rs1).toNat)) rfl rfl rfl rfl (by kernel_rfl) rfl (fun _ _ _ h => h) (fun wx hS => ?_) (R2) ?_
  · have B12 := ((hb).ext (n3.ext)).ext (hS)
    exact WL.load1 rfl ag39 (B12.cell (machCells_x _ _ _ _ _ _ _ _ hr1)) rfl (WL.nil ⟨rfl, rfl, rfl⟩)
  refine WA.take (i := 7) (m' := 255) (v := ptr b 0) rfl rfl rfl rfl (by kernel_rfl) rfl (fun _ _ _ h => h) (fun wx hS => ?_) (R2) ?_
  · exact WL.move (v := ptr b 0) rfl rfl (WL.nil ⟨rfl, rfl, rfl⟩)
  refine WA.take (i := 8) (m' := 511) (v := ptr b3 3) rfl rfl rfl rfl (by kernel_rfl) rfl (fun _ _ _ h => h) (fun wx hS => ?_) (R2) ?_
  · exact WL.fieldAddr rfl fo48_3 rfl (WL.nil ⟨rfl, rfl, rfl⟩)
  refine WA.take (i := 9) (m' := 1023) (v := U8 (a.rs2)) rfl rfl rfl rfl (by kernel_rfl) rfl (fun _ _ _ h => h) (fun wx hS => ?_) (R2) ?_
  · have B16 := (n3.blk).ext (hS)
    exact WL.load1 rfl ag5 (B16.cell (j := 3) rfl) rfl (WL.nil ⟨rfl, rfl, rfl⟩)
  refine WA.takeN (i := 10) (m' := 2047) (v := ptr b 0) rfl rfl rfl rfl (by kernel_rfl) rfl (fun _ _ _ h => h) (fun wx hS => ?_) (R2) ?_
  · exact WL.nilCheck rfl rfl (WL.nil ⟨rfl, rfl, rfl⟩)
  refine WA.take (i := 11) (m' := 4095) (v := ptr b 3) rfl rfl rfl rfl (by kernel_rfl) rfl (fun _ _ _ h => h) (fun wx hS => ?_) (R2) ?_
  · exact WL.fieldAddr rfl fo85_3 rfl (WL.nil ⟨rfl, rfl, rfl⟩)
  refine WA.take (i := 12) (m' := 8191) (v := ptr b (3 + (a.rs2).toNat)) rfl rfl rfl rfl (by kernel_rfl) rfl (fun _ _ _ h => h) (fun wx hS => ?_) (R2) ?_
  · exact WL.indexArr1 (i := (a.rs2).toNat) ar68 sz39 rfl rfl hr2 rfl (WL.nil ⟨rfl, rfl, rfl⟩)
  refine WA.take (i := 13) (m' := 16383) (v := U64 (M.x (a.rs2).toNat)) rfl rfl rfl rfl (by kernel_rfl) rfl (fun _ _ _ h => h) (fun wx hS => ?_) (R2) ?_
  · have B21 := ((hb).ext (n3.ext)).ext (hS)
    exact WL.load1 rfl ag39 (B21.cell (machCells_x _ _ _ _ _ _ _ _ hr2)) rfl (WL.nil ⟨rfl, rfl, rfl⟩)
  refine WA.take (i := 14) (m' := 32767) (v := U64 (M.x (a.rs1).toNat)) rfl rfl rfl rfl (by kernel_rfl) rfl (fun _ _ _ h => h) (fun wx hS => ?_) (R2) ?_
  · exact WL.assign (v := U64 (M.x (a.rs1).toNat)) rfl rfl (WL.nil ⟨rfl, rfl, rfl⟩)
  refine WA.take (i := 15) (m' := 65535) (v := U64 (M.x (a.rs2).toNat)) rfl rfl rfl rfl (by kernel_rfl) rfl (fun _ _ _ h => h) (fun wx hS => ?_) (R2) ?_
  · exact WL.assign (v := U64 (M.x (a.rs2).toNat)) rfl rfl (WL.nil ⟨rfl, rfl, rfl⟩)
  refine WA.done (by kernel_rfl) ?_
  refine WC.seq (WC.draw (fun w_ => Ext wd_1 w_) 13 rfl mixed ?_)
  intro wd_2 ed_2
  have R24 : Ext wd_1 wd_2 := Mod.trans (Mod.refl _ _) (ed_2)
  have E25 : Ext w wd_2 := Mod.trans (E3) (ed_2)
  refine WA.take (i := 0) (m' := 1) (v := .agg #[U8 (a.op), U8 (a.rd), U8 (a.rs1), U8 (a.rs2), I64 (a.imm)]) rfl rfl rfl rfl (by kernel_rfl) rfl (fun _ _ _ h => h) (fun wx hS => ?_) (R24) ?_
  · have B27 := ((n3.blk).ext (ed_1)).ext (hS)
    exact WL.loadS [U8 (a.op), U8 (a.rd), U8 (a.rs1), U8 (a.rs2), I64 (a.imm)] rfl ag48 sz48 rfl (B27.sub (o := 0) (vs := [U8 (a.op), U8 (a.rd), U8 (a.rs1), U8 (a.rs2), I64 (a.imm)]) rfl) rfl (WL.nil ⟨rfl, rfl, rfl⟩)
  refine WA.take (i := 1) (m' := 3) (v := ptr b 0) rfl rfl rfl rfl (by kernel_rfl) rfl (fun _ _ _ h => h) (fun wx hS => ?_) (R24) ?_
  · exact WL.move (v := ptr b 0) rfl rfl (WL.nil ⟨rfl, rfl, rfl⟩)
  refine WA.takeN (i := 2) (m' := 7) (v := ptr b 0) rfl rfl rfl rfl (by kernel_rfl) rfl (fun _ _ _ h => h) (fun wx hS => ?_) (R24) ?_
  · exact WL.nilCheck rfl rfl (WL.nil ⟨rfl, rfl, rfl⟩)
  refine WA.take (i := 3) (m' := 15) (v := ptr b 35) rfl rfl rfl rfl (by kernel_rfl) rfl (fun _ _ _ h => h) (fun wx hS => ?_) (R24) ?_
  · exact WL.fieldAddr rfl fo85_4 rfl (WL.nil ⟨rfl, rfl, rfl⟩)
  refine WA.take (i := 4) (m' := 31) (v := U64 (M.pc)) rfl rfl rfl rfl (by kernel_rfl) rfl (fun _ _ _ h => h) (fun wx hS => ?_) (R24) ?_
  · have B32 := (((hb).ext (n3.ext)).ext (ed_1)).ext (hS)
    exact WL.load1 rfl ag39 (B32.cell (j := 35) rfl) rfl (WL.nil ⟨rfl, rfl, rfl⟩)
  refine WA.take (i := 5) (m' := 63) (v := U64 (M.x (a.rs1).toNat)) rfl rfl rfl rfl (by kernel_rfl) rfl (fun _ _ _ h => h) (fun wx hS => ?_) (R24) ?_
  · exact WL.move (v := U64 (M.x (a.rs1).toNat)) rfl rfl (WL.nil ⟨rfl, rfl, rfl⟩)
  refine WA.take (i := 6) (m' := 127) (v := U64 (M.x (a.rs2).toNat)) rfl rfl rfl rfl (by kernel_rfl) rfl (fun _ _ _ h => h) (fun wx hS => ?_) (R24) ?_
  · exact WL.move (v := U64 (M.x (a.rs2).toNat)) rfl rfl (WL.nil ⟨rfl, rfl, rfl⟩)
  refine WA.one (i := 7) (m' := 255) (by kernel_rfl) rfl rfl ?_
  refine WL.call ca53 (rfl) rfl (do_spec a.op a.rd a.rs1 a.rs2 a.imm M.pc (M.x (a.rs1).toNat) (M.x (a.rs2).toNat) _ ho1 ho2) ?_
  rintro _ wdo ⟨rfl, edo⟩
  have R35 : Ext wd_1 wdo := Mod.trans (R24) (edo)
  have E36 : Ext w wdo := Mod.trans (E25) (edo)
  refine WL.behind (R35) ?_
  refine WA.take (i := 8) (m' := 511) (v := .tuple #[U64 (doM (a.op).toNat a.imm M.pc (M.x (a.rs1).toNat) (M.x (a.rs2).toNat)).1, U64 (doM (a.op).toNat a.imm M.pc (M.x (a.rs1).toNat) (M.x (a.rs2).toNat)).2]) rfl rfl rfl rfl (by kernel_rfl) rfl (fun _ _ _ h => h) (fun wx hS => ?_) (R35) ?_
  · exact WL.move (v := .tuple #[U64 (doM (a.op).toNat a.imm M.pc (M.x (a.rs1).toNat) (M.x (a.rs2).toNat)).1, U64 (doM (a.op).toNat a.imm M.pc (M.x (a.rs1).toNat) (M.x (a.rs2).toNat)).2]) rfl rfl (WL.nil ⟨rfl, rfl, rfl⟩)
  refine WA.take (i := 9) (m' := 1023) (v := U64 ((doM (a.op).toNat a.imm M.pc (M.x (a.rs1).toNat) (M.x (a.rs2).toNat)).1)) rfl rfl rfl rfl (by kernel_rfl) rfl (fun _ _ _ h => h) (fun wx hS => ?_) (R35) ?_
  · exact WL.extract rfl rfl rfl (WL.nil ⟨rfl, rfl, rfl⟩)
  refine WA.take (i := 10) (m' := 2047) (v := U64 ((doM (a.op).toNat a.imm M.pc (M.x (a.rs1).toNat) (M.x (a.rs2).toNat)).2)) rfl rfl rfl rfl (by kernel_rfl) rfl (fun _ _ _ h => h) (fun wx hS => ?_) (R35) ?_
  · exact WL.extract rfl rfl rfl (WL.nil ⟨rfl, rfl, rfl⟩)
  refine WA.take (i := 11) (m' := 4095) (v := U64 ((doM (a.op).toNat a.imm M.pc (M.x (a.rs1).toNat) (M.x (a.rs2).toNat)).1)) rfl rfl rfl rfl (by kernel_rfl) rfl (fun _ _ _ h => h) (fun wx hS => ?_) (R35) ?_
  · exact WL.assign (v := U64 ((doM (a.op).toNat a.imm M.pc (M.x (a.rs1).toNat) (M.x (a.rs2).toNat)).1)) rfl rfl (WL.nil ⟨rfl, rfl, rfl⟩)
  refine WA.take (i := 12) (m' := 8191) (v := U64 ((doM (a.op).toNat a.imm M.pc (M.x (a.rs1).toNat) (M.x (a.rs2).toNat)).2)) rfl rfl rfl rfl (by kernel_rfl) rfl (fun _ _ _ h => h) (fun wx hS => ?_) (R35) ?_
  · exact WL.assign (v := U64 ((doM (a.op).toNat a.imm M.pc (M.x (a.rs1).toNat) (M.x (a.rs2).toNat)).2)) rfl rfl (WL.nil ⟨rfl, rfl, rfl⟩)
  refine WA.done (by kernel_rfl) ?_
  refine WC.seq (WC.region (WL.assign (v := .nilIface) rfl rfl (WL.nil (WC.seq (WC.seq (WC.region (WL.fieldAddr rfl fo48_0 rfl ?_)))))))
  have B42 := (((n3.blk).ext (ed_1)).ext (ed_2)).ext (edo)
  refine WL.load1 rfl ag5 (B42.cell (j := 0) rfl) rfl (WL.call ca68 (rfl) rfl (loads_spec a.op _ ho1 ho2) ?_)
  rintro v42 wlo ⟨hv42, elo⟩
  rw [hz] at hv42
  obtain rfl : v42 = .tuple #[IN 0, .bool false] := hv42
  have E43 : Ext w wlo := Mod.trans (E36) (elo)
  refine WL.move (v := .tuple #[IN 0, .bool false]) rfl rfl (WL.extract rfl rfl rfl (WL.extract rfl rfl rfl (WL.assign (v := IN (0)) rfl rfl (WL.assign (v := .bool (false)) rfl rfl (WL.nil (WC.block (WC.seq (WC.region (WL.move (v := IN (0)) rfl rfl ?_)))))))))
  refine WL.bin rfl rfl rfl (BinR.gtr) (WL.assign (v := .bool (decide ((0 : Int) < ((0 : Nat) : Int)))) rfl rfl (WL.nil (WC.condF (congrArg Value.bool (decide_eq_false (by omega))) (WC.seq (WC.region (WL.fieldAddr rfl fo48_0 rfl ?_))))))
  have B44 := (B42).ext (elo)
  refine WL.load1 rfl ag5 (B44.cell (j := 0) rfl) rfl (WL.bin (v := .bool (true)) rfl (vy := U8 (18#8)) rfl rfl (BinR.toB (BinR.geqU8) (by rw [hop]; rfl)) (WL.move (v := .bool (true)) rfl rfl (WL.guardT (rfl) (WL.fieldAddr rfl fo48_0 rfl (WL.guardT (rfl) (WL.load1 rfl ag5 (B44.cell (j := 0) rfl) rfl (WL.guardT (rfl) (WL.bin (v := .bool (false)) rfl (vy := U8 (21#8)) rfl rfl (BinR.toB (BinR.leqU8) (by rw [hop]; rfl)) (WL.pick (b := true) rfl rfl rfl ?_)))))))))
  refine WL.assign (v := .bool (false)) rfl rfl (WL.nil (WC.condF rfl (WC.seq (WC.region (WL.fieldAddr rfl fo48_0 rfl (WL.load1 rfl ag5 (B44.cell (j := 0) rfl) rfl (WL.bin (v := .bool (true)) rfl (vy := U8 (64#8)) rfl rfl (BinR.toB (BinR.eqlU8) (by rw [hop]; rfl)) (WL.assign (v := .bool (true)) rfl rfl (WL.nil ?_)))))))))
  refine WC.condT rfl (WC.region (WL.move (v := ptr b 0) rfl rfl ?_))
  have t3 : T b3 = 0 := by rcases Nat.eq_zero_or_pos (T b3) with h | h; exact h; have := (ht.lt b3 (by omega)).1; have := n3.num; omega
  refine WL.call ca70 (rfl) rfl (calls_spec T b M _ (hM0.ext (E43)) hev) ?_
  rintro v86 wst ⟨T1, h1, m1, hs1, hE1, hf1⟩
  have hf2 : ∀ e, v86 = .iface 144 (ptr e 0) → w.heap.size ≤ e ∧ T1 e = 0 := fun e h => by have := Mod.size (E43); have := hf1 e h; exact ⟨by omega, this.2⟩
  have hG1 : Glob wst := glob_turn (hG.ext (E43)) m1 (fun k h => (hM0.lt k h).2)
  have hX1 := Mod.cell m1 (Mod.cell (E43) hX (fun h => h)) (fun h => by have := (hM0.lt 3 h).2; omega)
  have h31 := (B44).mod m1 (fun h => h t3)
  have t31 := zero_of hs1 t3 (B44).lt
  have mw := (Mod.ext (O := Fp T) (E43)).trans m1
  have hs2 : ∀ k, T1 k ≠ 0 → T k ≠ 0 ∨ w.heap.size ≤ k := fun k h => by have := Mod.size (E43); rcases hs1 k h with h | h; exact .inl h; exact .inr (by omega)
  refine WL.assign (v := v86) rfl rfl (WL.nil ?_)
  rw [hR]
  exact tail_trap T1 b b3 (callsM M).1 a (doM (a.op).toNat a.imm M.pc (M.x (a.rs1).toNat) (M.x (a.rs2).toNat)).1 _ _ (callsM M).2 _ _ _ h1 rfl rfl rfl rfl rfl h31 t31 hE1 hG1 hX1 ho (fun w2 e2 => TurnE.then (h1.ext e2) mw (Mod.ext e2) hs2 (hE1.mod e2 (fun _ _ h => h)) hf2)
set_option maxRecDepth 100000 in
theorem does_e0 (T : Nat → Nat) (b : Nat) (M : MS) (a : RvInst) (w : World) (hM : MR T w b M) (hG : Glob w) (hX : w.cell? ⟨3, 0, none⟩ = some (.iface 206 (.agg #[.pointer (some ⟨6, 83, none⟩)]))) (ho1 : 1 ≤ a.op.toNat) (ho2 : a.op.toNat < 66) (hr1 : (a.rs1).toNat < 32) (hr2 : (a.rs2).toNat < 32) (hrd : (a.rd).toNat < 32) (hz : loadsM a.op.toNat = (0, false)) (hop : a.op = 64#8) (hev : M.events.length < 8796093022208) (ho : ((callsM M).2 == some true) = false) (hR : doesM M a = (putM (callsM M).1 a (doM (a.op).toNat a.imm M.pc (M.x (a.rs1).toNat) (M.x (a.rs2).toNat)).1 (doM (a.op).toNat a.imm M.pc (M.x (a.rs1).toNat) (M.x (a.rs2).toNat)).2, (callsM M).2)) : CallsR Tryz.prog 36 #[ptr b 0, .agg #[U8 (a.op), U8 (a.rd), U8 (a.rs1), U8 (a.rs2), I64 (a.imm)]] w (fun v w' => TurnE T w b (doesM M a).1 w' (doesM M a).2 v) := by
  have hM0 := hM
  obtain ⟨bq, sd, ss, cv, iv, ev, en, hb, ht⟩ := hM
  refine callsR_of Tryz.func36 rfl rfl rfl ?_
  refine WC.seq (WC.region (WL.box (v := .agg #[U8 (a.op), U8 (a.rd), U8 (a.rs1), U8 (a.rs2), I64 (a.imm)]) rfl rfl ?_))
  intro b3 w3 n3
  have E1 : Ext w w3 := Mod.trans (Mod.refl _ _) (n3.ext)
  refine WL.assign (v := .nilIface) rfl rfl (WL.nil (WC.seq (WC.draw (fun w_ => Ext w3 w_) 16 rfl mixed ?_)))
  intro wd_1 ed_1
  have R2 : Ext w3 wd_1 := Mod.trans (Mod.refl _ _) (ed_1)
  have E3 : Ext w wd_1 := Mod.trans (E1) (ed_1)
  refine WA.take (i := 0) (m' := 1) (v := ptr b 0) rfl rfl rfl rfl (by kernel_rfl) rfl (fun _ _ _ h => h) (fun wx hS => ?_) (R2) ?_
  · exact WL.move (v := ptr b 0) rfl rfl (WL.nil ⟨rfl, rfl, rfl⟩)
  refine WA.take (i := 1) (m' := 3) (v := ptr b3 2) rfl rfl rfl rfl (by kernel_rfl) rfl (fun _ _ _ h => h) (fun wx hS => ?_) (R2) ?_
  · exact WL.fieldAddr rfl fo48_2 rfl (WL.nil ⟨rfl, rfl, rfl⟩)
  refine WA.take (i := 2) (m' := 7) (v := U8 (a.rs1)) rfl rfl rfl rfl (by kernel_rfl) rfl (fun _ _ _ h => h) (fun wx hS => ?_) (R2) ?_
  · have B7 := (n3.blk).ext (hS)
    exact WL.load1 rfl ag5 (B7.cell (j := 2) rfl) rfl (WL.nil ⟨rfl, rfl, rfl⟩)
  refine WA.takeN (i := 3) (m' := 15) (v := ptr b 0) rfl rfl rfl rfl (by kernel_rfl) rfl (fun _ _ _ h => h) (fun wx hS => ?_) (R2) ?_
  · exact WL.nilCheck rfl rfl (WL.nil ⟨rfl, rfl, rfl⟩)
  refine WA.take (i := 4) (m' := 31) (v := ptr b 3) rfl rfl rfl rfl (by kernel_rfl) rfl (fun _ _ _ h => h) (fun wx hS => ?_) (R2) ?_
  · exact WL.fieldAddr rfl fo85_3 rfl (WL.nil ⟨rfl, rfl, rfl⟩)
  refine WA.take (i := 5) (m' := 63) (v := ptr b (3 + (a.rs1).toNat)) rfl rfl rfl rfl (by kernel_rfl) rfl (fun _ _ _ h => h) (fun wx hS => ?_) (R2) ?_
  · exact WL.indexArr1 (i := (a.rs1).toNat) ar68 sz39 rfl rfl hr1 rfl (WL.nil ⟨rfl, rfl, rfl⟩)
  refine WA.take (i := 6) (m' := 127) (v := U64 (M.x (a.rs1).toNat)) rfl rfl rfl rfl (by kernel_rfl) rfl (fun _ _ _ h => h) (fun wx hS => ?_) (R2) ?_
  · have B12 := ((hb).ext (n3.ext)).ext (hS)
    exact WL.load1 rfl ag39 (B12.cell (machCells_x _ _ _ _ _ _ _ _ hr1)) rfl (WL.nil ⟨rfl, rfl, rfl⟩)
  refine WA.take (i := 7) (m' := 255) (v := ptr b 0) rfl rfl rfl rfl (by kernel_rfl) rfl (fun _ _ _ h => h) (fun wx hS => ?_) (R2) ?_
  · exact WL.move (v := ptr b 0) rfl rfl (WL.nil ⟨rfl, rfl, rfl⟩)
  refine WA.take (i := 8) (m' := 511) (v := ptr b3 3) rfl rfl rfl rfl (by kernel_rfl) rfl (fun _ _ _ h => h) (fun wx hS => ?_) (R2) ?_
  · exact WL.fieldAddr rfl fo48_3 rfl (WL.nil ⟨rfl, rfl, rfl⟩)
  refine WA.take (i := 9) (m' := 1023) (v := U8 (a.rs2)) rfl rfl rfl rfl (by kernel_rfl) rfl (fun _ _ _ h => h) (fun wx hS => ?_) (R2) ?_
  · have B16 := (n3.blk).ext (hS)
    exact WL.load1 rfl ag5 (B16.cell (j := 3) rfl) rfl (WL.nil ⟨rfl, rfl, rfl⟩)
  refine WA.takeN (i := 10) (m' := 2047) (v := ptr b 0) rfl rfl rfl rfl (by kernel_rfl) rfl (fun _ _ _ h => h) (fun wx hS => ?_) (R2) ?_
  · exact WL.nilCheck rfl rfl (WL.nil ⟨rfl, rfl, rfl⟩)
  refine WA.take (i := 11) (m' := 4095) (v := ptr b 3) rfl rfl rfl rfl (by kernel_rfl) rfl (fun _ _ _ h => h) (fun wx hS => ?_) (R2) ?_
  · exact WL.fieldAddr rfl fo85_3 rfl (WL.nil ⟨rfl, rfl, rfl⟩)
  refine WA.take (i := 12) (m' := 8191) (v := ptr b (3 + (a.rs2).toNat)) rfl rfl rfl rfl (by kernel_rfl) rfl (fun _ _ _ h => h) (fun wx hS => ?_) (R2) ?_
  · exact WL.indexArr1 (i := (a.rs2).toNat) ar68 sz39 rfl rfl hr2 rfl (WL.nil ⟨rfl, rfl, rfl⟩)
  refine WA.take (i := 13) (m' := 16383) (v := U64 (M.x (a.rs2).toNat)) rfl rfl rfl rfl (by kernel_rfl) rfl (fun _ _ _ h => h) (fun wx hS => ?_) (R2) ?_
  · have B21 := ((hb).ext (n3.ext)).ext (hS)
    exact WL.load1 rfl ag39 (B21.cell (machCells_x _ _ _ _ _ _ _ _ hr2)) rfl (WL.nil ⟨rfl, rfl, rfl⟩)
  refine WA.take (i := 14) (m' := 32767) (v := U64 (M.x (a.rs1).toNat)) rfl rfl rfl rfl (by kernel_rfl) rfl (fun _ _ _ h => h) (fun wx hS => ?_) (R2) ?_
  · exact WL.assign (v := U64 (M.x (a.rs1).toNat)) rfl rfl (WL.nil ⟨rfl, rfl, rfl⟩)
  refine WA.take (i := 15) (m' := 65535) (v := U64 (M.x (a.rs2).toNat)) rfl rfl rfl rfl (by kernel_rfl) rfl (fun _ _ _ h => h) (fun wx hS => ?_) (R2) ?_
  · exact WL.assign (v := U64 (M.x (a.rs2).toNat)) rfl rfl (WL.nil ⟨rfl, rfl, rfl⟩)
  refine WA.done (by kernel_rfl) ?_
  refine WC.seq (WC.draw (fun w_ => Ext wd_1 w_) 13 rfl mixed ?_)
  intro wd_2 ed_2
  have R24 : Ext wd_1 wd_2 := Mod.trans (Mod.refl _ _) (ed_2)
  have E25 : Ext w wd_2 := Mod.trans (E3) (ed_2)
  refine WA.take (i := 0) (m' := 1) (v := .agg #[U8 (a.op), U8 (a.rd), U8 (a.rs1), U8 (a.rs2), I64 (a.imm)]) rfl rfl rfl rfl (by kernel_rfl) rfl (fun _ _ _ h => h) (fun wx hS => ?_) (R24) ?_
  · have B27 := ((n3.blk).ext (ed_1)).ext (hS)
    exact WL.loadS [U8 (a.op), U8 (a.rd), U8 (a.rs1), U8 (a.rs2), I64 (a.imm)] rfl ag48 sz48 rfl (B27.sub (o := 0) (vs := [U8 (a.op), U8 (a.rd), U8 (a.rs1), U8 (a.rs2), I64 (a.imm)]) rfl) rfl (WL.nil ⟨rfl, rfl, rfl⟩)
  refine WA.take (i := 1) (m' := 3) (v := ptr b 0) rfl rfl rfl rfl (by kernel_rfl) rfl (fun _ _ _ h => h) (fun wx hS => ?_) (R24) ?_
  · exact WL.move (v := ptr b 0) rfl rfl (WL.nil ⟨rfl, rfl, rfl⟩)
  refine WA.takeN (i := 2) (m' := 7) (v := ptr b 0) rfl rfl rfl rfl (by kernel_rfl) rfl (fun _ _ _ h => h) (fun wx hS => ?_) (R24) ?_
  · exact WL.nilCheck rfl rfl (WL.nil ⟨rfl, rfl, rfl⟩)
  refine WA.take (i := 3) (m' := 15) (v := ptr b 35) rfl rfl rfl rfl (by kernel_rfl) rfl (fun _ _ _ h => h) (fun wx hS => ?_) (R24) ?_
  · exact WL.fieldAddr rfl fo85_4 rfl (WL.nil ⟨rfl, rfl, rfl⟩)
  refine WA.take (i := 4) (m' := 31) (v := U64 (M.pc)) rfl rfl rfl rfl (by kernel_rfl) rfl (fun _ _ _ h => h) (fun wx hS => ?_) (R24) ?_
  · have B32 := (((hb).ext (n3.ext)).ext (ed_1)).ext (hS)
    exact WL.load1 rfl ag39 (B32.cell (j := 35) rfl) rfl (WL.nil ⟨rfl, rfl, rfl⟩)
  refine WA.take (i := 5) (m' := 63) (v := U64 (M.x (a.rs1).toNat)) rfl rfl rfl rfl (by kernel_rfl) rfl (fun _ _ _ h => h) (fun wx hS => ?_) (R24) ?_
  · exact WL.move (v := U64 (M.x (a.rs1).toNat)) rfl rfl (WL.nil ⟨rfl, rfl, rfl⟩)
  refine WA.take (i := 6) (m' := 127) (v := U64 (M.x (a.rs2).toNat)) rfl rfl rfl rfl (by kernel_rfl) rfl (fun _ _ _ h => h) (fun wx hS => ?_) (R24) ?_
  · exact WL.move (v := U64 (M.x (a.rs2).toNat)) rfl rfl (WL.nil ⟨rfl, rfl, rfl⟩)
  refine WA.one (i := 7) (m' := 255) (by kernel_rfl) rfl rfl ?_
  refine WL.call ca53 (rfl) rfl (do_spec a.op a.rd a.rs1 a.rs2 a.imm M.pc (M.x (a.rs1).toNat) (M.x (a.rs2).toNat) _ ho1 ho2) ?_
  rintro _ wdo ⟨rfl, edo⟩
  have R35 : Ext wd_1 wdo := Mod.trans (R24) (edo)
  have E36 : Ext w wdo := Mod.trans (E25) (edo)
  refine WL.behind (R35) ?_
  refine WA.take (i := 8) (m' := 511) (v := .tuple #[U64 (doM (a.op).toNat a.imm M.pc (M.x (a.rs1).toNat) (M.x (a.rs2).toNat)).1, U64 (doM (a.op).toNat a.imm M.pc (M.x (a.rs1).toNat) (M.x (a.rs2).toNat)).2]) rfl rfl rfl rfl (by kernel_rfl) rfl (fun _ _ _ h => h) (fun wx hS => ?_) (R35) ?_
  · exact WL.move (v := .tuple #[U64 (doM (a.op).toNat a.imm M.pc (M.x (a.rs1).toNat) (M.x (a.rs2).toNat)).1, U64 (doM (a.op).toNat a.imm M.pc (M.x (a.rs1).toNat) (M.x (a.rs2).toNat)).2]) rfl rfl (WL.nil ⟨rfl, rfl, rfl⟩)
  refine WA.take (i := 9) (m' := 1023) (v := U64 ((doM (a.op).toNat a.imm M.pc (M.x (a.rs1).toNat) (M.x (a.rs2).toNat)).1)) rfl rfl rfl rfl (by kernel_rfl) rfl (fun _ _ _ h => h) (fun wx hS => ?_) (R35) ?_
  · exact WL.extract rfl rfl rfl (WL.nil ⟨rfl, rfl, rfl⟩)
  refine WA.take (i := 10) (m' := 2047) (v := U64 ((doM (a.op).toNat a.imm M.pc (M.x (a.rs1).toNat) (M.x (a.rs2).toNat)).2)) rfl rfl rfl rfl (by kernel_rfl) rfl (fun _ _ _ h => h) (fun wx hS => ?_) (R35) ?_
  · exact WL.extract rfl rfl rfl (WL.nil ⟨rfl, rfl, rfl⟩)
  refine WA.take (i := 11) (m' := 4095) (v := U64 ((doM (a.op).toNat a.imm M.pc (M.x (a.rs1).toNat) (M.x (a.rs2).toNat)).1)) rfl rfl rfl rfl (by kernel_rfl) rfl (fun _ _ _ h => h) (fun wx hS => ?_) (R35) ?_
  · exact WL.assign (v := U64 ((doM (a.op).toNat a.imm M.pc (M.x (a.rs1).toNat) (M.x (a.rs2).toNat)).1)) rfl rfl (WL.nil ⟨rfl, rfl, rfl⟩)
  refine WA.take (i := 12) (m' := 8191) (v := U64 ((doM (a.op).toNat a.imm M.pc (M.x (a.rs1).toNat) (M.x (a.rs2).toNat)).2)) rfl rfl rfl rfl (by kernel_rfl) rfl (fun _ _ _ h => h) (fun wx hS => ?_) (R35) ?_
  · exact WL.assign (v := U64 ((doM (a.op).toNat a.imm M.pc (M.x (a.rs1).toNat) (M.x (a.rs2).toNat)).2)) rfl rfl (WL.nil ⟨rfl, rfl, rfl⟩)
  refine WA.done (by kernel_rfl) ?_
  refine WC.seq (WC.region (WL.assign (v := .nilIface) rfl rfl (WL.nil (WC.seq (WC.seq (WC.region (WL.fieldAddr rfl fo48_0 rfl ?_)))))))
  have B42 := (((n3.blk).ext (ed_1)).ext (ed_2)).ext (edo)
  refine WL.load1 rfl ag5 (B42.cell (j := 0) rfl) rfl (WL.call ca68 (rfl) rfl (loads_spec a.op _ ho1 ho2) ?_)
  rintro v42 wlo ⟨hv42, elo⟩
  rw [hz] at hv42
  obtain rfl : v42 = .tuple #[IN 0, .bool false] := hv42
  have E43 : Ext w wlo := Mod.trans (E36) (elo)
  refine WL.move (v := .tuple #[IN 0, .bool false]) rfl rfl (WL.extract rfl rfl rfl (WL.extract rfl rfl rfl (WL.assign (v := IN (0)) rfl rfl (WL.assign (v := .bool (false)) rfl rfl (WL.nil (WC.block (WC.seq (WC.region (WL.move (v := IN (0)) rfl rfl ?_)))))))))
  refine WL.bin rfl rfl rfl (BinR.gtr) (WL.assign (v := .bool (decide ((0 : Int) < ((0 : Nat) : Int)))) rfl rfl (WL.nil (WC.condF (congrArg Value.bool (decide_eq_false (by omega))) (WC.seq (WC.region (WL.fieldAddr rfl fo48_0 rfl ?_))))))
  have B44 := (B42).ext (elo)
  refine WL.load1 rfl ag5 (B44.cell (j := 0) rfl) rfl (WL.bin (v := .bool (true)) rfl (vy := U8 (18#8)) rfl rfl (BinR.toB (BinR.geqU8) (by rw [hop]; rfl)) (WL.move (v := .bool (true)) rfl rfl (WL.guardT (rfl) (WL.fieldAddr rfl fo48_0 rfl (WL.guardT (rfl) (WL.load1 rfl ag5 (B44.cell (j := 0) rfl) rfl (WL.guardT (rfl) (WL.bin (v := .bool (false)) rfl (vy := U8 (21#8)) rfl rfl (BinR.toB (BinR.leqU8) (by rw [hop]; rfl)) (WL.pick (b := true) rfl rfl rfl ?_)))))))))
  refine WL.assign (v := .bool (false)) rfl rfl (WL.nil (WC.condF rfl (WC.seq (WC.region (WL.fieldAddr rfl fo48_0 rfl (WL.load1 rfl ag5 (B44.cell (j := 0) rfl) rfl (WL.bin (v := .bool (true)) rfl (vy := U8 (64#8)) rfl rfl (BinR.toB (BinR.eqlU8) (by rw [hop]; rfl)) (WL.assign (v := .bool (true)) rfl rfl (WL.nil ?_)))))))))
  refine WC.condT rfl (WC.region (WL.move (v := ptr b 0) rfl rfl ?_))
  have t3 : T b3 = 0 := by rcases Nat.eq_zero_or_pos (T b3) with h | h; exact h; have := (ht.lt b3 (by omega)).1; have := n3.num; omega
  refine WL.call ca70 (rfl) rfl (calls_spec T b M _ (hM0.ext (E43)) hev) ?_
  rintro v86 wst ⟨T1, h1, m1, hs1, hE1, hf1⟩
  have hf2 : ∀ e, v86 = .iface 144 (ptr e 0) → w.heap.size ≤ e ∧ T1 e = 0 := fun e h => by have := Mod.size (E43); have := hf1 e h; exact ⟨by omega, this.2⟩
  have hG1 : Glob wst := glob_turn (hG.ext (E43)) m1 (fun k h => (hM0.lt k h).2)
  have hX1 := Mod.cell m1 (Mod.cell (E43) hX (fun h => h)) (fun h => by have := (hM0.lt 3 h).2; omega)
  have h31 := (B44).mod m1 (fun h => h t3)
  have t31 := zero_of hs1 t3 (B44).lt
  have mw := (Mod.ext (O := Fp T) (E43)).trans m1
  have hs2 : ∀ k, T1 k ≠ 0 → T k ≠ 0 ∨ w.heap.size ≤ k := fun k h => by have := Mod.size (E43); rcases hs1 k h with h | h; exact .inl h; exact .inr (by omega)
  refine WL.assign (v := v86) rfl rfl (WL.nil ?_)
  rw [hR]
  exact tail_go T1 b b3 ((callsM M).1) a (doM (a.op).toNat a.imm M.pc (M.x (a.rs1).toNat) (M.x (a.rs2).toNat)).1 (doM (a.op).toNat a.imm M.pc (M.x (a.rs1).toNat) (M.x (a.rs2).toNat)).2 (v86) (callsM M).2 _ _ _ h1 rfl rfl rfl rfl rfl h31 t31 hE1 hG1 hX1 ho (fun e h => ((hf2 e h).2)) ho1 ho2 hrd (fun w2 h2 m2 e2 => TurnE.then h2 mw m2 hs2 e2 (fun e h => hf2 e h))
theorem loadsM_le (n : Nat) : (loadsM n).1 ≤ 8 := by
  unfold loadsM; split <;> decide
theorem loadsM_zero {n : Nat} (h : ¬ 0 < (loadsM n).1) : loadsM n = (0, false) := by
  unfold loadsM at h ⊢; split at h <;> first | rfl | exact absurd (by decide) h
theorem ule_of {x y : BitVec 8} {r : Bool} (h : decide (x.toNat ≤ y.toNat) = r) : BitVec.ule x y = r := h
theorem does_spec (T : Nat → Nat) (b : Nat) (M : MS) (a : RvInst) (w : World) (hM : MR T w b M) (hG : Glob w) (hX : w.cell? ⟨3, 0, none⟩ = some (.iface 206 (.agg #[.pointer (some ⟨6, 83, none⟩)]))) (ho1 : 1 ≤ a.op.toNat) (ho2 : a.op.toNat < 66) (hr1 : (a.rs1).toNat < 32) (hr2 : (a.rs2).toNat < 32) (hrd : (a.rd).toNat < 32) (hev : M.events.length < 8796093022208) : CallsR Tryz.prog 36 #[ptr b 0, instV a] w (fun v w' => TurnE T w b (doesM M a).1 w' (doesM M a).2 v) := by
  by_cases hz : 0 < (loadsM a.op.toNat).1
  · rcases hw : whereM M.n (M.x (a.rs1).toNat + a.imm) (loadsM a.op.toNat).1 with _ | ⟨k, off⟩
    · exact does_l0 T b M a w hM hG hX ho1 ho2 hr1 hr2 hrd _ _ rfl hz (loadsM_le _) hw
    · exact does_l1 T b M a w hM hG hX ho1 ho2 hr1 hr2 hrd _ _ rfl hz (loadsM_le _) k off hw
  have hz0 := loadsM_zero hz
  by_cases hs : 18 ≤ a.op.toNat ∧ a.op.toNat ≤ 21
  · rcases (by omega : a.op.toNat = 18 ∨ a.op.toNat = 19 ∨ a.op.toNat = 20 ∨ a.op.toNat = 21) with h | h | h | h
    · have hop : a.op = 18#8 := BitVec.eq_of_toNat_eq h
      rcases hw : whereM M.n (M.x (a.rs1).toNat + a.imm) 1 with _ | ⟨k, off⟩
      · exact does_s18_0 T b M a w hM hG hX ho1 ho2 hr1 hr2 hrd hz0 hop hw (by unfold doesM; simp only; rw [if_neg hz, if_pos hs, h]; show (match whereM _ _ 1 with | none => _ | some (k, off) => _) = _; rw [hw])
      · exact does_s18_1 T b M a w hM hG hX ho1 ho2 hr1 hr2 hrd hz0 hop k off hw (by unfold doesM; simp only; rw [if_neg hz, if_pos hs, h]; show (match whereM _ _ 1 with | none => _ | some (k, off) => _) = _; rw [hw])
    · have hop : a.op = 19#8 := BitVec.eq_of_toNat_eq h
      rcases hw : whereM M.n (M.x (a.rs1).toNat + a.imm) 2 with _ | ⟨k, off⟩
      · exact does_s19_0 T b M a w hM hG hX ho1 ho2 hr1 hr2 hrd hz0 hop hw (by unfold doesM; simp only; rw [if_neg hz, if_pos hs, h]; show (match whereM _ _ 2 with | none => _ | some (k, off) => _) = _; rw [hw])
      · exact does_s19_1 T b M a w hM hG hX ho1 ho2 hr1 hr2 hrd hz0 hop k off hw (by unfold doesM; simp only; rw [if_neg hz, if_pos hs, h]; show (match whereM _ _ 2 with | none => _ | some (k, off) => _) = _; rw [hw])
    · have hop : a.op = 20#8 := BitVec.eq_of_toNat_eq h
      rcases hw : whereM M.n (M.x (a.rs1).toNat + a.imm) 4 with _ | ⟨k, off⟩
      · exact does_s20_0 T b M a w hM hG hX ho1 ho2 hr1 hr2 hrd hz0 hop hw (by unfold doesM; simp only; rw [if_neg hz, if_pos hs, h]; show (match whereM _ _ 4 with | none => _ | some (k, off) => _) = _; rw [hw])
      · exact does_s20_1 T b M a w hM hG hX ho1 ho2 hr1 hr2 hrd hz0 hop k off hw (by unfold doesM; simp only; rw [if_neg hz, if_pos hs, h]; show (match whereM _ _ 4 with | none => _ | some (k, off) => _) = _; rw [hw])
    · have hop : a.op = 21#8 := BitVec.eq_of_toNat_eq h
      rcases hw : whereM M.n (M.x (a.rs1).toNat + a.imm) 8 with _ | ⟨k, off⟩
      · exact does_s21_0 T b M a w hM hG hX ho1 ho2 hr1 hr2 hrd hz0 hop hw (by unfold doesM; simp only; rw [if_neg hz, if_pos hs, h]; show (match whereM _ _ 8 with | none => _ | some (k, off) => _) = _; rw [hw])
      · exact does_s21_1 T b M a w hM hG hX ho1 ho2 hr1 hr2 hrd hz0 hop k off hw (by unfold doesM; simp only; rw [if_neg hz, if_pos hs, h]; show (match whereM _ _ 8 with | none => _ | some (k, off) => _) = _; rw [hw])
  by_cases he : a.op.toNat = 64
  · have hop : a.op = 64#8 := BitVec.eq_of_toNat_eq he
    rcases ho : (callsM M).2 == some true with _ | _
    · exact does_e0 T b M a w hM hG hX ho1 ho2 hr1 hr2 hrd hz0 hop hev ho (by unfold doesM; simp only; rw [if_neg hz, if_neg hs, if_pos he, ho]; rfl)
    · exact does_e1 T b M a w hM hG hX ho1 ho2 hr1 hr2 hrd hz0 hop hev ho (by unfold doesM; simp only; rw [if_neg hz, if_neg hs, if_pos he, ho]; rfl)
  have h84 : (a.op == 64#8) = false := by rw [beq_eq_false_iff_ne]; intro e; rw [e] at he; exact he rfl
  have hR : doesM M a = (putM M a (doM (a.op).toNat a.imm M.pc (M.x (a.rs1).toNat) (M.x (a.rs2).toNat)).1 (doM (a.op).toNat a.imm M.pc (M.x (a.rs1).toNat) (M.x (a.rs2).toNat)).2, none) := by unfold doesM; simp only; rw [if_neg hz, if_neg hs, if_neg he]
  by_cases h18 : 18 ≤ a.op.toNat
  · exact does_r T b M a w hM hG hX ho1 ho2 hr1 hr2 hrd hz0 (ule_of (decide_eq_true h18)) (ule_of (decide_eq_false (fun h => hs ⟨h18, h⟩))) h84 hR
  · exact does_q T b M a w hM hG hX ho1 ho2 hr1 hr2 hrd hz0 (ule_of (decide_eq_false h18)) h84 hR
end Go.Proofs.S
end
