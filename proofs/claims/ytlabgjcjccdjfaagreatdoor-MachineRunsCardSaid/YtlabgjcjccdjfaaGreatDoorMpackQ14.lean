/- Steps of the proof, packed by program: McP5 McPair McP6 McL7. -/
import Derived.Test.YtlabgjcjccdjfaaGreatDoorRows
import Derived.Test.YtlabgjcjccdjfaaGreatDoorMpackQ02
import Derived.Test.YtlabgjcjccdjfaaGreatDoorMpackQ10
import Derived.Test.YtlabgjcjccdjfaaGreatDoorMpackQ12
import Derived.Test.YtlabgjcjccdjfaaGreatDoorMpackQ13
set_option linter.unusedVariables false
set_option linter.unusedSimpArgs false
set_option linter.unnecessarySimpa false
set_option maxRecDepth 100000
section
set_option linter.unusedSimpArgs false
set_option linter.unusedVariables false
namespace Go.Proofs.S
open Go Go.Ux Go.Ux.Mach Go.Proofs
theorem ca12 : callable Tryz.prog 12 = true := by kernel_rfl
theorem fo38_1 : fieldOff Tryz.prog 38 1 = some 1 := by kernel_rfl
open Go.Ux.Image
set_option maxHeartbeats 1000000 in
theorem tells_q (Ta : Nat → Nat) (a : Nat) (Tb : Nat → Nat) (b : Nat) (M : MS) (ws : List (BitVec 32)) (w : World) (hM : MR Ta w a M) (h : RR Tb w b M ws) (hX : w.cell? ⟨3, 0, none⟩ = some (.iface 206 (.agg #[.pointer (some ⟨6, 83, none⟩)]))) (he : M.events.length ≤ 8796093022208)  : CallsR Tryz.prog 27 #[ptr a 0, ptr b 0] w (fun v w' => v = .bool true ∧ Ext w w') := by
 obtain ⟨cv, dv, sv, iv, ev, hb, ht⟩ := h
 refine callsR_of Tryz.func27 G G G ?_
 refine Sr (An (.bool false) G (Ni (Sq (Sr (An (IN 0) G (Ni (Bk ?_)))))))
 refine WC.loop (fun k f w_ => ∃ i, (k + i = 32) ∧ f 0 = ptr a 0 ∧ f 1 = ptr b 0 ∧ f 5 = IN i ∧ (Blk w_ b (RCells cv dv sv iv ev M) 70) ∧ (Ext w w_)) 32 ?_ ?_
 ·exact ⟨0, by omega, G, G, G, hb, Mod.refl _ _⟩
 rintro ka f1 wr ⟨i, hk, h0_1, h1_1, h5_1, hb1, hE⟩
 refine Sq (Sr (Mv (IN i) h5_1 (Bn G G BinR.lss (Ni ?_))))
 refine WC.cond G (fun hc9 => ?_) (fun hc9 => ?_)
 ·have hi : i < 32 := by have := of_decide_eq_true hc9; omega
  refine WC.skip (Sq (Bk (Sq (WC.draw (fun w_ => Ext wr w_) 10 G mixed ?_))))
  intro wd_4 ed_4
  have R2 : Ext wr wd_4 := ed_4
  have E3 := Mt hE ed_4
  refine Tk 0 (ptr a 0) G G (fun _ _ => Mv (ptr a 0) h0_1 Ok) R2 (Tk 1 (IN i) G G (fun _ _ => Mv (IN i) h5_1 Ok) R2 (Tk 3 (ptr b 0) G G (fun _ _ => Mv (ptr b 0) h1_1 Ok) R2 (Tk 4 (IN i) G G (fun _ _ => Mv (IN i) h5_1 Ok) R2 ?_)))
  refine WA.two (i := 2) (j := 5) (mi := 31) (mj := 59) (by kernel_rfl) G G G G ?_ ?_
  ·refine WL.call ca17 G G (reg_spec Ta a M _ (hM.ext E3) i hi) ?_
   rintro _ wg14 ⟨rfl, eg14⟩
   have R9 := Mt R2 eg14
   have E10 := Mt E3 eg14
   refine WL.behind R9 (WA.one (i := 5) (m' := 63) (by kernel_rfl) G G (WL.nilCheck G G (WL.behind R9 (Tk 6 (ptr b 4) G G (fun _ _ => Fa G fo70_4 Ok) R9 (Tk 7 (ptr b (4 + i)) G G (fun _ _ => WL.indexArr1 (i := i) ar68 sz39 G G hi G Ok) R9 (Tk 8 (U64 (M.x i)) G G (fun _ hS => Lo G ag39 ((hb1.ext hS).cell (refCells_x _ _ _ _ _ _ _ _ _ _ hi)) Ok) R9 (Tk 9 (.bool false) G G (fun _ _ => Bn (v := .bool false) G G (BinR.toB BinR.neqU64 (bne_self_eq_false _)) Ok) R9 (WA.done (by kernel_rfl) (Cf G ?_)))))))))
   refine WC.skip (Rg (Mv (IN i) h5_1 (Bn G G (BinR.succN (by omega)) (An (IN (i + 1)) G (Ni ?_)))))
   have B16 := (hb1.ext ed_4).ext eg14
   exact ⟨ka - 1, by omega, (i + 1), by omega, h0_1, h1_1, G, B16, E10⟩
  ·refine WL.nilCheck G G (WL.behind R2 (Tk 6 (ptr b 4) G G (fun _ _ => Fa G fo70_4 Ok) R2 (Tk 7 (ptr b (4 + i)) G G (fun _ _ => WL.indexArr1 (i := i) ar68 sz39 G G hi G Ok) R2 (Tk 8 (U64 (M.x i)) G G (fun _ hS => Lo G ag39 ((hb1.ext hS).cell (refCells_x _ _ _ _ _ _ _ _ _ _ hi)) Ok) R2 (WA.one (i := 2) (m' := 511) (by kernel_rfl) G G (WL.call ca17 G G (reg_spec Ta a M _ (hM.ext E3) i hi) ?_))))))
   rintro _ wg14 ⟨rfl, eg14⟩
   have R22 := Mt R2 eg14
   have E23 := Mt E3 eg14
   refine WL.behind R22 (Tk 9 (.bool false) G G (fun _ _ => Bn (v := .bool false) G G (BinR.toB BinR.neqU64 (bne_self_eq_false _)) Ok) R22 (WA.done (by kernel_rfl) (Cf G (WC.skip (Rg (Mv (IN i) h5_1 (Bn G G (BinR.succN (by omega)) (An (IN (i + 1)) G (Ni ?_)))))))))
   have B25 := (hb1.ext ed_4).ext eg14
   exact ⟨ka - 1, by omega, (i + 1), by omega, h0_1, h1_1, G, B25, E23⟩
 ·refine WC.exit (Sr (Mv (ptr a 0) h0_1 (WL.call ca14 G G (events_spec Ta a M _ (hM.ext hE) he) ?_)))
  rintro v23 w23 ⟨o23, f23, e23⟩
  have F23 : From w.heap.size v23 := fun g hg => Nat.le_trans (Mod.size hE) (f23 g hg)
  have E27 := Mt hE e23
  refine An v23 G (Ni (Sq (Sq (WC.draw (fun w_ => Ext w23 w_) 44 G mixed ?_))))
  intro wd_7 ed_7
  have R29 : Ext w23 wd_7 := ed_7
  have E30 := Mt E27 ed_7
  refine WA.tk 0 v23 rfl rfl rfl (by kernel_rfl) (fun _ _ => WL.move rfl rfl WL.ok) R29 (WA.tk 1 (IN M.events.length) rfl rfl rfl (by kernel_rfl) (fun _ hS => WL.lenSl (sz := 2) (m := M.events.length) (xs := evV M.events) el34 rfl ((o23.ext hS).sl) rfl WL.ok) R29 (WA.tk 2 (ptr b 0) rfl rfl rfl (by kernel_rfl) (fun _ _ => WL.move (v := ptr b 0) h1_1 rfl WL.ok) R29 (WA.tN 3 (ptr b 0) rfl rfl rfl (by kernel_rfl) (fun _ _ => WL.nilCheck rfl rfl WL.ok) R29 (WA.tk 4 (ptr b 37) rfl rfl rfl (by kernel_rfl) (fun _ _ => WL.fieldAddr rfl fo70_6 rfl WL.ok) R29 (WA.tk 5 ev rfl rfl rfl (by kernel_rfl) (fun _ hS => WL.load1 rfl ag34 (((hb1.ext e23).ext hS).cell (j := 37) rfl) rfl WL.ok) R29 (WA.tk 6 (IN M.events.length) rfl rfl rfl (by kernel_rfl) (fun wx hS => have E39 : Ext w wx := Mod.trans E27 hS; WL.lenSl (sz := 2) (m := M.events.length) (xs := evV M.events) el34 rfl (ht.evs.sl.ext' E39) rfl WL.ok) R29 (WA.tk 7 (.bool false) rfl rfl rfl (by kernel_rfl) (fun _ _ => WL.bin (v := .bool false) rfl rfl rfl (BinR.toB BinR.neq (bne_self_eq_false _)) WL.ok) R29 (WA.tk 8 (.bool false) rfl rfl rfl (by kernel_rfl) (fun _ _ => WL.move rfl rfl WL.ok) R29 (WA.tk 9 (ptr a 0) rfl rfl rfl (by kernel_rfl) (fun _ _ => WL.guardT rfl (WL.move (v := ptr a 0) h0_1 rfl WL.ok)) R29 ?_)))))))))
  refine Tk 11 (ptr b 0) G G (fun _ _ => Gt G (Mv (ptr b 0) h1_1 Ok)) R29 (Tn 12 (ptr b 0) G G (fun _ _ => Gt G (WL.nilCheck G G Ok)) R29 (Tk 13 (ptr b 36) G G (fun _ _ => Gt G (Fa G fo70_5 Ok)) R29 (Tk 14 (U64 M.pc) G G (fun _ hS => Gt G (Lo G ag39 (((hb1.ext e23).ext hS).cell (j := 36) G) Ok)) R29 (WA.one (i := 10) (m' := 32767) (by kernel_rfl) G G (Gt G (WL.call ca15 G G (pc_spec Ta a M _ (hM.ext E30) ) ?_))))))
  rintro _ wg34 ⟨rfl, eg34⟩
  have R49 := Mt R29 eg34
  have E50 := Mt E30 eg34
  refine WL.behind R49 (Tk 15 (.bool false) G G (fun _ _ => Gt G (Bn (v := .bool false) G G (BinR.toB BinR.neqU64 (bne_self_eq_false _)) Ok)) R49 (Tk 16 (.bool false) G G (fun _ _ => Pk (b := false) G G Ok) R49 (Tk 17 (.bool false) G G (fun _ _ => Mv _ G Ok) R49 (Tk 18 (ptr a 0) G G (fun _ _ => Gt G (Mv (ptr a 0) h0_1 Ok)) R49 (Tk 20 (ptr b 0) G G (fun _ _ => Gt G (Mv (ptr b 0) h1_1 Ok)) R49 (Tn 21 (ptr b 0) G G (fun _ _ => Gt G (WL.nilCheck G G Ok)) R49 (Tk 22 (ptr b 38) G G (fun _ _ => Gt G (Fa G fo70_7 Ok)) R49 (Tk 23 (.bool M.fin.isSome) G G (fun _ hS => Gt G (Lo G ag4 (((hb1.ext e23).ext hS).cell (j := 38) G) Ok)) R49 (WA.one (i := 19) (m' := 16777215) (by kernel_rfl) G G ?_)))))))))
  refine Gt G (WL.call ca13 G G (ended_spec Ta a M _ (hM.ext E50) ) ?_)
  rintro _ wg43 ⟨rfl, eg43⟩
  have R61 := Mt R49 eg43
  have E62 := Mt E50 eg43
  refine WL.behind R61 (Tk 24 (.bool false) G G (fun _ _ => Gt G (Bn (v := .bool false) G G (BinR.toB (BinR.neqB Tryz.underlying4) (bne_self_eq_false _)) Ok)) R61 (Tk 25 (.bool false) G G (fun _ _ => Pk (b := false) G G Ok) R61 (Tk 26 (.bool false) G G (fun _ _ => Mv _ G Ok) R61 (Tk 27 (ptr a 0) G G (fun _ _ => Gt G (Mv (ptr a 0) h0_1 Ok)) R61 (Tk 29 (ptr b 0) G G (fun _ _ => Gt G (Mv (ptr b 0) h1_1 Ok)) R61 (Tn 30 (ptr b 0) G G (fun _ _ => Gt G (WL.nilCheck G G Ok)) R61 (Tk 31 (ptr b 39) G G (fun _ _ => Gt G (Fa G fo70_8 Ok)) R61 (Tk 32 (.bool ((M.fin == some true))) G G (fun _ hS => Gt G (Lo G ag4 (((hb1.ext e23).ext hS).cell (j := 39) G) Ok)) R61 (WA.one (i := 28) (m' := 8589934591) (by kernel_rfl) G G ?_)))))))))
  refine Gt G (WL.call ca16 G G (trapped_m Ta a M _ (hM.ext E62) (Mod.cell E62 hX (fun h => h))) ?_)
  rintro _ wg52 ⟨rfl, eg52⟩
  have R73 := Mt R61 eg52
  have E74 := Mt E62 eg52
  refine WL.behind R73 (Tk 33 (.bool false) G G (fun _ _ => Gt G (Bn (v := .bool false) G G (BinR.toB (BinR.neqB Tryz.underlying4) (bne_self_eq_false _)) Ok)) R73 (Tk 34 (.bool false) G G (fun _ _ => Pk (b := false) G G Ok) R73 (Tk 35 (.bool false) G G (fun _ _ => Mv _ G Ok) R73 (Tk 36 (ptr a 0) G G (fun _ _ => Gt G (Mv (ptr a 0) h0_1 Ok)) R73 (Tk 38 (ptr b 0) G G (fun _ _ => Gt G (Mv (ptr b 0) h1_1 Ok)) R73 (Tn 39 (ptr b 0) G G (fun _ _ => Gt G (WL.nilCheck G G Ok)) R73 (Tk 40 (ptr b 40) G G (fun _ _ => Gt G (Fa G fo70_9 Ok)) R73 (Tk 41 (I64 M.steps) G G (fun _ hS => Gt G (Lo G ag3 (((hb1.ext e23).ext hS).cell (j := 40) G) Ok)) R73 (WA.one (i := 37) (m' := 4398046511103) (by kernel_rfl) G G ?_)))))))))
  refine Gt G (WL.call ca12 G G (steps_spec Ta a M _ (hM.ext E74) ) ?_)
  rintro _ wg61 ⟨rfl, eg61⟩
  have R85 := Mt R73 eg61
  have E86 := Mt E74 eg61
  refine WL.behind R85 (Tk 42 (.bool false) G G (fun _ _ => Gt G (Bn (v := .bool false) G G (BinR.toB BinR.neq64 (bne_self_eq_false _)) Ok)) R85 (Tk 43 (.bool false) G G (fun _ _ => Pk (b := false) G G Ok) R85 (WA.done (by kernel_rfl) (Cf G (WC.skip (Sq (Sr (An (IN 0) G ?_))))))))
  refine Ni (Bk ?_)
  refine WC.loop (fun k f w_ => ∃ i, (k + i = M.events.length) ∧ f 0 = ptr a 0 ∧ f 1 = ptr b 0 ∧ f 6 = v23 ∧ f 7 = IN i ∧ (Blk w_ b (RCells cv dv sv iv ev M) 70) ∧ (Ux.Own w_ 2 v23 M.events.length (evV (evS M.events i))) ∧ (Ext w w_)) M.events.length ?_ ?_
  have B89 := (((((hb1.ext e23).ext ed_7).ext eg34).ext eg43).ext eg52).ext eg61
  have O90 := ((((o23.ext ed_7).ext eg34).ext eg43).ext eg52).ext eg61
  ·exact ⟨0, by omega, h0_1, h1_1, G, G, B89, (by rw [evS_zero]; exact O90), E86⟩
  rintro kb f2 wr2 ⟨i, hk, h0_2, h1_2, h6_2, h7_2, hb2, hO, hE⟩
  refine Sq (Sr (Mv (IN i) h7_2 (Mv v23 h6_2 (WL.lenSl (sz := 2) (m := M.events.length) (xs := evV (evS M.events i)) el34 G hO.sl G (Bn G G BinR.lss (Ni ?_))))))
  refine WC.cond G (fun hc71 => ?_) (fun hc71 => ?_)
  ·have hi : i < M.events.length := by have := of_decide_eq_true hc71; omega
   obtain ⟨g, cap, hv23, _, hcv⟩ := hO.at (by omega)
   obtain ⟨ge, oe, ce, hev, hcev⟩ := ht.evs.sl.at (by omega)
   refine WC.skip (Sq (Bk (Sq (Sq (WC.draw (fun w_ => Ext wr2 w_) 12 G mixed ?_)))))
   intro wd_12 ed_12
   have R92 : Ext wr2 wd_12 := ed_12
   have E93 := Mt hE ed_12
   refine Tk 0 v23 G G (fun _ _ => Mv v23 h6_2 Ok) R92 (Tk 1 (IN i) G G (fun _ _ => Mv (IN i) h7_2 Ok) R92 (Tk 2 (ptr g (0 + i * 2)) G G (fun _ _ => WL.indexAddr (i := i) (b := g) (o := 0) el34 sz38 (Eq.trans G hv23) G (by omega) G Ok) R92 (Tk 3 (.agg #[U8 ((M.events[i]).1), I64 ((M.events[i]).2)]) G G (fun _ hS => WL.loadS [U8 ((M.events[i]).1), I64 ((M.events[i]).2)] G ag38 sz38 G (cells2 (hcv.ext hS) (evS_get M.events i hi).1 (evS_get M.events i hi).2) G Ok) R92 (Tk 4 (ptr b 0) G G (fun _ _ => Mv (ptr b 0) h1_2 Ok) R92 (Tn 5 (ptr b 0) G G (fun _ _ => WL.nilCheck G G Ok) R92 (Tk 6 (ptr b 37) G G (fun _ _ => Fa G fo70_6 Ok) R92 (Tk 7 ev G G (fun _ hS => Lo G ag34 ((hb2.ext hS).cell (j := 37) G) Ok) R92 (Tk 8 (IN i) G G (fun _ _ => Mv (IN i) h7_2 Ok) R92 (Tk 9 (ptr ge (oe + i * 2)) G G (fun _ _ => WL.indexAddr (i := i) (b := ge) (o := oe) el34 sz38 (Eq.trans G hev) G (by omega) G Ok) R92 ?_)))))))))
   refine WA.tk 10 (.agg #[U8 ((M.events[i]).1), I64 ((M.events[i]).2)]) rfl rfl rfl (by kernel_rfl) (fun wx hS => have E105 : Ext w wx := Mod.trans hE hS; WL.loadS [U8 ((M.events[i]).1), I64 ((M.events[i]).2)] rfl ag38 sz38 rfl (cells2 (hcev.ext E105) (evV_get M.events i hi).1 (evV_get M.events i hi).2) rfl WL.ok) R92 (WA.tk 11 (.bool false) rfl rfl rfl (by kernel_rfl) (fun _ _ => WL.bin (v := .bool false) rfl rfl rfl (BinR.toB (BinR.neqEv (by kernel_rfl) (by kernel_rfl)) (by simp)) WL.ok) R92 (WA.done (by kernel_rfl) (WC.condF rfl (WC.skip (WC.region (WL.move (v := v23) h6_2 rfl (WL.move (v := IN i) h7_2 rfl (WL.indexAddr (i := i) (b := g) (o := 0) el34 sz38 (Eq.trans rfl hv23) rfl (by omega) rfl (WL.fieldAddr rfl fo38_1 rfl ?_)))))))))
   have O107 := hO.ext ed_12
   refine WL.storeOwnF (j := 0 + i * 2 + 1) (u := I64 99#64) G G G sz2 O107 hv23 (by omega) ?_
   intro wsx os msx
   have os2 : Ux.Own wsx 2 v23 M.events.length (evV (evS M.events (i + 1))) := by rw [← evS_set _ _ hi, ← Nat.zero_add (i * 2)]; exact os
   have E108 : Ext w wsx := Mod.from E93 msx F23
   refine Ni (Rg (Mv (IN i) h7_2 (Bn G G (BinR.succN (by omega)) (An (IN (i + 1)) G (Ni ?_)))))
   have B109 := (hb2.ext ed_12).mod msx (F23.ne hb.lt)
   exact ⟨kb - 1, by omega, (i + 1), by omega, h0_2, h1_2, h6_2, G, B109, os2, E108⟩
  ·refine WC.exit (Sr (An (.bool true) G (Ni (WC.ret ?_))))
   exact ⟨_, Res.one (v := .bool true) G G, G, hE⟩
end Go.Proofs.S
end
section
namespace Go.Proofs.S
open Go Go.Ux Go.Ux.Mach Go.Proofs Go.Proofs.M Go.Ux.Image
open Go.Proofs.N (doM loadsM)
set_option linter.unusedVariables false
def Pair (w0 w : World) (a b : Nat) (Ma Mb : MS) (ws : List (BitVec 32)) : Prop :=
 ∃ Ta Tb, MR Ta w a Ma ∧ RR Tb w b Mb ws ∧ (∀ k, Ta k ≠ 0 → Tb k = 0) ∧ (∀ k, Ta k ≠ 0 → w0.heap.size ≤ k) ∧ ∀ k, Tb k ≠ 0 → w0.heap.size ≤ k
abbrev New0 (w0 : World) : Nat → Prop := fun k => w0.heap.size ≤ k
theorem Ext.new0 {w0 w w' : World} (h : Ext w0 w) (m : Mod (New0 w0) w w') : Ext w0 w' := Mod.then h m fun i hi e => absurd e (Nat.not_le_of_lt hi)
theorem Pair.ext {w0 w w' : World} {a b : Nat} {Ma Mb : MS} {ws : List (BitVec 32)} (h : Pair w0 w a b Ma Mb ws) (m : Ext w w') : Pair w0 w' a b Ma Mb ws := by
 obtain ⟨Ta, Tb, h1, h2, h3, h4, h5⟩ := h
 exact ⟨Ta, Tb, h1.ext m, h2.ext m, h3, h4, h5⟩
theorem zero_tag {T : Nat → Nat} {n k : Nat} (h : ∀ k, T k ≠ 0 → k < n) (hk : n ≤ k) : T k = 0 := by
 rcases Nat.eq_zero_or_pos (T k) with h0 | h0
 ·exact h0
 ·have := h k (by omega); omega
theorem Pair.stepA {w0 w : World} {a b : Nat} {M Mb : MS} {ws : List (BitVec 32)} (h : Pair w0 w a b M Mb ws) (h0 : Ext w0 w) (hc : CodeOk M.code) (hG : Glob w) (hX : w.cell? ⟨3, 0, none⟩ = some (.iface 206 (.agg #[.pointer (some ⟨6, 83, none⟩)]))) (hev : M.events.length ≤ 1000000) :
  CallsR Tryz.prog 18 #[ptr a 0] w (fun v w' => v = IN (stepE M) ∧ Pair w0 w' a b (stepV M) Mb ws ∧ Mod (New0 w0) w w') := by
 obtain ⟨Ta, Tb, h1, h2, h3, h4, h5⟩ := h
 refine (stepV_spec Ta a M w h1 hc hG hX (by omega)).mono fun v w' ⟨hv, T, t1, t2, t3⟩ => ⟨hv, ⟨T, Tb, t1, h2.mod t2 (fun k hk e => hk (h3 k e)), ?_, ?_, h5⟩, t2.imp fun k _ e => h4 k e⟩
 ·intro k hk
  rcases t3 k hk with h | h
  ·exact h3 k h
  ·exact zero_tag h2.lt h
 ·intro k hk
  rcases t3 k hk with h | h
  ·exact h4 k h
  ·have := h0.size; omega
theorem Pair.stepB {w0 w : World} {a b : Nat} {Ma M : MS} {ws : List (BitVec 32)} (h : Pair w0 w a b Ma M ws) (h0 : Ext w0 w) (hws : ws.length ≤ 1000000) (hev : M.events.length ≤ 1000000) :
  CallsR Tryz.prog 26 #[ptr b 0] w (fun v w' => v = .bool M.fin.isNone ∧ Pair w0 w' a b Ma (stepV M) ws ∧ Mod (New0 w0) w w') := by
 obtain ⟨Ta, Tb, h1, h2, h3, h4, h5⟩ := h
 refine (stepR_spec Tb b M ws w h2 hws (by omega)).mono fun v w' ⟨hv, T, t1, t2, t3⟩ => ⟨hv, ⟨Ta, T, h1.mod t2 (fun k hk e => e (h3 k hk)), t1, ?_, h4, ?_⟩, t2.imp fun k _ e => h5 k e⟩
 ·intro k hk
  rcases Nat.eq_zero_or_pos (T k) with hz | hz
  ·exact hz
  ·exfalso
   rcases t3 k (by omega) with h | h
   ·exact h (h3 k hk)
   ·have := (h1.lt k hk).1; omega
 ·intro k hk
  rcases t3 k hk with h | h
  ·exact h5 k h
  ·have := h0.size; omega
theorem Pair.ended {w0 w : World} {a b : Nat} {Ma Mb : MS} {ws : List (BitVec 32)} (h : Pair w0 w a b Ma Mb ws) : w.cell? ⟨b, 38, none⟩ = some (.bool Mb.fin.isSome) := by
 obtain ⟨Ta, Tb, h1, ⟨cv, dv, sv, iv, ev, hb, ht⟩, h3, h4, h5⟩ := h
 exact hb.cell (j := 38) G
theorem Pair.tells {w0 w : World} {a b : Nat} {M : MS} {ws : List (BitVec 32)} (h : Pair w0 w a b M M ws) (hX : w.cell? ⟨3, 0, none⟩ = some (.iface 206 (.agg #[.pointer (some ⟨6, 83, none⟩)]))) (hev : M.events.length ≤ 1000000) :
  CallsR Tryz.prog 27 #[ptr a 0, ptr b 0] w (fun v w' => v = .bool true ∧ Ext w w') := by
 obtain ⟨Ta, Tb, h1, h2, h3, h4, h5⟩ := h
 exact tells_q Ta a Tb b M ws w h1 h2 hX (by omega)
def seen (M : MS) (addr : BitVec 64) : BitVec 64 × Bool := match whereM M.n addr 8 with
 | none => (0#64, false)
 | some (k, o) => (loadB (if k then M.d else M.s) o 8, true)
theorem seen_not {M : MS} {addr : BitVec 64} (h : (seen M addr).2 = false) : (seen M addr).1 = 0#64 := by
 unfold seen at h ⊢
 split at h
 ·rfl
 ·cases h
theorem Pair.peek {w0 w : World} {a b : Nat} {Ma Mb : MS} {ws : List (BitVec 32)} (h : Pair w0 w a b Ma Mb ws) (addr : BitVec 64) :
  CallsR Tryz.prog 21 #[ptr a 0, U64 addr] w (fun v w' => v = .tuple #[U64 (seen Ma addr).1, .bool (seen Ma addr).2] ∧ Ext w w') := by
 obtain ⟨Ta, Tb, h1, h2, h3, h4, h5⟩ := h
 unfold seen
 rcases hW : whereM Ma.n addr 8 with _ | ⟨k, o⟩
 ·exact peek_no Ta a Ma w h1 addr hW
 ·exact peek_ok Ta a Ma w h1 addr k o hW
theorem Pair.load {w0 w : World} {a b : Nat} {Ma Mb : MS} {ws : List (BitVec 32)} (h : Pair w0 w a b Ma Mb ws) (addr : BitVec 64) :
  CallsR Tryz.prog 24 #[ptr b 0, U64 addr, IN 8] w (fun v w' => v = .tuple #[U64 (seen Mb addr).1, .bool (seen Mb addr).2] ∧ Ext w w') := by
 obtain ⟨Ta, Tb, h1, h2, h3, h4, h5⟩ := h
 unfold seen
 rcases hW : whereM Mb.n addr 8 with _ | ⟨k, o⟩
 ·exact loadRR_none Tb b Mb ws w h2 addr 8 (by omega) hW
 ·exact loadRR_some Tb b Mb ws w h2 addr 8 k o (by omega) hW
def itV : Nat → MS → MS
 | 0, M => M
 | k + 1, M => stepV (itV k M)
theorem stepV_keeps (M : MS) : (stepV M).code = M.code ∧ (stepV M).events.length ≤ M.events.length + 1 := by
 unfold stepV; split
 ·exact ⟨G, by omega⟩
 ·exact stepM_keeps M
theorem itV_keeps : ∀ (k : Nat) (M : MS), (itV k M).code = M.code ∧ (itV k M).events.length ≤ M.events.length + k
 | 0, M => ⟨rfl, by show M.events.length ≤ _; omega⟩
 | k + 1, M => by
  obtain ⟨h1, h2⟩ := itV_keeps k M
  obtain ⟨h3, h4⟩ := stepV_keeps (itV k M)
  exact ⟨h3.trans h1, by show (stepV (itV k M)).events.length ≤ _; omega⟩
theorem stepE_ok (M : MS) : (((stepE M : Nat) : Int) == (0 : Int)) = !M.fin.isSome := by
 unfold stepE; cases M.fin <;> rfl
theorem stepE_four {M : MS} (h : M.fin.isSome = true) : (((stepE M : Nat) : Int) != (4 : Int)) = false := by
 unfold stepE; rw [if_pos h]; rfl
end Go.Proofs.S
end
section
set_option linter.unusedSimpArgs false
set_option linter.unusedVariables false
namespace Go.Proofs.S
open Go Go.Ux Go.Ux.Mach Go.Proofs
theorem el66 : elemT Tryz.prog 66 = some 39 := by kernel_rfl
theorem ca23 : callable Tryz.prog 23 = true := by kernel_rfl
theorem zt61 : zeroT Tryz.prog 61 = some #[.int .i64 0, .slice none 0 0, .slice none 0 0] := by kernel_rfl
theorem sz61 : sizeT Tryz.prog 61 = some 3 := by kernel_rfl
theorem ag61 : isAggT Tryz.prog 61 = some true := by kernel_rfl
theorem ca25 : callable Tryz.prog 25 = true := by kernel_rfl
theorem ca22 : callable Tryz.prog 22 = true := by kernel_rfl
theorem ca26 : callable Tryz.prog 26 = true := by kernel_rfl
theorem ca27 : callable Tryz.prog 27 = true := by kernel_rfl
theorem ca21 : callable Tryz.prog 21 = true := by kernel_rfl
open Go.Proofs.M (instV Glob)
open Go.Ux.Image
theorem right_words {I : Img} (h : rightB I = true) : 0 < I.words.length := by
 simp only [rightB, right2, right3, Bool.and_eq_true, decide_eq_true_eq] at h
 have := h.1.1.2.1; omega
theorem new_sep {w1 w1' : World} {a : Nat} {M : MS} {Ta Tb : Nat → Nat} (ha : MR Ta w1 a M) (hx : Ext w1 w1') (hFb : ∀ k, Tb k ≠ 0 → w1'.heap.size ≤ k) : ∀ k, Ta k ≠ 0 → Tb k = 0 := fun k hk => by
 rcases Nat.eq_zero_or_pos (Tb k) with h | h
 ·exact h
 ·have l1 := (ha.lt k hk).1; have l2 := hFb k (by omega); have := hx.size; omega
theorem getD_map {α : Type} (l : List α) (d : α) (f : α → Value) {i : Nat} (h : i < l.length) : (l.map f)[i]? = some (f (l.getD i d)) := by
 rw [List.getElem?_map, List.getElem?_eq_getElem h, List.getD_eq_getElem?_getD, List.getElem?_eq_getElem h]; rfl
theorem runs_big1 (I : Img) (sv wv iv0 : Value) (inp : List (BitVec 64)) (p : BitVec 8) (lk : Value) (L : List (BitVec 64)) (w : World) (hG : Glob w) (hX : w.cell? ⟨3, 0, none⟩ = some (.iface 206 (.agg #[.pointer (some ⟨6, 83, none⟩)]))) (hs : Sl w sv 2 I.syms.length (symCells I.syms)) (hw : Sl w wv 1 I.words.length (wordCells I.words)) (hN : ∀ s ∈ I.syms, True ∧ s.2 ≤ 9223372036854775807) (hI : Sl w iv0 1 inp.length (inp.map I64)) (hIf : iv0 = .slice none 0 0 ∨ ∃ a c, iv0 = .slice (some a) inp.length c) (hLk : Sl w lk 1 L.length (L.map U64)) (d0 : 300 < I.words.length) : CallsR Tryz.prog 7 #[.agg #[.int .i64 I.entry, sv, wv], iv0, U8 p, lk] w (fun v w' => v = .bool true ∧ Ext w w') := by
 refine callsR_of Tryz.func7 G G G ?_
 refine Sr (WL.box (v := .agg #[.int .i64 I.entry, sv, wv]) G G ?_)
 intro b4 w4 n4
 have E1 : Ext w w4 := n4.ext
 refine An (.bool false) G (Ni (Sq (Sr (Fa G fo25_2 (Lo G ag23 (n4.blk.cell (j := 2) G) (WL.lenSl (sz := 1) (m := I.words.length) (xs := wordCells I.words) el23 G (hw.ext' E1) G (Bn (v := .bool true) G G (BinR.toB BinR.gtr (decide_eq_true (by omega))) (Mv (.bool true) G ?_))))))))
 refine Gf true G (Gf true G (Gf true G (Gf true G (Pk (b := true) G G (Mv (.bool true) G (Gf true G (Gf true G (Gf true G (Pk (b := true) G G ?_)))))))))
 refine Mv (.bool true) G (Gf true G (Gf true G (Gf true G (Pk (b := true) G G (Mv (.bool true) G (Gf true G (Gf true G (Gf true G (Pk (b := true) G G ?_)))))))))
 refine Ni (Ct G (Sr (WL.call ca9 G G (works_spec _ (hG.ext E1) (Mod.cell E1 hX (fun h => h))) ?_)))
 rintro _ wk48 ⟨rfl, ek48⟩
 have E2 := Mt E1 ek48
 refine An (.bool true) G (Ni (WC.ret ?_))
 exact ⟨_, Res.one (v := .bool true) G G, G, E2⟩
theorem runs_big2 (I : Img) (sv wv iv0 : Value) (inp : List (BitVec 64)) (p : BitVec 8) (lk : Value) (L : List (BitVec 64)) (w : World) (hG : Glob w) (hX : w.cell? ⟨3, 0, none⟩ = some (.iface 206 (.agg #[.pointer (some ⟨6, 83, none⟩)]))) (hs : Sl w sv 2 I.syms.length (symCells I.syms)) (hw : Sl w wv 1 I.words.length (wordCells I.words)) (hN : ∀ s ∈ I.syms, True ∧ s.2 ≤ 9223372036854775807) (hI : Sl w iv0 1 inp.length (inp.map I64)) (hIf : iv0 = .slice none 0 0 ∨ ∃ a c, iv0 = .slice (some a) inp.length c) (hLk : Sl w lk 1 L.length (L.map U64)) (d0 : ¬ (300 < I.words.length)) (d1 : 70 < I.syms.length) : CallsR Tryz.prog 7 #[.agg #[.int .i64 I.entry, sv, wv], iv0, U8 p, lk] w (fun v w' => v = .bool true ∧ Ext w w') := by
 refine callsR_of Tryz.func7 G G G ?_
 refine Sr (WL.box (v := .agg #[.int .i64 I.entry, sv, wv]) G G ?_)
 intro b4 w4 n4
 have E1 : Ext w w4 := n4.ext
 refine An (.bool false) G (Ni (Sq (Sr (Fa G fo25_2 (Lo G ag23 (n4.blk.cell (j := 2) G) (WL.lenSl (sz := 1) (m := I.words.length) (xs := wordCells I.words) el23 G (hw.ext' E1) G (Bn (v := .bool false) G G (BinR.toB BinR.gtr (decide_eq_false (by omega))) (Mv (.bool false) G ?_))))))))
 refine Gt G (Fa G fo25_1 (Gt G (Lo G ag22 (n4.blk.cell (j := 1) G) (Gt G (WL.lenSl (sz := 2) (m := I.syms.length) (xs := symCells I.syms) el22 G (hs.ext' E1) G (Gt G (Bn (v := .bool true) G G (BinR.toB BinR.gtr (decide_eq_true (by omega))) (Pk (b := false) G G (Mv (.bool true) G ?_)))))))))
 refine Gf true G (Gf true G (Gf true G (Pk (b := true) G G (Mv (.bool true) G (Gf true G (Gf true G (Gf true G (Pk (b := true) G G (Mv (.bool true) G ?_)))))))))
 refine Gf true G (Gf true G (Gf true G (Pk (b := true) G G (Ni (Ct G (Sr (WL.call ca9 G G (works_spec _ (hG.ext E1) (Mod.cell E1 hX (fun h => h))) ?_)))))))
 rintro _ wk48 ⟨rfl, ek48⟩
 have E2 := Mt E1 ek48
 refine An (.bool true) G (Ni (WC.ret ?_))
 exact ⟨_, Res.one (v := .bool true) G G, G, E2⟩
theorem runs_big3 (I : Img) (sv wv iv0 : Value) (inp : List (BitVec 64)) (p : BitVec 8) (lk : Value) (L : List (BitVec 64)) (w : World) (hG : Glob w) (hX : w.cell? ⟨3, 0, none⟩ = some (.iface 206 (.agg #[.pointer (some ⟨6, 83, none⟩)]))) (hs : Sl w sv 2 I.syms.length (symCells I.syms)) (hw : Sl w wv 1 I.words.length (wordCells I.words)) (hN : ∀ s ∈ I.syms, True ∧ s.2 ≤ 9223372036854775807) (hI : Sl w iv0 1 inp.length (inp.map I64)) (hIf : iv0 = .slice none 0 0 ∨ ∃ a c, iv0 = .slice (some a) inp.length c) (hLk : Sl w lk 1 L.length (L.map U64)) (d0 : ¬ (300 < I.words.length)) (d1 : ¬ (70 < I.syms.length)) (d2 : 4096 < I.entry) : CallsR Tryz.prog 7 #[.agg #[.int .i64 I.entry, sv, wv], iv0, U8 p, lk] w (fun v w' => v = .bool true ∧ Ext w w') := by
 refine callsR_of Tryz.func7 G G G ?_
 refine Sr (WL.box (v := .agg #[.int .i64 I.entry, sv, wv]) G G ?_)
 intro b4 w4 n4
 have E1 : Ext w w4 := n4.ext
 refine An (.bool false) G (Ni (Sq (Sr (Fa G fo25_2 (Lo G ag23 (n4.blk.cell (j := 2) G) (WL.lenSl (sz := 1) (m := I.words.length) (xs := wordCells I.words) el23 G (hw.ext' E1) G (Bn (v := .bool false) G G (BinR.toB BinR.gtr (decide_eq_false (by omega))) (Mv (.bool false) G ?_))))))))
 refine Gt G (Fa G fo25_1 (Gt G (Lo G ag22 (n4.blk.cell (j := 1) G) (Gt G (WL.lenSl (sz := 2) (m := I.syms.length) (xs := symCells I.syms) el22 G (hs.ext' E1) G (Gt G (Bn (v := .bool false) G G (BinR.toB BinR.gtr (decide_eq_false (by omega))) (Pk (b := false) G G (Mv (.bool false) G ?_)))))))))
 refine Gt G (Fa G fo25_0 (Gt G (Lo G ag3 (n4.blk.cell (j := 0) G) (Gt G (Bn (v := .bool true) G G (BinR.toB BinR.gtr (decide_eq_true (by omega))) (Pk (b := false) G G (Mv (.bool true) G (Gf true G (Gf true G ?_)))))))))
 refine Gf true G (Pk (b := true) G G (Mv (.bool true) G (Gf true G (Gf true G (Gf true G (Pk (b := true) G G (Ni (Ct G (Sq ?_)))))))))
 refine Rg (WL.call ca9 G G (works_spec _ (hG.ext E1) (Mod.cell E1 hX (fun h => h))) ?_)
 rintro _ wk48 ⟨rfl, ek48⟩
 have E2 := Mt E1 ek48
 refine An (.bool true) G (Ni (WC.ret ?_))
 exact ⟨_, Res.one (v := .bool true) G G, G, E2⟩
theorem runs_big4 (I : Img) (sv wv iv0 : Value) (inp : List (BitVec 64)) (p : BitVec 8) (lk : Value) (L : List (BitVec 64)) (w : World) (hG : Glob w) (hX : w.cell? ⟨3, 0, none⟩ = some (.iface 206 (.agg #[.pointer (some ⟨6, 83, none⟩)]))) (hs : Sl w sv 2 I.syms.length (symCells I.syms)) (hw : Sl w wv 1 I.words.length (wordCells I.words)) (hN : ∀ s ∈ I.syms, True ∧ s.2 ≤ 9223372036854775807) (hI : Sl w iv0 1 inp.length (inp.map I64)) (hIf : iv0 = .slice none 0 0 ∨ ∃ a c, iv0 = .slice (some a) inp.length c) (hLk : Sl w lk 1 L.length (L.map U64)) (d0 : ¬ (300 < I.words.length)) (d1 : ¬ (70 < I.syms.length)) (d2 : ¬ (4096 < I.entry)) (d3 : 30 < inp.length) : CallsR Tryz.prog 7 #[.agg #[.int .i64 I.entry, sv, wv], iv0, U8 p, lk] w (fun v w' => v = .bool true ∧ Ext w w') := by
 refine callsR_of Tryz.func7 G G G ?_
 refine Sr (WL.box (v := .agg #[.int .i64 I.entry, sv, wv]) G G ?_)
 intro b4 w4 n4
 have E1 : Ext w w4 := n4.ext
 refine An (.bool false) G (Ni (Sq (Sr (Fa G fo25_2 (Lo G ag23 (n4.blk.cell (j := 2) G) (WL.lenSl (sz := 1) (m := I.words.length) (xs := wordCells I.words) el23 G (hw.ext' E1) G (Bn (v := .bool false) G G (BinR.toB BinR.gtr (decide_eq_false (by omega))) (Mv (.bool false) G ?_))))))))
 refine Gt G (Fa G fo25_1 (Gt G (Lo G ag22 (n4.blk.cell (j := 1) G) (Gt G (WL.lenSl (sz := 2) (m := I.syms.length) (xs := symCells I.syms) el22 G (hs.ext' E1) G (Gt G (Bn (v := .bool false) G G (BinR.toB BinR.gtr (decide_eq_false (by omega))) (Pk (b := false) G G (Mv (.bool false) G ?_)))))))))
 refine Gt G (Fa G fo25_0 (Gt G (Lo G ag3 (n4.blk.cell (j := 0) G) (Gt G (Bn (v := .bool false) G G (BinR.toB BinR.gtr (decide_eq_false (by omega))) (Pk (b := false) G G (Mv (.bool false) G (Gt G (Mv iv0 G ?_)))))))))
 refine Gt G (WL.lenSl (sz := 1) (m := inp.length) (xs := inp.map I64) el26 G (hI.ext' E1) G (Gt G (Bn (v := .bool true) G G (BinR.toB BinR.gtr (decide_eq_true (by omega))) (Pk (b := false) G G (Mv (.bool true) G (Gf true G (Gf true G (Gf true G (Pk (b := true) G G ?_)))))))))
 refine Ni (Ct G (Sr (WL.call ca9 G G (works_spec _ (hG.ext E1) (Mod.cell E1 hX (fun h => h))) ?_)))
 rintro _ wk48 ⟨rfl, ek48⟩
 have E2 := Mt E1 ek48
 refine An (.bool true) G (Ni (WC.ret ?_))
 exact ⟨_, Res.one (v := .bool true) G G, G, E2⟩
theorem runs_big5 (I : Img) (sv wv iv0 : Value) (inp : List (BitVec 64)) (p : BitVec 8) (lk : Value) (L : List (BitVec 64)) (w : World) (hG : Glob w) (hX : w.cell? ⟨3, 0, none⟩ = some (.iface 206 (.agg #[.pointer (some ⟨6, 83, none⟩)]))) (hs : Sl w sv 2 I.syms.length (symCells I.syms)) (hw : Sl w wv 1 I.words.length (wordCells I.words)) (hN : ∀ s ∈ I.syms, True ∧ s.2 ≤ 9223372036854775807) (hI : Sl w iv0 1 inp.length (inp.map I64)) (hIf : iv0 = .slice none 0 0 ∨ ∃ a c, iv0 = .slice (some a) inp.length c) (hLk : Sl w lk 1 L.length (L.map U64)) (d0 : ¬ (300 < I.words.length)) (d1 : ¬ (70 < I.syms.length)) (d2 : ¬ (4096 < I.entry)) (d3 : ¬ (30 < inp.length)) (d4 : 30 < L.length) : CallsR Tryz.prog 7 #[.agg #[.int .i64 I.entry, sv, wv], iv0, U8 p, lk] w (fun v w' => v = .bool true ∧ Ext w w') := by
 refine callsR_of Tryz.func7 G G G ?_
 refine Sr (WL.box (v := .agg #[.int .i64 I.entry, sv, wv]) G G ?_)
 intro b4 w4 n4
 have E1 : Ext w w4 := n4.ext
 refine An (.bool false) G (Ni (Sq (Sr (Fa G fo25_2 (Lo G ag23 (n4.blk.cell (j := 2) G) (WL.lenSl (sz := 1) (m := I.words.length) (xs := wordCells I.words) el23 G (hw.ext' E1) G (Bn (v := .bool false) G G (BinR.toB BinR.gtr (decide_eq_false (by omega))) (Mv (.bool false) G ?_))))))))
 refine Gt G (Fa G fo25_1 (Gt G (Lo G ag22 (n4.blk.cell (j := 1) G) (Gt G (WL.lenSl (sz := 2) (m := I.syms.length) (xs := symCells I.syms) el22 G (hs.ext' E1) G (Gt G (Bn (v := .bool false) G G (BinR.toB BinR.gtr (decide_eq_false (by omega))) (Pk (b := false) G G (Mv (.bool false) G ?_)))))))))
 refine Gt G (Fa G fo25_0 (Gt G (Lo G ag3 (n4.blk.cell (j := 0) G) (Gt G (Bn (v := .bool false) G G (BinR.toB BinR.gtr (decide_eq_false (by omega))) (Pk (b := false) G G (Mv (.bool false) G (Gt G (Mv iv0 G ?_)))))))))
 refine Gt G (WL.lenSl (sz := 1) (m := inp.length) (xs := inp.map I64) el26 G (hI.ext' E1) G (Gt G (Bn (v := .bool false) G G (BinR.toB BinR.gtr (decide_eq_false (by omega))) (Pk (b := false) G G (Mv (.bool false) G (Gt G (Mv lk G (Gt G (WL.lenSl (sz := 1) (m := L.length) (xs := L.map U64) el66 G (hLk.ext' E1) G ?_)))))))))
 refine Gt G (Bn (v := .bool true) G G (BinR.toB BinR.gtr (decide_eq_true (by omega))) (Pk (b := false) G G (Ni (Ct G (Sr (WL.call ca9 G G (works_spec _ (hG.ext E1) (Mod.cell E1 hX (fun h => h))) ?_))))))
 rintro _ wk48 ⟨rfl, ek48⟩
 have E2 := Mt E1 ek48
 refine An (.bool true) G (Ni (WC.ret ?_))
 exact ⟨_, Res.one (v := .bool true) G G, G, E2⟩
theorem runs_no (I : Img) (sv wv iv0 : Value) (inp : List (BitVec 64)) (p : BitVec 8) (lk : Value) (L : List (BitVec 64)) (w : World) (hG : Glob w) (hX : w.cell? ⟨3, 0, none⟩ = some (.iface 206 (.agg #[.pointer (some ⟨6, 83, none⟩)]))) (hs : Sl w sv 2 I.syms.length (symCells I.syms)) (hw : Sl w wv 1 I.words.length (wordCells I.words)) (hN : ∀ s ∈ I.syms, True ∧ s.2 ≤ 9223372036854775807) (hI : Sl w iv0 1 inp.length (inp.map I64)) (hIf : iv0 = .slice none 0 0 ∨ ∃ a c, iv0 = .slice (some a) inp.length c) (hLk : Sl w lk 1 L.length (L.map U64)) (c1 : I.words.length ≤ 300) (c2 : I.syms.length ≤ 70) (c3 : I.entry ≤ 4096) (c4 : inp.length ≤ 30) (c5 : L.length ≤ 30) (hr : rightB I = false) : CallsR Tryz.prog 7 #[.agg #[.int .i64 I.entry, sv, wv], iv0, U8 p, lk] w (fun v w' => v = .bool true ∧ Ext w w') := by
 have hR : Rep w sv wv I := ⟨hs, hw, by omega, by omega⟩
 refine callsR_of Tryz.func7 G G G ?_
 refine Sr (WL.box (v := .agg #[.int .i64 I.entry, sv, wv]) G G ?_)
 intro b4 w4 n4
 have E1 : Ext w w4 := n4.ext
 refine An (.bool false) G (Ni (Sq (Sr (Fa G fo25_2 (Lo G ag23 (n4.blk.cell (j := 2) G) (WL.lenSl (sz := 1) (m := I.words.length) (xs := wordCells I.words) el23 G (hw.ext' E1) G (Bn (v := .bool false) G G (BinR.toB BinR.gtr (decide_eq_false (by omega))) (Mv (.bool false) G ?_))))))))
 refine Gt G (Fa G fo25_1 (Gt G (Lo G ag22 (n4.blk.cell (j := 1) G) (Gt G (WL.lenSl (sz := 2) (m := I.syms.length) (xs := symCells I.syms) el22 G (hs.ext' E1) G (Gt G (Bn (v := .bool false) G G (BinR.toB BinR.gtr (decide_eq_false (by omega))) (Pk (b := false) G G (Mv (.bool false) G ?_)))))))))
 refine Gt G (Fa G fo25_0 (Gt G (Lo G ag3 (n4.blk.cell (j := 0) G) (Gt G (Bn (v := .bool false) G G (BinR.toB BinR.gtr (decide_eq_false (by omega))) (Pk (b := false) G G (Mv (.bool false) G (Gt G (Mv iv0 G ?_)))))))))
 refine Gt G (WL.lenSl (sz := 1) (m := inp.length) (xs := inp.map I64) el26 G (hI.ext' E1) G (Gt G (Bn (v := .bool false) G G (BinR.toB BinR.gtr (decide_eq_false (by omega))) (Pk (b := false) G G (Mv (.bool false) G (Gt G (Mv lk G (Gt G (WL.lenSl (sz := 1) (m := L.length) (xs := L.map U64) el66 G (hLk.ext' E1) G ?_)))))))))
 refine Gt G (Bn (v := .bool false) G G (BinR.toB BinR.gtr (decide_eq_false (by omega))) (Pk (b := false) G G (Ni (Cf G (WC.skip (Sr (Ls [.int .i64 I.entry, sv, wv] G ag25 sz25 n4.blk (WL.call ca23 G G (Go.Proofs.R.plain_spec sv wv I _ (hR.ext E1)) ?_))))))))
 rintro _ w50 ⟨u50, rfl, hu50, fu50, e50⟩
 have F50 : From w.heap.size u50 := fun g hg => Nat.le_trans (Mod.size E1) (fu50 g hg)
 have E2 := Mt E1 e50
 refine WL.allocStore (v := .agg #[.int .i64 I.entry, u50, wv]) zt61 G sz61 G G (ones3 G hu50.sl.one (hw.ext' E2).one) G ?_
 intro b9 w9 n9
 have E3 := Mt E2 n9.ext
 refine Ni (Sr (An (.slice none 0 0) G (Ni (Sr (Mv (.slice none 0 0) G (Mv iv0 G (WL.append (k := 0) (m := inp.length) (xs := []) (news := inp.map I64) ap26 G G G (Ux.Own.nil _ 1) ((hI.ext' E3).src Tryz.underlying26 (ones_I64 _)) (by omega) (by omega) G ?_)))))))
 intro v53 w53 o53 m53 l53
 have e53 : Ext w9 w53 := Mod.then (Mod.refl _ _) m53 (fun i hi e => by cases e)
 have o53b : Ux.Own w53 1 v53 inp.length (inp.map I64) := by simpa using o53
 have hIf53 := long_form o53b
 have F53 : From w.heap.size v53 := fun g hg => by
  have := Mod.size E3
  rcases l53 with h | ⟨g2, h, h2⟩
  ·rw [h] at hg; cases hg
  ·rw [h] at hg; cases hg; omega
 have E4 := Mt E3 e53
 refine An v53 G (Ni (Sr ?_))
 have B5 := ((n4.blk.ext e50).ext n9.ext).ext e53
 refine Ls [.int .i64 I.entry, sv, wv] G ag25 sz25 B5 (Mv v53 G (WL.call ca10 G G (new_no I sv wv v53 inp _ (hR.ext E4) hN hr) ?_))
 rintro _ wna ⟨rfl, ena⟩
 have E6 := Mt E4 ena
 refine Mv (.tuple #[.pointer none, IN 2]) G (Et G G (Et G G (An (.pointer none) G (An (IN 2) G (Ni (Sq (Sr ?_)))))))
 have B7 := (n9.blk.ext e53).ext ena
 refine Ls [.int .i64 I.entry, u50, wv] G ag61 sz61 B7 ?_
 have S8 := ((hu50.sl.ext' n9.ext).ext' e53).ext' ena
 refine WL.call ca25 G G (Go.Proofs.R.rright_spec u50 wv I _ ⟨S8, hw.ext' E6, by omega, by omega⟩) ?_
 rintro _ w61 ⟨rfl, e61⟩
 rw [hr]
 have E9 := Mt E6 e61
 refine WL.un G G UnR.not (Ni (Ct G (Sr (Mv (IN 2) G (Bn (v := .bool true) G G (BinR.toB BinR.eql G) (Mv (.bool true) G (Gt G (Mv (.pointer none) G ?_))))))))
 refine Gt G (Bn G G (BinR.eqlPP Tryz.underlying28) (Pk (b := true) G G (Mv (.bool true) G (Gt G (WL.call ca9 G G (works_spec _ (hG.ext E9) (Mod.cell E9 hX (fun h => h))) ?_)))))
 rintro _ wk70 ⟨rfl, ek70⟩
 have E10 := Mt E9 ek70
 refine Pk (b := true) G G (An (.bool true) G (Ni (WC.ret ?_)))
 exact ⟨_, Res.one (v := .bool true) G G, G, E10⟩
set_option maxHeartbeats 2000000 in
theorem runs_ok (I : Img) (sv wv iv0 : Value) (inp : List (BitVec 64)) (p : BitVec 8) (lk : Value) (L : List (BitVec 64)) (w : World) (hG : Glob w) (hX : w.cell? ⟨3, 0, none⟩ = some (.iface 206 (.agg #[.pointer (some ⟨6, 83, none⟩)]))) (hs : Sl w sv 2 I.syms.length (symCells I.syms)) (hw : Sl w wv 1 I.words.length (wordCells I.words)) (hN : ∀ s ∈ I.syms, True ∧ s.2 ≤ 9223372036854775807) (hI : Sl w iv0 1 inp.length (inp.map I64)) (hIf : iv0 = .slice none 0 0 ∨ ∃ a c, iv0 = .slice (some a) inp.length c) (hLk : Sl w lk 1 L.length (L.map U64)) (c1 : I.words.length ≤ 300) (c2 : I.syms.length ≤ 70) (c3 : I.entry ≤ 4096) (c4 : inp.length ≤ 30) (c5 : L.length ≤ 30) (hr : rightB I = true) : CallsR Tryz.prog 7 #[.agg #[.int .i64 I.entry, sv, wv], iv0, U8 p, lk] w (fun v w' => v = .bool true ∧ Ext w w') := by
 have hR : Rep w sv wv I := ⟨hs, hw, by omega, by omega⟩
 obtain ⟨hr1, hr2, hr3⟩ := right_facts hr
 have hp := p.isLt
 refine callsR_of Tryz.func7 G G G ?_
 refine Sr (WL.box (v := .agg #[.int .i64 I.entry, sv, wv]) G G ?_)
 intro b4 w4 n4
 have E1 : Ext w w4 := n4.ext
 refine An (.bool false) G (Ni (Sq (Sr (Fa G fo25_2 (Lo G ag23 (n4.blk.cell (j := 2) G) (WL.lenSl (sz := 1) (m := I.words.length) (xs := wordCells I.words) el23 G (hw.ext' E1) G (Bn (v := .bool false) G G (BinR.toB BinR.gtr (decide_eq_false (by omega))) (Mv (.bool false) G ?_))))))))
 refine Gt G (Fa G fo25_1 (Gt G (Lo G ag22 (n4.blk.cell (j := 1) G) (Gt G (WL.lenSl (sz := 2) (m := I.syms.length) (xs := symCells I.syms) el22 G (hs.ext' E1) G (Gt G (Bn (v := .bool false) G G (BinR.toB BinR.gtr (decide_eq_false (by omega))) (Pk (b := false) G G (Mv (.bool false) G ?_)))))))))
 refine Gt G (Fa G fo25_0 (Gt G (Lo G ag3 (n4.blk.cell (j := 0) G) (Gt G (Bn (v := .bool false) G G (BinR.toB BinR.gtr (decide_eq_false (by omega))) (Pk (b := false) G G (Mv (.bool false) G (Gt G (Mv iv0 G ?_)))))))))
 refine Gt G (WL.lenSl (sz := 1) (m := inp.length) (xs := inp.map I64) el26 G (hI.ext' E1) G (Gt G (Bn (v := .bool false) G G (BinR.toB BinR.gtr (decide_eq_false (by omega))) (Pk (b := false) G G (Mv (.bool false) G (Gt G (Mv lk G (Gt G (WL.lenSl (sz := 1) (m := L.length) (xs := L.map U64) el66 G (hLk.ext' E1) G ?_)))))))))
 refine Gt G (Bn (v := .bool false) G G (BinR.toB BinR.gtr (decide_eq_false (by omega))) (Pk (b := false) G G (Ni (Cf G (WC.skip (Sr (Ls [.int .i64 I.entry, sv, wv] G ag25 sz25 n4.blk (WL.call ca23 G G (Go.Proofs.R.plain_spec sv wv I _ (hR.ext E1)) ?_))))))))
 rintro _ w50 ⟨u50, rfl, hu50, fu50, e50⟩
 have F50 : From w.heap.size u50 := fun g hg => Nat.le_trans (Mod.size E1) (fu50 g hg)
 have E2 := Mt E1 e50
 refine WL.allocStore (v := .agg #[.int .i64 I.entry, u50, wv]) zt61 G sz61 G G (ones3 G hu50.sl.one (hw.ext' E2).one) G ?_
 intro b9 w9 n9
 have E3 := Mt E2 n9.ext
 refine Ni (Sr (An (.slice none 0 0) G (Ni (Sr (Mv (.slice none 0 0) G (Mv iv0 G (WL.append (k := 0) (m := inp.length) (xs := []) (news := inp.map I64) ap26 G G G (Ux.Own.nil _ 1) ((hI.ext' E3).src Tryz.underlying26 (ones_I64 _)) (by omega) (by omega) G ?_)))))))
 intro v53 w53 o53 m53 l53
 have e53 : Ext w9 w53 := Mod.then (Mod.refl _ _) m53 (fun i hi e => by cases e)
 have o53b : Ux.Own w53 1 v53 inp.length (inp.map I64) := by simpa using o53
 have hIf53 := long_form o53b
 have F53 : From w.heap.size v53 := fun g hg => by
  have := Mod.size E3
  rcases l53 with h | ⟨g2, h, h2⟩
  ·rw [h] at hg; cases hg
  ·rw [h] at hg; cases hg; omega
 have E4 := Mt E3 e53
 refine An v53 G (Ni (Sr ?_))
 have B5 := ((n4.blk.ext e50).ext n9.ext).ext e53
 refine Ls [.int .i64 I.entry, sv, wv] G ag25 sz25 B5 (Mv v53 G (WL.call ca10 G G (new_ok I sv wv v53 inp _ (hR.ext E4) hN (hG.ext E4) (glob_size (hG.ext E4)) o53b.sl hIf53 (by omega) hr) ?_))
 rintro _ wna ⟨Ta, ba, rfl, hMa, hTa, ena⟩
 have hFa : ∀ k, Ta k ≠ 0 → w.heap.size ≤ k := fun k h => Nat.le_trans (Mod.size E4) (hTa k h)
 have hva : 0 < inp.length → ∀ g, v53.ownBlock = some g → Ta g = 0 := fun h0 g e => by
  rcases Nat.eq_zero_or_pos (Ta g) with h | h
  ·exact h
  ·have h1 := hTa g (by omega); have h2 := o53b.lt h0 (by decide) e; omega
 have E6 := Mt E4 ena
 refine Mv (.tuple #[ptr ba 0, IN 0]) G (Et G G (Et G G (An (ptr ba 0) G (An (IN 0) G (Ni (Sq (Sr ?_)))))))
 have B7 := (n9.blk.ext e53).ext ena
 refine Ls [.int .i64 I.entry, u50, wv] G ag61 sz61 B7 ?_
 have S8 := ((hu50.sl.ext' n9.ext).ext' e53).ext' ena
 refine WL.call ca25 G G (Go.Proofs.R.rright_spec u50 wv I _ ⟨S8, hw.ext' E6, by omega, by omega⟩) ?_
 rintro _ w61 ⟨rfl, e61⟩
 rw [hr]
 have R9 : Ext wna w61 := e61
 have E10 := Mt E6 e61
 refine WL.un G G UnR.not (Ni (Cf G (WC.skip (Sq (Sr (Mv (IN 0) G (Bn (v := .bool false) G G (BinR.toB BinR.neq G) (Ni ?_))))))))
 refine Cf G (WC.skip (Sr ?_))
 have B11 := B7.ext e61
 refine Ls [.int .i64 I.entry, u50, wv] G ag61 sz61 B11 (Mv iv0 G ?_)
 have O12 := (o53b.ext ena).ext e61
 have S13 := S8.ext' e61
 refine WL.call ca22 G G (rnewT u50 wv iv0 I inp _ (hw.ext' E10) (by omega) (hI.ext' E10) (by omega) hr1 (by omega) S13.one (right_words hr)) ?_
 rintro _ wnb ⟨Tb, bb, rfl, hMb, hTb, enb⟩
 have hFb : ∀ k, Tb k ≠ 0 → w.heap.size ≤ k := fun k h => Nat.le_trans (Mod.size E10) (hTb k h)
 have hsep := new_sep hMa R9 hTb
 have hvb : 0 < inp.length → ∀ g, v53.ownBlock = some g → Tb g = 0 := fun h0 g e => by
  rcases Nat.eq_zero_or_pos (Tb g) with h | h
  ·exact h
  ·have h1 := hTb g (by omega); have h2 := O12.lt h0 (by decide) e; omega
 have R14 := Mt R9 enb
 have E15 := Mt E10 enb
 refine An (ptr bb 0) G (Ni (Sq (Sr (An (IN 0) G (Ni (Bk ?_))))))
 refine WC.loop (fun k f w_ => ∃ i zs, (k + i = inp.length) ∧ (List.length (zs : List (BitVec 64)) = inp.length) ∧ f 2 = U8 p ∧ f 3 = lk ∧ f 10 = v53 ∧ f 11 = ptr ba 0 ∧ f 13 = ptr bb 0 ∧ f 14 = IN i ∧ (Ext w w_) ∧ (Ux.Own w_ 1 v53 inp.length (List.map I64 zs)) ∧ (MR Ta w_ ba (newM I inp)) ∧ (RR Tb w_ bb (newM I inp) I.words)) inp.length ?_ ?_
 have O16 := O12.ext enb
 ·exact ⟨0, inp, by omega, G, G, G, G, G, G, G, E15, O16, hMa.ext R14, hMb⟩
 rintro ka f1 wr1 ⟨i, zs, hk, hzl, h2_1, h3_1, h10_1, h11_1, h13_1, h14_1, hE, hO, hLa, hLb⟩
 refine Sq (Sr (Mv (IN i) h14_1 (Mv v53 h10_1 (WL.lenSl (sz := 1) (m := inp.length) (xs := zs.map I64) el26 G hO.sl G (Bn G G BinR.lss (Ni ?_))))))
 refine WC.cond G (fun hc80 => ?_) (fun hc80 => ?_)
 ·have hi : i < inp.length := by have := of_decide_eq_true hc80; omega
  obtain ⟨g5, cap5, hv5, _, hc5⟩ := hO.at (by omega)
  refine WC.skip (WC.seq (WC.block (WC.region (WL.move (v := v53) h10_1 rfl (WL.move (v := IN i) h14_1 rfl (WL.move (v := v53) h10_1 rfl (WL.move (v := IN i) h14_1 rfl (WL.indexAddr (i := i) (b := g5) (o := 0) el26 sz2 (Eq.trans rfl hv5) rfl (by omega) rfl (WL.load1 rfl ag2 (by have h := hc5 (i * 1) _ (by rw [Nat.mul_one]; exact getD_map zs 0#64 I64 (by omega)); exact h) rfl ?_)))))))))
  refine Bn (vy := I64 (1#64)) G G BinR.add64 (WL.indexAddr (i := i) (b := g5) (o := 0) el26 sz2 (Eq.trans G hv5) G (by omega) G (WL.storeOwn (i := 0 + i * 1) (u := I64 (((zs.getD i 0#64) + 1#64))) G G G sz2 hO hv5 (by omega) ?_))
  intro wsx os msx
  have os2 : Ux.Own wsx 1 v53 inp.length ((zs.set i (zs.getD i 0#64 + 1#64)).map I64) := by rw [List.map_set, ← Nat.mul_one i, ← Nat.zero_add (i * 1)]; rw [Nat.mul_one, Nat.zero_add] at os ⊢; simpa using os
  have E17 : Ext w wsx := Mod.from hE msx F53
  refine Ni (Rg (Mv (IN i) h14_1 (Bn G G (BinR.succN (by omega)) (An (IN (i + 1)) G (Ni ?_)))))
  exact ⟨ka - 1, by omega, (i + 1), (zs.set i (zs.getD i 0#64 + 1#64)), by omega, (by rw [List.length_set]; exact hzl), h2_1, h3_1, h10_1, h11_1, h13_1, G, E17, os2, hLa.mod msx (fun k hk e => hk (hva (by omega) k e)), hLb.mod msx (fun k hk e => hk (hvb (by omega) k e))⟩
 ·refine WC.exit (Sq (Sr (An (IN 0) G (Ni (Bk ?_)))))
  refine WC.loop (fun k f w_ => ∃ i, (k + i = p.toNat) ∧ f 2 = U8 p ∧ f 3 = lk ∧ f 11 = ptr ba 0 ∧ f 13 = ptr bb 0 ∧ f 15 = IN i ∧ (Pair w w_ ba bb (itV i (newM I inp)) (itV i (newM I inp)) I.words) ∧ (Ext w w_)) p.toNat ?_ ?_
  ·exact ⟨0, by omega, h2_1, h3_1, h11_1, h13_1, G, ⟨Ta, Tb, hLa, hLb, hsep, hFa, hFb⟩, hE⟩
  rintro kb f2 wr2 ⟨i, hk2, h2_2, h3_2, h11_2, h13_2, h15_2, hP, hE2⟩
  refine Sq (Sr (Mv (IN i) h15_2 (Mv (U8 p) h2_2 (Cv G (ConvR.u8n Tryz.underlying5 Tryz.underlying3) (Bn G G BinR.lss (Ni ?_))))))
  refine WC.cond G (fun hc94 => ?_) (fun hc94 => ?_)
  ·have hi : i < p.toNat := by have := of_decide_eq_true hc94; omega
   refine WC.skip (Sq (Bk (Sr (Mv (ptr bb 0) h13_2 (WL.nilCheck G G (Fa G fo70_7 (Lo G ag4 hP.ended (An (.bool ((itV i (newM I inp)).fin.isSome)) G ?_))))))))
   refine WL.nil (WC.seq (WC.region (WL.move (v := ptr ba 0) h11_2 rfl (WL.call ca18 rfl rfl (hP.stepA hE2 (by rw [(itV_keeps i _).1]; exact newM_code hr3) (hG.ext hE2) (Mod.cell hE2 hX (fun h => h)) (by have := (itV_keeps i (newM I inp)).2; have e0 : (newM I inp).events.length = 0 := rfl; omega)) ?_))))
   rintro _ wsa ⟨rfl, hPa, mA⟩
   have EM18 : Ext w wsa := Ext.new0 hE2 mA
   refine WL.assign (v := IN ((stepE (itV i (newM I inp))))) rfl rfl (WL.nil (WC.seq (WC.region (WL.move (v := ptr bb 0) h13_2 rfl (WL.call ca26 rfl rfl (hPa.stepB EM18 (by omega) (by have := (itV_keeps i (newM I inp)).2; have e0 : (newM I inp).events.length = 0 := rfl; omega)) ?_)))))
   rintro _ wsb ⟨rfl, hPb, mB⟩
   have hPb : Pair w wsb ba bb (itV (i + 1) (newM I inp)) (itV (i + 1) (newM I inp)) I.words := hPb
   have EM19 : Ext w wsb := Ext.new0 EM18 mB
   refine Ni (Sq (Sr (Mv (IN ((stepE (itV i (newM I inp))))) G (Bn (v := .bool (!((itV i (newM I inp)).fin.isSome))) G G (BinR.toB BinR.eql (stepE_ok _)) (Mv (.bool ((itV i (newM I inp)).fin.isSome)) G (WL.un G G UnR.not (Bn (v := .bool false) G G (BinR.toB (BinR.neqB Tryz.underlying4) (bne_self_eq_false _)) (Mv (.bool false) G ?_))))))))
   refine Gt G (Mv (.bool ((itV i (newM I inp)).fin.isSome)) G (Gt G (Mv (.bool ((itV i (newM I inp)).fin.isSome)) G ?_)))
   rcases Bool.eq_false_or_eq_true ((itV i (newM I inp)).fin.isSome) with hg112 | hg112
   ·refine Gt (Yb G G hg112) (Mv (IN ((stepE (itV i (newM I inp))))) G (Gt (Yb G G hg112) (Bn (v := .bool false) G G (BinR.toB BinR.neq (stepE_four hg112)) (Gt G (Pk (b := true) (congrArg Value.bool hg112) G (Pk (b := false) G G (Mv (.bool false) G (Gt G (Mv (ptr ba 0) h11_2 ?_)))))))))
    refine WL.guardT rfl (WL.move (v := ptr bb 0) h13_2 rfl (WL.guardT rfl (WL.call ca27 rfl rfl (hPb.tells (Mod.cell EM19 hX (fun h => h)) (by have := (itV_keeps (i + 1) (newM I inp)).2; have e0 : (newM I inp).events.length = 0 := rfl; omega)) ?_)))
    rintro _ wtl ⟨rfl, etl⟩
    have E20 := Mt EM19 etl
    refine Gt G (WL.un G G UnR.not (Pk (b := false) G G (Ni (Cf G (WC.skip (Sr (An (IN 0) G (Ni ?_))))))))
    refine Bk ?_
    refine WC.loop (fun k f w_ => ∃ q, (k + q = L.length) ∧ f 2 = U8 p ∧ f 3 = lk ∧ f 11 = ptr ba 0 ∧ f 13 = ptr bb 0 ∧ f 15 = IN i ∧ f 18 = IN q ∧ (Pair w w_ ba bb (itV (i + 1) (newM I inp)) (itV (i + 1) (newM I inp)) I.words) ∧ (Ext w w_)) L.length ?_ ?_
    ·exact ⟨0, by omega, h2_2, h3_2, h11_2, h13_2, h15_2, G, (hPb.ext etl), E20⟩
    rintro kc f3 wr3 ⟨q, hk3, h2_3, h3_3, h11_3, h13_3, h15_3, h18_3, hP2, hE3⟩
    refine Sq (Sr (Mv (IN q) h18_3 (Mv lk h3_3 (WL.lenSl (sz := 1) (m := L.length) (xs := L.map U64) el66 G (hLk.ext' hE3) G (Bn G G BinR.lss (Mv (.bool (decide (((q : Nat) : Int) < ((L.length : Nat) : Int)))) G ?_))))))
    rcases Bool.eq_false_or_eq_true (decide (((q : Nat) : Int) < ((L.length : Nat) : Int))) with hg127 | hg127
    ·have hq : q < L.length := by have := of_decide_eq_true hg127; omega
     refine Gt (Yb G G hg127) (Mv (IN i) h15_3 (Gt (Yb G G hg127) (Bn G G (BinR.remN (b := 20) (by decide)) (Gt (Yb G G hg127) (Bn G G BinR.eql (Pk (b := true) (congrArg Value.bool hg127) G (Ni ?_)))))))
     refine WC.cond G (fun hc131 => ?_) (fun hc131 => ?_)
     ·refine WC.skip (Sq (Bk (Sr (Mv (ptr ba 0) h11_3 (Mv lk h3_3 (Mv (IN q) h18_3 (WL.indexSl (sz := 1) (m := L.length) (xs := L.map U64) (i := q) el66 sz39 G G (by omega) (hLk.ext' hE3) G ?_)))))))
      intro b138 o138 hb138 hc138
      refine WL.load1 rfl ag39 (by have h := hc138 (q * 1) _ (by rw [Nat.mul_one]; exact getD_map L 0#64 U64 hq); exact h) rfl (WL.call ca21 rfl rfl (hP2.peek (L.getD q 0#64)) ?_)
      rintro _ wpk ⟨rfl, epk⟩
      have R21 : Ext wr3 wpk := epk
      have E22 := Mt hE3 epk
      refine Mv (.tuple #[U64 ((seen (itV (i + 1) (newM I inp)) (L.getD q 0#64)).1), .bool ((seen (itV (i + 1) (newM I inp)) (L.getD q 0#64)).2)]) G (Et G G (Et G G (An (U64 ((seen (itV (i + 1) (newM I inp)) (L.getD q 0#64)).1)) G (An (.bool ((seen (itV (i + 1) (newM I inp)) (L.getD q 0#64)).2)) G (Ni (Sr (Mv (ptr bb 0) h13_3 (Mv lk h3_3 ?_))))))))
      refine Mv (IN q) h18_3 (WL.indexSl (sz := 1) (m := L.length) (xs := L.map U64) (i := q) el66 sz39 G G (by omega) (hLk.ext' E22) G ?_)
      intro b147 o147 hb147 hc147
      refine WL.load1 rfl ag39 (by have h := hc147 (q * 1) _ (by rw [Nat.mul_one]; exact getD_map L 0#64 U64 hq); exact h) rfl (WL.call ca24 rfl rfl ((hP2.ext R21).load (L.getD q 0#64)) ?_)
      rintro _ wld ⟨rfl, eld⟩
      have R23 := Mt R21 eld
      have E24 := Mt E22 eld
      refine Mv (.tuple #[U64 ((seen (itV (i + 1) (newM I inp)) (L.getD q 0#64)).1), .bool ((seen (itV (i + 1) (newM I inp)) (L.getD q 0#64)).2)]) G (Et G G (Et G G (An (U64 ((seen (itV (i + 1) (newM I inp)) (L.getD q 0#64)).1)) G (An (.bool ((seen (itV (i + 1) (newM I inp)) (L.getD q 0#64)).2)) G (Ni (Sr (Mv (.bool ((seen (itV (i + 1) (newM I inp)) (L.getD q 0#64)).2)) G (Mv (.bool ((seen (itV (i + 1) (newM I inp)) (L.getD q 0#64)).2)) G ?_))))))))
      refine Bn (v := .bool false) G G (BinR.toB (BinR.neqB Tryz.underlying4) (bne_self_eq_false _)) (Mv (.bool false) G (Gt G (Mv (.bool ((seen (itV (i + 1) (newM I inp)) (L.getD q 0#64)).2)) G (Gt G (Mv (.bool ((seen (itV (i + 1) (newM I inp)) (L.getD q 0#64)).2)) G ?_)))))
      rcases Bool.eq_false_or_eq_true ((seen (itV (i + 1) (newM I inp)) (L.getD q 0#64)).2) with hg157 | hg157
      ·refine Gt (Yb G G hg157) (Mv (U64 ((seen (itV (i + 1) (newM I inp)) (L.getD q 0#64)).1)) G (Gt (Yb G G hg157) (Mv (U64 ((seen (itV (i + 1) (newM I inp)) (L.getD q 0#64)).1)) G (Gt (Yb G G hg157) (Bn (v := .bool false) G G (BinR.toB BinR.neqU64 (bne_self_eq_false _)) (Gt G (Pk (b := true) (congrArg Value.bool hg157) G (Pk (b := false) G G (Mv (.bool false) G ?_)))))))))
       refine Gt G (Mv (.bool ((seen (itV (i + 1) (newM I inp)) (L.getD q 0#64)).2)) G (Gt G (WL.un G G UnR.not (Gt G (Mv (.bool (!((seen (itV (i + 1) (newM I inp)) (L.getD q 0#64)).2))) G ?_)))))
       rcases Bool.eq_false_or_eq_true (!((seen (itV (i + 1) (newM I inp)) (L.getD q 0#64)).2)) with hg166 | hg166
       ·refine WL.guardT (yf_bool rfl rfl hg166) (WL.move (v := U64 ((seen (itV (i + 1) (newM I inp)) (L.getD q 0#64)).1)) rfl rfl (WL.guardT (yf_bool rfl rfl hg166) (WL.bin (v := .bool false) rfl (vy := U64 (0#64)) rfl rfl (BinR.toB BinR.neqU64 (by rw [seen_not (by simpa using hg166)]; rfl)) (WL.guardT rfl (WL.pick (b := true) (congrArg Value.bool hg166) rfl rfl (WL.pick (b := false) rfl rfl rfl (WL.nil (WC.condF rfl (WC.skip ?_)))))))))
        refine Rg (Mv (IN q) h18_3 (Bn G G (BinR.succN (by omega)) (An (IN (q + 1)) G (Ni ?_))))
        exact ⟨kc - 1, by omega, (q + 1), by omega, h2_3, h3_3, h11_3, h13_3, h15_3, G, hP2.ext R23, E24⟩
       ·refine Gf false (Yb G G hg166) (Gf false (Yb G G hg166) (Gt G (Pk (b := false) (congrArg Value.bool hg166) G (Pk (b := false) G G (Ni (Cf G (WC.skip (Rg (Mv (IN q) h18_3 ?_)))))))))
        refine Bn G G (BinR.succN (by omega)) (An (IN (q + 1)) G (Ni ?_))
        exact ⟨kc - 1, by omega, (q + 1), by omega, h2_3, h3_3, h11_3, h13_3, h15_3, G, hP2.ext R23, E24⟩
      ·refine Gf false (Yb G G hg157) (Gf false (Yb G G hg157) (Gf false (Yb G G hg157) (Gt G (Pk (b := false) (congrArg Value.bool hg157) G (Pk (b := false) G G (Mv (.bool false) G (Gt G (Mv (.bool ((seen (itV (i + 1) (newM I inp)) (L.getD q 0#64)).2)) G (Gt G ?_)))))))))
       refine WL.un G G UnR.not (Gt G (Mv (.bool (!((seen (itV (i + 1) (newM I inp)) (L.getD q 0#64)).2))) G ?_))
       rcases Bool.eq_false_or_eq_true (!((seen (itV (i + 1) (newM I inp)) (L.getD q 0#64)).2)) with hg166 | hg166
       ·refine WL.guardT (yf_bool rfl rfl hg166) (WL.move (v := U64 ((seen (itV (i + 1) (newM I inp)) (L.getD q 0#64)).1)) rfl rfl (WL.guardT (yf_bool rfl rfl hg166) (WL.bin (v := .bool false) rfl (vy := U64 (0#64)) rfl rfl (BinR.toB BinR.neqU64 (by rw [seen_not (by simpa using hg166)]; rfl)) (WL.guardT rfl (WL.pick (b := true) (congrArg Value.bool hg166) rfl rfl (WL.pick (b := false) rfl rfl rfl (WL.nil (WC.condF rfl (WC.skip ?_)))))))))
        refine Rg (Mv (IN q) h18_3 (Bn G G (BinR.succN (by omega)) (An (IN (q + 1)) G (Ni ?_))))
        exact ⟨kc - 1, by omega, (q + 1), by omega, h2_3, h3_3, h11_3, h13_3, h15_3, G, hP2.ext R23, E24⟩
       ·refine Gf false (Yb G G hg166) (Gf false (Yb G G hg166) (Gt G (Pk (b := false) (congrArg Value.bool hg166) G (Pk (b := false) G G (Ni (Cf G (WC.skip (Rg (Mv (IN q) h18_3 ?_)))))))))
        refine Bn G G (BinR.succN (by omega)) (An (IN (q + 1)) G (Ni ?_))
        exact ⟨kc - 1, by omega, (q + 1), by omega, h2_3, h3_3, h11_3, h13_3, h15_3, G, hP2.ext R23, E24⟩
     ·refine WC.exit (Rg (Mv (IN i) h15_3 (Bn G G (BinR.succN (by omega)) (An (IN (i + 1)) G (Ni ?_)))))
      exact ⟨kb - 1, by omega, (i + 1), by omega, h2_3, h3_3, h11_3, h13_3, G, hP2, hE3⟩
    ·refine Gf false (Yb G G hg127) (Gf false (Yb G G hg127) (Gf false (Yb G G hg127) (Pk (b := false) (congrArg Value.bool hg127) G (Ni (Cf G (WC.exit (Rg (Mv (IN i) h15_3 (Bn G G (BinR.succN (by omega)) ?_)))))))))
     refine An (IN (i + 1)) G (Ni ?_)
     exact ⟨kb - 1, by omega, (i + 1), by omega, h2_3, h3_3, h11_3, h13_3, G, hP2, hE3⟩
   ·refine Gf false (Yb G G hg112) (Gf false (Yb G G hg112) (Gt G (Pk (b := false) (congrArg Value.bool hg112) G (Pk (b := false) G G (Mv (.bool false) G (Gt G (Mv (ptr ba 0) h11_2 (Gt G (Mv (ptr bb 0) h13_2 ?_)))))))))
    refine WL.guardT rfl (WL.call ca27 rfl rfl (hPb.tells (Mod.cell EM19 hX (fun h => h)) (by have := (itV_keeps (i + 1) (newM I inp)).2; have e0 : (newM I inp).events.length = 0 := rfl; omega)) ?_)
    rintro _ wtl ⟨rfl, etl⟩
    have E25 := Mt EM19 etl
    refine Gt G (WL.un G G UnR.not (Pk (b := false) G G (Ni (Cf G (WC.skip (Sr (An (IN 0) G (Ni ?_))))))))
    refine Bk ?_
    refine WC.loop (fun k f w_ => ∃ q, (k + q = L.length) ∧ f 2 = U8 p ∧ f 3 = lk ∧ f 11 = ptr ba 0 ∧ f 13 = ptr bb 0 ∧ f 15 = IN i ∧ f 18 = IN q ∧ (Pair w w_ ba bb (itV (i + 1) (newM I inp)) (itV (i + 1) (newM I inp)) I.words) ∧ (Ext w w_)) L.length ?_ ?_
    ·exact ⟨0, by omega, h2_2, h3_2, h11_2, h13_2, h15_2, G, (hPb.ext etl), E25⟩
    rintro kc f3 wr3 ⟨q, hk3, h2_3, h3_3, h11_3, h13_3, h15_3, h18_3, hP2, hE3⟩
    refine Sq (Sr (Mv (IN q) h18_3 (Mv lk h3_3 (WL.lenSl (sz := 1) (m := L.length) (xs := L.map U64) el66 G (hLk.ext' hE3) G (Bn G G BinR.lss (Mv (.bool (decide (((q : Nat) : Int) < ((L.length : Nat) : Int)))) G ?_))))))
    rcases Bool.eq_false_or_eq_true (decide (((q : Nat) : Int) < ((L.length : Nat) : Int))) with hg127 | hg127
    ·have hq : q < L.length := by have := of_decide_eq_true hg127; omega
     refine Gt (Yb G G hg127) (Mv (IN i) h15_3 (Gt (Yb G G hg127) (Bn G G (BinR.remN (b := 20) (by decide)) (Gt (Yb G G hg127) (Bn G G BinR.eql (Pk (b := true) (congrArg Value.bool hg127) G (Ni ?_)))))))
     refine WC.cond G (fun hc131 => ?_) (fun hc131 => ?_)
     ·refine WC.skip (Sq (Bk (Sr (Mv (ptr ba 0) h11_3 (Mv lk h3_3 (Mv (IN q) h18_3 (WL.indexSl (sz := 1) (m := L.length) (xs := L.map U64) (i := q) el66 sz39 G G (by omega) (hLk.ext' hE3) G ?_)))))))
      intro b138 o138 hb138 hc138
      refine WL.load1 rfl ag39 (by have h := hc138 (q * 1) _ (by rw [Nat.mul_one]; exact getD_map L 0#64 U64 hq); exact h) rfl (WL.call ca21 rfl rfl (hP2.peek (L.getD q 0#64)) ?_)
      rintro _ wpk ⟨rfl, epk⟩
      have R26 : Ext wr3 wpk := epk
      have E27 := Mt hE3 epk
      refine Mv (.tuple #[U64 ((seen (itV (i + 1) (newM I inp)) (L.getD q 0#64)).1), .bool ((seen (itV (i + 1) (newM I inp)) (L.getD q 0#64)).2)]) G (Et G G (Et G G (An (U64 ((seen (itV (i + 1) (newM I inp)) (L.getD q 0#64)).1)) G (An (.bool ((seen (itV (i + 1) (newM I inp)) (L.getD q 0#64)).2)) G (Ni (Sr (Mv (ptr bb 0) h13_3 (Mv lk h3_3 ?_))))))))
      refine Mv (IN q) h18_3 (WL.indexSl (sz := 1) (m := L.length) (xs := L.map U64) (i := q) el66 sz39 G G (by omega) (hLk.ext' E27) G ?_)
      intro b147 o147 hb147 hc147
      refine WL.load1 rfl ag39 (by have h := hc147 (q * 1) _ (by rw [Nat.mul_one]; exact getD_map L 0#64 U64 hq); exact h) rfl (WL.call ca24 rfl rfl ((hP2.ext R26).load (L.getD q 0#64)) ?_)
      rintro _ wld ⟨rfl, eld⟩
      have R28 := Mt R26 eld
      have E29 := Mt E27 eld
      refine Mv (.tuple #[U64 ((seen (itV (i + 1) (newM I inp)) (L.getD q 0#64)).1), .bool ((seen (itV (i + 1) (newM I inp)) (L.getD q 0#64)).2)]) G (Et G G (Et G G (An (U64 ((seen (itV (i + 1) (newM I inp)) (L.getD q 0#64)).1)) G (An (.bool ((seen (itV (i + 1) (newM I inp)) (L.getD q 0#64)).2)) G (Ni (Sr (Mv (.bool ((seen (itV (i + 1) (newM I inp)) (L.getD q 0#64)).2)) G (Mv (.bool ((seen (itV (i + 1) (newM I inp)) (L.getD q 0#64)).2)) G ?_))))))))
      refine Bn (v := .bool false) G G (BinR.toB (BinR.neqB Tryz.underlying4) (bne_self_eq_false _)) (Mv (.bool false) G (Gt G (Mv (.bool ((seen (itV (i + 1) (newM I inp)) (L.getD q 0#64)).2)) G (Gt G (Mv (.bool ((seen (itV (i + 1) (newM I inp)) (L.getD q 0#64)).2)) G ?_)))))
      rcases Bool.eq_false_or_eq_true ((seen (itV (i + 1) (newM I inp)) (L.getD q 0#64)).2) with hg157 | hg157
      ·refine Gt (Yb G G hg157) (Mv (U64 ((seen (itV (i + 1) (newM I inp)) (L.getD q 0#64)).1)) G (Gt (Yb G G hg157) (Mv (U64 ((seen (itV (i + 1) (newM I inp)) (L.getD q 0#64)).1)) G (Gt (Yb G G hg157) (Bn (v := .bool false) G G (BinR.toB BinR.neqU64 (bne_self_eq_false _)) (Gt G (Pk (b := true) (congrArg Value.bool hg157) G (Pk (b := false) G G (Mv (.bool false) G ?_)))))))))
       refine Gt G (Mv (.bool ((seen (itV (i + 1) (newM I inp)) (L.getD q 0#64)).2)) G (Gt G (WL.un G G UnR.not (Gt G (Mv (.bool (!((seen (itV (i + 1) (newM I inp)) (L.getD q 0#64)).2))) G ?_)))))
       rcases Bool.eq_false_or_eq_true (!((seen (itV (i + 1) (newM I inp)) (L.getD q 0#64)).2)) with hg166 | hg166
       ·refine WL.guardT (yf_bool rfl rfl hg166) (WL.move (v := U64 ((seen (itV (i + 1) (newM I inp)) (L.getD q 0#64)).1)) rfl rfl (WL.guardT (yf_bool rfl rfl hg166) (WL.bin (v := .bool false) rfl (vy := U64 (0#64)) rfl rfl (BinR.toB BinR.neqU64 (by rw [seen_not (by simpa using hg166)]; rfl)) (WL.guardT rfl (WL.pick (b := true) (congrArg Value.bool hg166) rfl rfl (WL.pick (b := false) rfl rfl rfl (WL.nil (WC.condF rfl (WC.skip ?_)))))))))
        refine Rg (Mv (IN q) h18_3 (Bn G G (BinR.succN (by omega)) (An (IN (q + 1)) G (Ni ?_))))
        exact ⟨kc - 1, by omega, (q + 1), by omega, h2_3, h3_3, h11_3, h13_3, h15_3, G, hP2.ext R28, E29⟩
       ·refine Gf false (Yb G G hg166) (Gf false (Yb G G hg166) (Gt G (Pk (b := false) (congrArg Value.bool hg166) G (Pk (b := false) G G (Ni (Cf G (WC.skip (Rg (Mv (IN q) h18_3 ?_)))))))))
        refine Bn G G (BinR.succN (by omega)) (An (IN (q + 1)) G (Ni ?_))
        exact ⟨kc - 1, by omega, (q + 1), by omega, h2_3, h3_3, h11_3, h13_3, h15_3, G, hP2.ext R28, E29⟩
      ·refine Gf false (Yb G G hg157) (Gf false (Yb G G hg157) (Gf false (Yb G G hg157) (Gt G (Pk (b := false) (congrArg Value.bool hg157) G (Pk (b := false) G G (Mv (.bool false) G (Gt G (Mv (.bool ((seen (itV (i + 1) (newM I inp)) (L.getD q 0#64)).2)) G (Gt G ?_)))))))))
       refine WL.un G G UnR.not (Gt G (Mv (.bool (!((seen (itV (i + 1) (newM I inp)) (L.getD q 0#64)).2))) G ?_))
       rcases Bool.eq_false_or_eq_true (!((seen (itV (i + 1) (newM I inp)) (L.getD q 0#64)).2)) with hg166 | hg166
       ·refine WL.guardT (yf_bool rfl rfl hg166) (WL.move (v := U64 ((seen (itV (i + 1) (newM I inp)) (L.getD q 0#64)).1)) rfl rfl (WL.guardT (yf_bool rfl rfl hg166) (WL.bin (v := .bool false) rfl (vy := U64 (0#64)) rfl rfl (BinR.toB BinR.neqU64 (by rw [seen_not (by simpa using hg166)]; rfl)) (WL.guardT rfl (WL.pick (b := true) (congrArg Value.bool hg166) rfl rfl (WL.pick (b := false) rfl rfl rfl (WL.nil (WC.condF rfl (WC.skip ?_)))))))))
        refine Rg (Mv (IN q) h18_3 (Bn G G (BinR.succN (by omega)) (An (IN (q + 1)) G (Ni ?_))))
        exact ⟨kc - 1, by omega, (q + 1), by omega, h2_3, h3_3, h11_3, h13_3, h15_3, G, hP2.ext R28, E29⟩
       ·refine Gf false (Yb G G hg166) (Gf false (Yb G G hg166) (Gt G (Pk (b := false) (congrArg Value.bool hg166) G (Pk (b := false) G G (Ni (Cf G (WC.skip (Rg (Mv (IN q) h18_3 ?_)))))))))
        refine Bn G G (BinR.succN (by omega)) (An (IN (q + 1)) G (Ni ?_))
        exact ⟨kc - 1, by omega, (q + 1), by omega, h2_3, h3_3, h11_3, h13_3, h15_3, G, hP2.ext R28, E29⟩
     ·refine WC.exit (Rg (Mv (IN i) h15_3 (Bn G G (BinR.succN (by omega)) (An (IN (i + 1)) G (Ni ?_)))))
      exact ⟨kb - 1, by omega, (i + 1), by omega, h2_3, h3_3, h11_3, h13_3, G, hP2, hE3⟩
    ·refine Gf false (Yb G G hg127) (Gf false (Yb G G hg127) (Gf false (Yb G G hg127) (Pk (b := false) (congrArg Value.bool hg127) G (Ni (Cf G (WC.exit (Rg (Mv (IN i) h15_3 (Bn G G (BinR.succN (by omega)) ?_)))))))))
     refine An (IN (i + 1)) G (Ni ?_)
     exact ⟨kb - 1, by omega, (i + 1), by omega, h2_3, h3_3, h11_3, h13_3, G, hP2, hE3⟩
  ·refine WC.exit (Sr (WL.call ca9 G G (works_spec _ (hG.ext hE2) (Mod.cell hE2 hX (fun h => h))) ?_))
   rintro _ wk171 ⟨rfl, ek171⟩
   have E31 := Mt hE2 ek171
   refine An (.bool true) G (Ni (WC.ret ?_))
   exact ⟨_, Res.one (v := .bool true) G G, G, E31⟩
end Go.Proofs.S
end
section
set_option linter.unusedVariables false
namespace Go.Proofs.S
open Go Go.Ux Go.Ux.Mach Go.Proofs Go.Proofs.M Go.Ux.Image
theorem runs_spec (I : Img) (sv wv iv0 : Value) (inp : List (BitVec 64)) (p : BitVec 8) (lk : Value) (L : List (BitVec 64)) (w : World) (hG : Glob w) (hX : w.cell? ⟨3, 0, none⟩ = some (.iface 206 (.agg #[.pointer (some ⟨6, 83, none⟩)]))) (hs : Sl w sv 2 I.syms.length (symCells I.syms)) (hw : Sl w wv 1 I.words.length (wordCells I.words)) (hN : ∀ s ∈ I.syms, True ∧ s.2 ≤ 9223372036854775807) (hI : Sl w iv0 1 inp.length (inp.map I64)) (hIf : iv0 = .slice none 0 0 ∨ ∃ a c, iv0 = .slice (some a) inp.length c) (hLk : Sl w lk 1 L.length (L.map U64)) : CallsR Tryz.prog 7 #[.agg #[.int .i64 I.entry, sv, wv], iv0, U8 p, lk] w (fun v w' => v = .bool true ∧ Ext w w') := by
 by_cases d0 : 300 < I.words.length
 ·exact runs_big1 I sv wv iv0 inp p lk L w hG hX hs hw hN hI hIf hLk d0
 by_cases d1 : 70 < I.syms.length
 ·exact runs_big2 I sv wv iv0 inp p lk L w hG hX hs hw hN hI hIf hLk d0 d1
 by_cases d2 : 4096 < I.entry
 ·exact runs_big3 I sv wv iv0 inp p lk L w hG hX hs hw hN hI hIf hLk d0 d1 d2
 by_cases d3 : 30 < inp.length
 ·exact runs_big4 I sv wv iv0 inp p lk L w hG hX hs hw hN hI hIf hLk d0 d1 d2 d3
 by_cases d4 : 30 < L.length
 ·exact runs_big5 I sv wv iv0 inp p lk L w hG hX hs hw hN hI hIf hLk d0 d1 d2 d3 d4
 cases hr : rightB I with
 | false => exact runs_no I sv wv iv0 inp p lk L w hG hX hs hw hN hI hIf hLk (by omega) (by omega) (by omega) (by omega) (by omega) hr
 | true => exact runs_ok I sv wv iv0 inp p lk L w hG hX hs hw hN hI hIf hLk (by omega) (by omega) (by omega) (by omega) (by omega) hr
end Go.Proofs.S
end
