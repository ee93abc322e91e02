/- Steps of the proof, packed by program: McP4 McEs McP5 McPair McP6 McKn1 McKn2 McL3 McL4. -/
import Derived.Test.YtlabgjcjccdjfaaGreatDoorRows
import Derived.Test.YtlabgjcjccdjfaaGreatDoorMpackQ02
import Derived.Test.YtlabgjcjccdjfaaGreatDoorMpackQ08
import Derived.Test.YtlabgjcjccdjfaaGreatDoorMpackQ09
import Derived.Test.YtlabgjcjccdjfaaGreatDoorMpackQ10
import Derived.Test.YtlabgjcjccdjfaaGreatDoorMpackQ11
set_option linter.unusedVariables false
set_option linter.unusedSimpArgs false
set_option linter.unnecessarySimpa false
set_option maxRecDepth 100000
section
set_option linter.unusedSimpArgs false
set_option linter.unusedVariables false
namespace Go.Proofs.S
open Go Go.Ux Go.Ux.Mach Go.Proofs
open Tryz
open Go.Ux.Image
theorem rnewT (u wv iv0 : Value) (I : Img) (inp : List (BitVec 64)) (w : World) (hw : Sl w wv 1 I.words.length (wordCells I.words)) (hwl : I.words.length ≤ 1000000) (hI : Sl w iv0 1 inp.length (inp.map I64)) (hil : inp.length ≤ 1000000) (h0 : 0 ≤ I.entry) (hE : I.entry ≤ 524288) (hu : u.oneCell' = true) (hwz : 0 < I.words.length) : CallsR prog 22 #[.agg #[.int .i64 I.entry, u, wv], iv0] w (fun v w' => ∃ T b, v = ptr b 0 ∧ RR T w' b (newM I inp) I.words ∧ (∀ k, T k ≠ 0 → w.heap.size ≤ k) ∧ Ext w w') := by
 have hent : Value.int .i64 I.entry = IN I.entry.toNat := by show Value.int .i64 I.entry = Value.int .i64 ((I.entry.toNat : Nat) : Int); congr 1; omega
 refine Co func22 G G ?_
 refine Sr (WL.box (v := .agg #[.int .i64 I.entry, u, wv]) G G ?_)
 intro b2 w2 n2
 have E1 : Ext w w2 := n2.ext
 refine Ae (.pointer none) (Ni (Sq (WC.draw (fun w_ => Ext w2 w_) 7 G mixed ?_)))
 intro wd_1 ed_1
 have R2 : Ext w2 wd_1 := ed_1
 have E3 := Mt E1 ed_1
 refine Tp 0 (ptr b2 0) G G (Fa G fo61_0 Ok) R2 (Tk 1 (.int .i64 I.entry) G G (fun _ hS => Le ((n2.blk.ext hS).cell (j := 0) G) Ok) R2 ?_)
 refine WA.two (i := 2) (j := 3) (mi := 7) (mj := 11) (by kernel_rfl) G G G G ?_ ?_
 ·refine WL.makeSliceB (m := I.entry.toNat) ap45 (Eq.trans G hent) (Eq.trans G hent) (by omega) (by omega) G ?_
  intro b8 w8 n8
  have R7 := Mt R2 n8.ext
  have E8 := Mt E3 n8.ext
  have g8 : w.heap.size ≤ b8 := by have := n8.num; have := Mod.size E3; omega
  refine WL.behind R7 (WA.one (i := 3) (m' := 15) (by kernel_rfl) G G (WL.makeSliceB (m := 65536) ap45 G G (by omega) (by omega) G ?_))
  intro b9 w9 n9
  have R9 := Mt R7 n9.ext
  have E10 := Mt E8 n9.ext
  have g9 : w.heap.size ≤ b9 := by have := n9.num; have := Mod.size E8; omega
  have h89 : b8 ≠ b9 := by have h1 := n8.blk.lt; have := n9.num; omega
  refine WL.behind R9 (Tp 4 (.agg #[.slice none 0 0, Sv b8 I.entry.toNat I.entry.toNat, Sv b9 65536 65536, .slice none 0 0, Z8, Z8, Z8, Z8, Z8, Z8, Z8, Z8, Z8, Z8, Z8, Z8, Z8, Z8, Z8, Z8, Z8, Z8, Z8, Z8, Z8, Z8, Z8, Z8, Z8, Z8, Z8, Z8, Z8, Z8, Z8, Z8, U64 65536#64, .slice none 0 0, .bool false, .bool false, IN 0]) G G (WL.build (v := .agg #[.slice none 0 0, Sv b8 I.entry.toNat I.entry.toNat, Sv b9 65536 65536, .slice none 0 0, Z8, Z8, Z8, Z8, Z8, Z8, Z8, Z8, Z8, Z8, Z8, Z8, Z8, Z8, Z8, Z8, Z8, Z8, Z8, Z8, Z8, Z8, Z8, Z8, Z8, Z8, Z8, Z8, Z8, Z8, Z8, Z8, U64 65536#64, .slice none 0 0, .bool false, .bool false, IN 0]) (vs := [(1, Sv b8 I.entry.toNat I.entry.toNat), (2, Sv b9 65536 65536), (5, U64 65536#64)]) G (bld22_10 b8 b9 I.entry.toNat 65536) G Ok) R9 (WA.one (i := 5) (m' := 63) (by kernel_rfl) G G ?_))
  have B12 := n8.blk.ext n9.ext
  refine WL.box (v := .agg #[.slice none 0 0, Sv b8 I.entry.toNat I.entry.toNat, Sv b9 65536 65536, .slice none 0 0, Z8, Z8, Z8, Z8, Z8, Z8, Z8, Z8, Z8, Z8, Z8, Z8, Z8, Z8, Z8, Z8, Z8, Z8, Z8, Z8, Z8, Z8, Z8, Z8, Z8, Z8, Z8, Z8, Z8, Z8, Z8, Z8, U64 65536#64, .slice none 0 0, .bool false, .bool false, IN 0]) G G ?_
  intro b11 w11 n11
  have R13 := Mt R9 n11.ext
  have E14 := Mt E10 n11.ext
  have hx8 : b8 ≠ b11 := by have h1 := B12.lt; have := n11.num; omega
  have hx9 : b9 ≠ b11 := by have h1 := n9.blk.lt; have := n11.num; omega
  have hy8 : b8 < b11 := by have h1 := B12.lt; have := n11.num; omega
  have hy9 : b9 < b11 := by have h1 := n9.blk.lt; have := n11.num; omega
  refine WL.behind R13 (Tm 6 (ptr b11 0) G G R13 (WA.done (by kernel_rfl) (Sq (WC.drawL (fun w_ => Ext w11 w_) 10 11 G mixed ?_))))
  intro wd_2 ed_2
  have R16 : Ext w11 wd_2 := ed_2
  have E17 := Mt E14 ed_2
  refine Ti 0 (ptr b11 0) G G (Me _ Ok) R16 (Ti 1 (ptr b11 0) G G (Me _ Ok) R16 (Ti 2 (ptr b11 0) G G (WL.nilCheck G G Ok) R16 (Ti 3 (ptr b11 0) G G (Fa G fo70_0 Ok) R16 (Tl 4 (.slice none 0 0) G G (fun _ hS => Le ((n11.blk.ext hS).cell (j := 0) G) Ok) R16 (Ti 5 (ptr b2 2) G G (Fa G fo61_2 Ok) R16 (Tl 6 wv G G (fun _ hS => Le ((((((n2.blk.ext ed_1).ext n8.ext).ext n9.ext).ext n11.ext).ext hS).cell (j := 2) G) Ok) R16 (WAL.one (i := 7) (m' := 255) (by kernel_rfl) G G ?_)))))))
  have B27 := n11.blk.ext ed_2
  refine WL.append (k := 0) (m := I.words.length) (xs := []) (news := wordCells I.words) ap23 G G G (Ux.Own.nil _ 1) ((hw.ext' E17).src y23 (ones_U32 _)) (by omega) (by omega) G ?_
  intro v19 w19 o19 m19 l19
  have e19 : Ext wd_2 w19 := Mod.then (Mod.refl _ _) m19 (fun i hi e => by cases e)
  have o19b : Ux.Own w19 1 v19 I.words.length (wordCells I.words) := by simpa using o19
  have x19 : v19.ownBlock ≠ some b11 := fun e => by rcases l19 with h | ⟨g, h, h2⟩; (rw [h] at e; cases e); (rw [h] at e; cases e; have := B27.lt; omega)
  have R28 := Mt R16 e19
  have E29 := Mt E17 e19
  have y19 : ∀ g, v19.ownBlock = some g → b11 < g := fun g e => by
   rcases l19 with h | ⟨g2, h, h2⟩
   ·rw [h] at e; cases e
   ·rw [h] at e; cases e; have := B27.lt; omega
  refine WL.behindS R28 (WAL.one (i := 8) (m' := 511) (by kernel_rfl) G G (WL.nilCheck G G (WL.behindS R28 (Ti 9 (ptr b11 0) G G (Fa G fo70_0 Ok) R28 (WAL.one (i := 10) (m' := 2047) (by kernel_rfl) G G ?_)))))
  have B31 := B27.ext e19
  refine WL.storeB (v := v19) G G o19b.sl.one sz23 B31 (Nat.le_of_ble_eq_true G) ?_
  intro ws32 ms32 bs32 zs32
  have E32 : Ext w ws32 := Mod.own E10 n11 E29 ms32
  refine WL.behindL (by kernel_rfl) (WAL.done (by kernel_rfl) (Sr (Me (ptr b11 0) (Me (ptr b11 0) (WL.nilCheck G G (Fa G fo70_3 (Le (bs32.cell (j := 3) G) (Me iv0 ?_))))))))
  have O33 := o19b.mod ms32 (fun g hg e => x19 (hg.trans (congrArg some e)))
  refine WL.append (k := 0) (m := inp.length) (xs := []) (news := inp.map I64) ap26 G G G (Ux.Own.nil _ 1) ((hI.ext' E32).src y26 (ones_I64 _)) (by omega) (by omega) G ?_
  intro v28 w28 o28 m28 l28
  have e28 : Ext ws32 w28 := Mod.then (Mod.refl _ _) m28 (fun i hi e => by cases e)
  have o28b : Ux.Own w28 1 v28 inp.length (inp.map I64) := by simpa using o28
  have x28 : v28.ownBlock ≠ some b11 := fun e => by rcases l28 with h | ⟨g, h, h2⟩; (rw [h] at e; cases e); (rw [h] at e; cases e; have := bs32.lt; omega)
  have E34 := Mt E32 e28
  have y28 : ∀ g, v28.ownBlock = some g → b11 < g := fun g e => by
   rcases l28 with h | ⟨g2, h, h2⟩
   ·rw [h] at e; cases e
   ·rw [h] at e; cases e; have := bs32.lt; omega
  have hci : 0 < inp.length → ∀ g, v19.ownBlock = some g → v28.ownBlock ≠ some g := fun _ g e1 e2 => by
   have h1 := O33.lt hwz (by decide) e1
   rcases l28 with h | ⟨g2, h, h2⟩
   ·rw [h] at e2; cases e2
   ·rw [h] at e2; cases e2; omega
  refine WL.nilCheck G G (Fa G fo70_3 ?_)
  have B35 := bs32.ext e28
  refine WL.storeB (v := v28) G G o28b.sl.one sz26 B35 (Nat.le_of_ble_eq_true G) ?_
  intro ws36 ms36 bs36 zs36
  have E36 : Ext w ws36 := Mod.own E10 n11 E34 ms36
  refine Ni (Sr (Me (ptr b11 0) (WL.nilCheck G G (Fa G fo70_4 (WL.indexArr (i := 2) ar68 sz39 G G (by omega) G (WL.storeB (v := U64 8388608#64) G G G sz39 bs36 (Nat.le_of_ble_eq_true G) ?_))))))
  intro ws37 ms37 bs37 zs37
  have E37 : Ext w ws37 := Mod.own E10 n11 E36 ms37
  refine Ni (Sr (Me (ptr b11 0) (Ae (ptr b11 0) (Ni (WC.ret ?_)))))
  have O38 := ((O33.ext e28).mod ms36 (fun g hg e => x19 (hg.trans (congrArg some e)))).mod ms37 (fun g hg e => x19 (hg.trans (congrArg some e)))
  have O39 := (((((((n8.blk.own.ext n9.ext).ext n11.ext).ext ed_2).ext e19).mod ms32 (fun g hg e => (fun e => hx8 (Option.some.inj e)) (hg.trans (congrArg some e)))).ext e28).mod ms36 (fun g hg e => (fun e => hx8 (Option.some.inj e)) (hg.trans (congrArg some e)))).mod ms37 (fun g hg e => (fun e => hx8 (Option.some.inj e)) (hg.trans (congrArg some e)))
  have O40 := ((((((n9.blk.own.ext n11.ext).ext ed_2).ext e19).mod ms32 (fun g hg e => (fun e => hx9 (Option.some.inj e)) (hg.trans (congrArg some e)))).ext e28).mod ms36 (fun g hg e => (fun e => hx9 (Option.some.inj e)) (hg.trans (congrArg some e)))).mod ms37 (fun g hg e => (fun e => hx9 (Option.some.inj e)) (hg.trans (congrArg some e)))
  have O41 := (o28b.mod ms36 (fun g hg e => x28 (hg.trans (congrArg some e)))).mod ms37 (fun g hg e => x28 (hg.trans (congrArg some e)))
  have B42 := ((((((B12.ext n11.ext).ext ed_2).ext e19).mod ms32 (by omega)).ext e28).mod ms36 (by omega)).mod ms37 (by omega)
  have B43 := ((((((n9.blk.ext n11.ext).ext ed_2).ext e19).mod ms32 (by omega)).ext e28).mod ms36 (by omega)).mod ms37 (by omega)
  obtain ⟨T, hT1, hT2⟩ := rr_new (w := w) bs37 O38 (by rw [← bsV_zero]; exact O39) (by rw [← bsV_zero]; exact O40) O41 g8 g9 h89 hy8 hy9 B42.lt B43.lt y19 y28 hci hwz (by omega)
  exact ⟨_, Ro G G, T, b11, G, hT1, hT2, E37⟩
 ·refine WL.makeSliceB (m := 65536) ap45 G G (by omega) (by omega) G ?_
  intro b9 w9 n9
  have R44 := Mt R2 n9.ext
  have E45 := Mt E3 n9.ext
  have g9 : w.heap.size ≤ b9 := by have := n9.num; have := Mod.size E3; omega
  refine WL.behind R44 (WA.one (i := 2) (m' := 15) (by kernel_rfl) G G (WL.makeSliceB (m := I.entry.toNat) ap45 (Eq.trans G hent) (Eq.trans G hent) (by omega) (by omega) G ?_))
  intro b8 w8 n8
  have R46 := Mt R44 n8.ext
  have E47 := Mt E45 n8.ext
  have g8 : w.heap.size ≤ b8 := by have := n8.num; have := Mod.size E45; omega
  have h89 : b8 ≠ b9 := by have h1 := n9.blk.lt; have := n8.num; omega
  refine WL.behind R46 (Tp 4 (.agg #[.slice none 0 0, Sv b8 I.entry.toNat I.entry.toNat, Sv b9 65536 65536, .slice none 0 0, Z8, Z8, Z8, Z8, Z8, Z8, Z8, Z8, Z8, Z8, Z8, Z8, Z8, Z8, Z8, Z8, Z8, Z8, Z8, Z8, Z8, Z8, Z8, Z8, Z8, Z8, Z8, Z8, Z8, Z8, Z8, Z8, U64 65536#64, .slice none 0 0, .bool false, .bool false, IN 0]) G G (WL.build (v := .agg #[.slice none 0 0, Sv b8 I.entry.toNat I.entry.toNat, Sv b9 65536 65536, .slice none 0 0, Z8, Z8, Z8, Z8, Z8, Z8, Z8, Z8, Z8, Z8, Z8, Z8, Z8, Z8, Z8, Z8, Z8, Z8, Z8, Z8, Z8, Z8, Z8, Z8, Z8, Z8, Z8, Z8, Z8, Z8, Z8, Z8, U64 65536#64, .slice none 0 0, .bool false, .bool false, IN 0]) (vs := [(1, Sv b8 I.entry.toNat I.entry.toNat), (2, Sv b9 65536 65536), (5, U64 65536#64)]) G (bld22_10 b8 b9 I.entry.toNat 65536) G Ok) R46 (WA.one (i := 5) (m' := 63) (by kernel_rfl) G G ?_))
  have B49 := n9.blk.ext n8.ext
  refine WL.box (v := .agg #[.slice none 0 0, Sv b8 I.entry.toNat I.entry.toNat, Sv b9 65536 65536, .slice none 0 0, Z8, Z8, Z8, Z8, Z8, Z8, Z8, Z8, Z8, Z8, Z8, Z8, Z8, Z8, Z8, Z8, Z8, Z8, Z8, Z8, Z8, Z8, Z8, Z8, Z8, Z8, Z8, Z8, Z8, Z8, Z8, Z8, U64 65536#64, .slice none 0 0, .bool false, .bool false, IN 0]) G G ?_
  intro b11 w11 n11
  have R50 := Mt R46 n11.ext
  have E51 := Mt E47 n11.ext
  have hx8 : b8 ≠ b11 := by have h1 := n8.blk.lt; have := n11.num; omega
  have hx9 : b9 ≠ b11 := by have h1 := B49.lt; have := n11.num; omega
  have hy8 : b8 < b11 := by have h1 := n8.blk.lt; have := n11.num; omega
  have hy9 : b9 < b11 := by have h1 := B49.lt; have := n11.num; omega
  refine WL.behind R50 (Tm 6 (ptr b11 0) G G R50 (WA.done (by kernel_rfl) (Sq (WC.drawL (fun w_ => Ext w11 w_) 10 11 G mixed ?_))))
  intro wd_2 ed_2
  have R53 : Ext w11 wd_2 := ed_2
  have E54 := Mt E51 ed_2
  refine Ti 0 (ptr b11 0) G G (Me _ Ok) R53 (Ti 1 (ptr b11 0) G G (Me _ Ok) R53 (Ti 2 (ptr b11 0) G G (WL.nilCheck G G Ok) R53 (Ti 3 (ptr b11 0) G G (Fa G fo70_0 Ok) R53 (Tl 4 (.slice none 0 0) G G (fun _ hS => Le ((n11.blk.ext hS).cell (j := 0) G) Ok) R53 (Ti 5 (ptr b2 2) G G (Fa G fo61_2 Ok) R53 (Tl 6 wv G G (fun _ hS => Le ((((((n2.blk.ext ed_1).ext n9.ext).ext n8.ext).ext n11.ext).ext hS).cell (j := 2) G) Ok) R53 (WAL.one (i := 7) (m' := 255) (by kernel_rfl) G G ?_)))))))
  have B64 := n11.blk.ext ed_2
  refine WL.append (k := 0) (m := I.words.length) (xs := []) (news := wordCells I.words) ap23 G G G (Ux.Own.nil _ 1) ((hw.ext' E54).src y23 (ones_U32 _)) (by omega) (by omega) G ?_
  intro v19 w19 o19 m19 l19
  have e19 : Ext wd_2 w19 := Mod.then (Mod.refl _ _) m19 (fun i hi e => by cases e)
  have o19b : Ux.Own w19 1 v19 I.words.length (wordCells I.words) := by simpa using o19
  have x19 : v19.ownBlock ≠ some b11 := fun e => by rcases l19 with h | ⟨g, h, h2⟩; (rw [h] at e; cases e); (rw [h] at e; cases e; have := B64.lt; omega)
  have R65 := Mt R53 e19
  have E66 := Mt E54 e19
  have y19 : ∀ g, v19.ownBlock = some g → b11 < g := fun g e => by
   rcases l19 with h | ⟨g2, h, h2⟩
   ·rw [h] at e; cases e
   ·rw [h] at e; cases e; have := B64.lt; omega
  refine WL.behindS R65 (WAL.one (i := 8) (m' := 511) (by kernel_rfl) G G (WL.nilCheck G G (WL.behindS R65 (Ti 9 (ptr b11 0) G G (Fa G fo70_0 Ok) R65 (WAL.one (i := 10) (m' := 2047) (by kernel_rfl) G G ?_)))))
  have B68 := B64.ext e19
  refine WL.storeB (v := v19) G G o19b.sl.one sz23 B68 (Nat.le_of_ble_eq_true G) ?_
  intro ws69 ms69 bs69 zs69
  have E69 : Ext w ws69 := Mod.own E47 n11 E66 ms69
  refine WL.behindL (by kernel_rfl) (WAL.done (by kernel_rfl) (Sr (Me (ptr b11 0) (Me (ptr b11 0) (WL.nilCheck G G (Fa G fo70_3 (Le (bs69.cell (j := 3) G) (Me iv0 ?_))))))))
  have O70 := o19b.mod ms69 (fun g hg e => x19 (hg.trans (congrArg some e)))
  refine WL.append (k := 0) (m := inp.length) (xs := []) (news := inp.map I64) ap26 G G G (Ux.Own.nil _ 1) ((hI.ext' E69).src y26 (ones_I64 _)) (by omega) (by omega) G ?_
  intro v28 w28 o28 m28 l28
  have e28 : Ext ws69 w28 := Mod.then (Mod.refl _ _) m28 (fun i hi e => by cases e)
  have o28b : Ux.Own w28 1 v28 inp.length (inp.map I64) := by simpa using o28
  have x28 : v28.ownBlock ≠ some b11 := fun e => by rcases l28 with h | ⟨g, h, h2⟩; (rw [h] at e; cases e); (rw [h] at e; cases e; have := bs69.lt; omega)
  have E71 := Mt E69 e28
  have y28 : ∀ g, v28.ownBlock = some g → b11 < g := fun g e => by
   rcases l28 with h | ⟨g2, h, h2⟩
   ·rw [h] at e; cases e
   ·rw [h] at e; cases e; have := bs69.lt; omega
  have hci : 0 < inp.length → ∀ g, v19.ownBlock = some g → v28.ownBlock ≠ some g := fun _ g e1 e2 => by
   have h1 := O70.lt hwz (by decide) e1
   rcases l28 with h | ⟨g2, h, h2⟩
   ·rw [h] at e2; cases e2
   ·rw [h] at e2; cases e2; omega
  refine WL.nilCheck G G (Fa G fo70_3 ?_)
  have B72 := bs69.ext e28
  refine WL.storeB (v := v28) G G o28b.sl.one sz26 B72 (Nat.le_of_ble_eq_true G) ?_
  intro ws73 ms73 bs73 zs73
  have E73 : Ext w ws73 := Mod.own E47 n11 E71 ms73
  refine Ni (Sr (Me (ptr b11 0) (WL.nilCheck G G (Fa G fo70_4 (WL.indexArr (i := 2) ar68 sz39 G G (by omega) G (WL.storeB (v := U64 8388608#64) G G G sz39 bs73 (Nat.le_of_ble_eq_true G) ?_))))))
  intro ws74 ms74 bs74 zs74
  have E74 : Ext w ws74 := Mod.own E47 n11 E73 ms74
  refine Ni (Sr (Me (ptr b11 0) (Ae (ptr b11 0) (Ni (WC.ret ?_)))))
  have O75 := ((O70.ext e28).mod ms73 (fun g hg e => x19 (hg.trans (congrArg some e)))).mod ms74 (fun g hg e => x19 (hg.trans (congrArg some e)))
  have O76 := ((((((n8.blk.own.ext n11.ext).ext ed_2).ext e19).mod ms69 (fun g hg e => (fun e => hx8 (Option.some.inj e)) (hg.trans (congrArg some e)))).ext e28).mod ms73 (fun g hg e => (fun e => hx8 (Option.some.inj e)) (hg.trans (congrArg some e)))).mod ms74 (fun g hg e => (fun e => hx8 (Option.some.inj e)) (hg.trans (congrArg some e)))
  have O77 := (((((((n9.blk.own.ext n8.ext).ext n11.ext).ext ed_2).ext e19).mod ms69 (fun g hg e => (fun e => hx9 (Option.some.inj e)) (hg.trans (congrArg some e)))).ext e28).mod ms73 (fun g hg e => (fun e => hx9 (Option.some.inj e)) (hg.trans (congrArg some e)))).mod ms74 (fun g hg e => (fun e => hx9 (Option.some.inj e)) (hg.trans (congrArg some e)))
  have O78 := (o28b.mod ms73 (fun g hg e => x28 (hg.trans (congrArg some e)))).mod ms74 (fun g hg e => x28 (hg.trans (congrArg some e)))
  have B79 := ((((((n8.blk.ext n11.ext).ext ed_2).ext e19).mod ms69 (by omega)).ext e28).mod ms73 (by omega)).mod ms74 (by omega)
  have B80 := ((((((B49.ext n11.ext).ext ed_2).ext e19).mod ms69 (by omega)).ext e28).mod ms73 (by omega)).mod ms74 (by omega)
  obtain ⟨T, hT1, hT2⟩ := rr_new (w := w) bs74 O75 (by rw [← bsV_zero]; exact O76) (by rw [← bsV_zero]; exact O77) O78 g8 g9 h89 hy8 hy9 B79.lt B80.lt y19 y28 hci hwz (by omega)
  exact ⟨_, Ro G G, T, b11, G, hT1, hT2, E74⟩
end Go.Proofs.S
end
section
namespace Go.Ux
open Go
theorem Own.flat {w : World} {size g n cap : Nat} {xs : List Value} (h : Ux.Own w size (.slice (some ⟨g, 0, none⟩) n cap) n xs) : Ux.Own w 1 (.slice (some ⟨g, 0, none⟩) (n * size) (cap * size)) (n * size) xs ∧ n ≤ cap := by
 rcases h.2 with ⟨h1, _⟩ | ⟨g', cap', h1, hn, hc, hf⟩
 ·cases h1
 cases h1
 exact ⟨⟨by rw [h.1, Nat.mul_one], .inr ⟨g, cap * size, rfl, Nat.mul_le_mul_right _ hn, hc, by rw [Nat.mul_one]; exact hf⟩⟩, hn⟩
theorem Own.unflat {w : World} {size g n cap : Nat} {xs : List Value} (h : Ux.Own w 1 (.slice (some ⟨g, 0, none⟩) (n * size) (cap * size)) (n * size) xs) (hn : n ≤ cap) : Ux.Own w size (.slice (some ⟨g, 0, none⟩) n cap) n xs := by
 rcases h.2 with ⟨h1, _⟩ | ⟨g', cap', h1, _, hc, hf⟩
 ·cases h1
 ·injection h1 with h2 h3 h4
  injection h2 with h2
  injection h2 with h2
  subst h2
  rw [← h4, Nat.mul_one] at hf
  exact ⟨by rw [h.1, Nat.mul_one], .inr ⟨g, cap, rfl, hn, hc, hf⟩⟩
section
variable {P : Program} {ops : Array Oper} {l : List Oper} {n : Nat} {f : Fr} {w : World} {Q : Exit → Fr → World → Prop} {ty : TypeId} {pos : String} {aft : Array Edge}
theorem WL.storeOwnF {t m j g cap size : Nat} {x y : Operand} {v u : Value} {xs : List Value} (hx : ev f x = ptr g j) (hy : ev f y = u) (hu : u.oneCell' = true) (hz : sizeT P t = some 1) (h : Ux.Own w size v m xs) (hv : v = .slice (some ⟨g, 0, none⟩) m cap) (hj : j < m * size)
  (k : ∀ w', Ux.Own w' size v m (xs.set j u) → Mod (At v) w w' → WL P ops l n f w' Q) : WL P ops (⟨none, .store t x y, ty, pos, aft, none⟩ :: l) n f w Q := by
 subst hv
 obtain ⟨h1, h2⟩ := Own.flat h
 exact WL.storeOwn hx hy hu hz h1 G hj fun w' h3 h4 => k w' (Own.unflat h3 h2) h4
end
end Go.Ux
namespace Go.Proofs.S
open Go Go.Ux Go.Ux.Mach Go.Proofs Go.Proofs.M Go.Ux.Image
def evS (l : List (BitVec 8 × BitVec 64)) (i : Nat) : List (BitVec 8 × BitVec 64) := (l.take i).map (fun e => (e.1, 99#64)) ++ l.drop i
theorem evS_zero (l : List (BitVec 8 × BitVec 64)) : evS l 0 = l := by simp [evS]
theorem evS_len (l : List (BitVec 8 × BitVec 64)) (i : Nat) : (evS l i).length = l.length := by
 unfold evS; rw [List.length_append, List.length_map, List.length_take, List.length_drop]; omega
theorem evS_at (l : List (BitVec 8 × BitVec 64)) (i : Nat) (h : i < l.length) : (evS l i)[i]'(by rw [evS_len]; exact h) = l[i] := by
 unfold evS
 rw [List.getElem_append_right (by rw [List.length_map, List.length_take]; omega)]
 simp only [List.length_map, List.length_take, List.getElem_drop]
 congr 1; omega
theorem evS_get (l : List (BitVec 8 × BitVec 64)) (i : Nat) (h : i < l.length) : (evV (evS l i))[i * 2]? = some (U8 (l[i]).1) ∧ (evV (evS l i))[i * 2 + 1]? = some (I64 (l[i]).2) := by
 have h' : i < (evS l i).length := by rw [evS_len]; exact h
 have := evV_get (evS l i) i h'
 rw [evS_at l i h] at this
 exact this
theorem evS_next (l : List (BitVec 8 × BitVec 64)) (i : Nat) (h : i < l.length) : evS l (i + 1) = (l.take i).map (fun e => (e.1, 99#64)) ++ ((l[i]).1, 99#64) :: l.drop (i + 1) := by
 unfold evS
 rw [List.take_succ_eq_append_getElem h, List.map_append, List.append_assoc]; rfl
theorem evS_set (l : List (BitVec 8 × BitVec 64)) (i : Nat) (h : i < l.length) : (evV (evS l i)).set (i * 2 + 1) (I64 99#64) = evV (evS l (i + 1)) := by
 rw [evS_next l i h]
 have e : evS l i = (l.take i).map (fun e => (e.1, 99#64)) ++ l[i] :: l.drop (i + 1) := by
  unfold evS; rw [List.drop_eq_getElem_cons h]
 rw [e]
 have ha : ∀ a b : List (BitVec 8 × BitVec 64), evV (a ++ b) = evV a ++ evV b := fun a b => by simp [evV]
 have hc : ∀ (p : BitVec 8 × BitVec 64) (b : List (BitVec 8 × BitVec 64)), evV (p :: b) = U8 p.1 :: I64 p.2 :: evV b := fun p b => by simp [evV]
 have hl : (evV ((l.take i).map (fun e => (e.1, 99#64)))).length = i * 2 := by rw [evV_length, List.length_map, List.length_take]; omega
 rw [ha, ha, hc, hc, List.set_append, if_neg (by omega), hl, show i * 2 + 1 - i * 2 = 1 by omega]; rfl
end Go.Proofs.S
end
section
set_option linter.unusedSimpArgs false
set_option linter.unusedVariables false
namespace Go.Proofs.S
open Go Go.Ux Go.Ux.Mach Go.Proofs
open Tryz
theorem fo38_1 : fieldOff prog 38 1 = some 1 := by kernel_rfl
open Go.Ux.Image
set_option maxHeartbeats 1000000 in
theorem tells_q (Ta : Nat → Nat) (a : Nat) (Tb : Nat → Nat) (b : Nat) (M : MS) (ws : List (BitVec 32)) (w : World) (hM : MR Ta w a M) (h : RR Tb w b M ws) (hX : HX w) (he : M.events.length ≤ 8796093022208)  : Cx 27 #[ptr a 0, ptr b 0] w (.bool true) := by
 obtain ⟨cv, dv, sv, iv, ev, hb, ht⟩ := h
 refine Co func27 G G ?_
 refine Sr (Ae (.bool false) (Ni (Sq (Sr (Ae (IN 0) (Ni (Bk ?_)))))))
 refine WC.loop (fun k f w_ => ∃ i, (k + i = 32) ∧ f 0 = ptr a 0 ∧ f 1 = ptr b 0 ∧ f 5 = IN i ∧ (Blk w_ b (RCells cv dv sv iv ev M) 70) ∧ (Ext w w_)) 32 ?_ ?_
 ·exact ⟨0, by omega, G, G, G, hb, Mod.refl _ _⟩
 rintro ka f1 wr ⟨i, hk, h0_1, h1_1, h5_1, hb1, hE⟩
 refine Sq (Sr (Mv (IN i) h5_1 (Bn G G BinR.lss (Ni ?_))))
 refine WC.cond G (fun hc9 => ?_) (fun hc9 => ?_)
 ·have hi : i < 32 := by have := of_decide_eq_true hc9; omega
  refine WC.skip (Sq (Bk (Sq (WC.draw (fun w_ => Ext wr w_) 10 G mixed ?_))))
  intro wd_4 ed_4
  have R2 : Ext wr wd_4 := ed_4
  have E3 := Mt hE ed_4
  refine Tp 0 (ptr a 0) G G (Mv (ptr a 0) h0_1 Ok) R2 (Tp 1 (IN i) G G (Mv (IN i) h5_1 Ok) R2 (Tp 3 (ptr b 0) G G (Mv (ptr b 0) h1_1 Ok) R2 (Tp 4 (IN i) G G (Mv (IN i) h5_1 Ok) R2 ?_)))
  refine WA.two (i := 2) (j := 5) (mi := 31) (mj := 59) (by kernel_rfl) G G G G ?_ ?_
  ·refine Ca (reg_spec Ta a M _ (hM.ext E3) i hi) ?_
   rintro _ wg14 ⟨rfl, eg14⟩
   have R9 := Mt R2 eg14
   have E10 := Mt E3 eg14
   refine WL.behind R9 (WA.one (i := 5) (m' := 63) (by kernel_rfl) G G (WL.nilCheck G G (WL.behind R9 (Tp 6 (ptr b 4) G G (Fa G fo70_4 Ok) R9 (Tp 7 (ptr b (4 + i)) G G (WL.indexArr1 (i := i) ar68 sz39 G G hi G Ok) R9 (Tk 8 (U64 (M.x i)) G G (fun _ hS => Lx G ((hb1.ext hS).cell (refCells_x _ _ _ _ _ _ _ _ _ _ hi)) Ok) R9 (Tp 9 (.bool false) G G (Bf G G BinR.neqU64 (bne_self_eq_false _) Ok) R9 (WA.done (by kernel_rfl) (Cf G (WC.skip (Rg (Mv (IN i) h5_1 (Bn G G (BinR.succN (by omega)) (Ae (IN (i + 1)) (Ni ?_)))))))))))))))
   have B16 := (hb1.ext ed_4).ext eg14
   exact ⟨ka - 1, by omega, (i + 1), by omega, h0_1, h1_1, G, B16, E10⟩
  ·refine WL.nilCheck G G (WL.behind R2 (Tp 6 (ptr b 4) G G (Fa G fo70_4 Ok) R2 (Tp 7 (ptr b (4 + i)) G G (WL.indexArr1 (i := i) ar68 sz39 G G hi G Ok) R2 (Tk 8 (U64 (M.x i)) G G (fun _ hS => Lx G ((hb1.ext hS).cell (refCells_x _ _ _ _ _ _ _ _ _ _ hi)) Ok) R2 (WA.one (i := 2) (m' := 511) (by kernel_rfl) G G (Ca (reg_spec Ta a M _ (hM.ext E3) i hi) ?_))))))
   rintro _ wg14 ⟨rfl, eg14⟩
   have R22 := Mt R2 eg14
   have E23 := Mt E3 eg14
   refine WL.behind R22 (Tp 9 (.bool false) G G (Bf G G BinR.neqU64 (bne_self_eq_false _) Ok) R22 (WA.done (by kernel_rfl) (Cf G (WC.skip (Rg (Mv (IN i) h5_1 (Bn G G (BinR.succN (by omega)) (Ae (IN (i + 1)) (Ni ?_)))))))))
   have B25 := (hb1.ext ed_4).ext eg14
   exact ⟨ka - 1, by omega, (i + 1), by omega, h0_1, h1_1, G, B25, E23⟩
 ·refine WC.exit (Sr (Mv (ptr a 0) h0_1 (Ca (events_spec Ta a M _ (hM.ext hE) he) ?_)))
  rintro v23 w23 ⟨o23, f23, e23⟩
  have F23 : From w.heap.size v23 := fun g hg => Nat.le_trans (Mod.size hE) (f23 g hg)
  have E27 := Mt hE e23
  refine Ae v23 (Ni (Sq (Sq (WC.draw (fun w_ => Ext w23 w_) 44 G mixed ?_))))
  intro wd_7 ed_7
  have R29 : Ext w23 wd_7 := ed_7
  have E30 := Mt E27 ed_7
  refine Tm 0 v23 G G R29 (Tk 1 (IN M.events.length) G G (fun _ hS => WL.lenSl (sz := 2) (m := M.events.length) (xs := evV M.events) el34 G ((o23.ext hS).sl) G Ok) R29 (Tp 2 (ptr b 0) G G (Mv (ptr b 0) h1_1 Ok) R29 (Tj 3 (ptr b 0) G G R29 (Tp 4 (ptr b 37) G G (Fa G fo70_6 Ok) R29 (Tk 5 ev G G (fun _ hS => Le (((hb1.ext e23).ext hS).cell (j := 37) G) Ok) R29 (Tk 6 (IN M.events.length) G G (fun wx hS => have E39 : Ext w wx := Mt E27 hS; WL.lenSl (sz := 2) (m := M.events.length) (xs := evV M.events) el34 G (ht.evs.sl.ext' E39) G Ok) R29 (Tp 7 (.bool false) G G (Bf G G BinR.neq (bne_self_eq_false _) Ok) R29 (Tm 8 (.bool false) G G R29 (Tp 9 (ptr a 0) G G (Gr (Mv (ptr a 0) h0_1 Ok)) R29 (Tp 11 (ptr b 0) G G (Gr (Mv (ptr b 0) h1_1 Ok)) R29 (Tn 12 (ptr b 0) G G (fun _ _ => Gr (WL.nilCheck G G Ok)) R29 (Tp 13 (ptr b 36) G G (Gr (Fa G fo70_5 Ok)) R29 (Tk 14 (U64 M.pc) G G (fun _ hS => Gr (Le (((hb1.ext e23).ext hS).cell (j := 36) G) Ok)) R29 (WA.one (i := 10) (m' := 32767) (by kernel_rfl) G G (Gr (Ca (pc_spec Ta a M _ (hM.ext E30) ) ?_))))))))))))))))
  rintro _ wg34 ⟨rfl, eg34⟩
  have R49 := Mt R29 eg34
  have E50 := Mt E30 eg34
  refine WL.behind R49 (Tp 15 (.bool false) G G (Gr (Bf G G BinR.neqU64 (bne_self_eq_false _) Ok)) R49 (Tp 16 (.bool false) G G (Pf G Ok) R49 (Tm 17 (.bool false) G G R49 (Tp 18 (ptr a 0) G G (Gr (Mv (ptr a 0) h0_1 Ok)) R49 (Tp 20 (ptr b 0) G G (Gr (Mv (ptr b 0) h1_1 Ok)) R49 (Tn 21 (ptr b 0) G G (fun _ _ => Gr (WL.nilCheck G G Ok)) R49 (Tp 22 (ptr b 38) G G (Gr (Fa G fo70_7 Ok)) R49 (Tk 23 (.bool M.fin.isSome) G G (fun _ hS => Gr (Le (((hb1.ext e23).ext hS).cell (j := 38) G) Ok)) R49 (WA.one (i := 19) (m' := 16777215) (by kernel_rfl) G G (Gr (Ca (ended_spec Ta a M _ (hM.ext E50) ) ?_)))))))))))
  rintro _ wg43 ⟨rfl, eg43⟩
  have R61 := Mt R49 eg43
  have E62 := Mt E50 eg43
  refine WL.behind R61 (Tp 24 (.bool false) G G (Gr (Bf G G (BinR.neqB y4) (bne_self_eq_false _) Ok)) R61 (Tp 25 (.bool false) G G (Pf G Ok) R61 (Tm 26 (.bool false) G G R61 (Tp 27 (ptr a 0) G G (Gr (Mv (ptr a 0) h0_1 Ok)) R61 (Tp 29 (ptr b 0) G G (Gr (Mv (ptr b 0) h1_1 Ok)) R61 (Tn 30 (ptr b 0) G G (fun _ _ => Gr (WL.nilCheck G G Ok)) R61 (Tp 31 (ptr b 39) G G (Gr (Fa G fo70_8 Ok)) R61 (Tk 32 (.bool ((M.fin == some true))) G G (fun _ hS => Gr (Le (((hb1.ext e23).ext hS).cell (j := 39) G) Ok)) R61 (WA.one (i := 28) (m' := 8589934591) (by kernel_rfl) G G (Gr (Ca (trapped_m Ta a M _ (hM.ext E62) (Mod.cell E62 hX (fun h => h))) ?_)))))))))))
  rintro _ wg52 ⟨rfl, eg52⟩
  have R73 := Mt R61 eg52
  have E74 := Mt E62 eg52
  refine WL.behind R73 (Tp 33 (.bool false) G G (Gr (Bf G G (BinR.neqB y4) (bne_self_eq_false _) Ok)) R73 (Tp 34 (.bool false) G G (Pf G Ok) R73 (Tm 35 (.bool false) G G R73 (Tp 36 (ptr a 0) G G (Gr (Mv (ptr a 0) h0_1 Ok)) R73 (Tp 38 (ptr b 0) G G (Gr (Mv (ptr b 0) h1_1 Ok)) R73 (Tn 39 (ptr b 0) G G (fun _ _ => Gr (WL.nilCheck G G Ok)) R73 (Tp 40 (ptr b 40) G G (Gr (Fa G fo70_9 Ok)) R73 (Tk 41 (I64 M.steps) G G (fun _ hS => Gr (Le (((hb1.ext e23).ext hS).cell (j := 40) G) Ok)) R73 (WA.one (i := 37) (m' := 4398046511103) (by kernel_rfl) G G (Gr (Ca (steps_spec Ta a M _ (hM.ext E74) ) ?_)))))))))))
  rintro _ wg61 ⟨rfl, eg61⟩
  have R85 := Mt R73 eg61
  have E86 := Mt E74 eg61
  refine WL.behind R85 (Tp 42 (.bool false) G G (Gr (Bf G G BinR.neq64 (bne_self_eq_false _) Ok)) R85 (Tp 43 (.bool false) G G (Pf G Ok) R85 (WA.done (by kernel_rfl) (Cf G (WC.skip (Sq (Sr (Ae (IN 0) (Ni (Bk ?_))))))))))
  refine WC.loop (fun k f w_ => ∃ i, (k + i = M.events.length) ∧ f 0 = ptr a 0 ∧ f 1 = ptr b 0 ∧ f 6 = v23 ∧ f 7 = IN i ∧ (Blk w_ b (RCells cv dv sv iv ev M) 70) ∧ (Ux.Own w_ 2 v23 M.events.length (evV (evS M.events i))) ∧ (Ext w w_)) M.events.length ?_ ?_
  have B89 := (((((hb1.ext e23).ext ed_7).ext eg34).ext eg43).ext eg52).ext eg61
  have O90 := ((((o23.ext ed_7).ext eg34).ext eg43).ext eg52).ext eg61
  ·exact ⟨0, by omega, h0_1, h1_1, G, G, B89, (by rw [evS_zero]; exact O90), E86⟩
  rintro kb f2 wr2 ⟨i, hk, h0_2, h1_2, h6_2, h7_2, hb2, hO, hE⟩
  refine Sq (Sr (Mv (IN i) h7_2 (Mv v23 h6_2 (WL.lenSl (sz := 2) (m := M.events.length) (xs := evV (evS M.events i)) el34 G hO.sl G (Bn G G BinR.lss (Ni ?_))))))
  refine WC.cond G (fun hc71 => ?_) (fun hc71 => ?_)
  ·have hi : i < M.events.length := by have := of_decide_eq_true hc71; omega
   obtain ⟨g, cap, hv23, _, hcv⟩ := hO.at (by omega)
   obtain ⟨ge, oe, ce, hev, hcev⟩ := ht.evs.sl.at (by omega)
   refine WC.skip (Sq (Bk (Sq (Sq (WC.draw (fun w_ => Ext wr2 w_) 12 G mixed ?_)))))
   intro wd_12 ed_12
   have R92 : Ext wr2 wd_12 := ed_12
   have E93 := Mt hE ed_12
   refine Tp 0 v23 G G (Mv v23 h6_2 Ok) R92 (Tp 1 (IN i) G G (Mv (IN i) h7_2 Ok) R92 (Tp 2 (ptr g (0 + i * 2)) G G (WL.indexAddr (i := i) (b := g) (o := 0) el34 sz38 (Eq.trans G hv23) G (by omega) G Ok) R92 (Tk 3 (.agg #[U8 ((M.events[i]).1), I64 ((M.events[i]).2)]) G G (fun _ hS => WL.loadS [U8 ((M.events[i]).1), I64 ((M.events[i]).2)] G ag38 sz38 G (cells2 (hcv.ext hS) (evS_get M.events i hi).1 (evS_get M.events i hi).2) G Ok) R92 (Tp 4 (ptr b 0) G G (Mv (ptr b 0) h1_2 Ok) R92 (Tj 5 (ptr b 0) G G R92 (Tp 6 (ptr b 37) G G (Fa G fo70_6 Ok) R92 (Tk 7 ev G G (fun _ hS => Le ((hb2.ext hS).cell (j := 37) G) Ok) R92 (Tp 8 (IN i) G G (Mv (IN i) h7_2 Ok) R92 (Tp 9 (ptr ge (oe + i * 2)) G G (WL.indexAddr (i := i) (b := ge) (o := oe) el34 sz38 (Eq.trans G hev) G (by omega) G Ok) R92 (Tk 10 (.agg #[U8 ((M.events[i]).1), I64 ((M.events[i]).2)]) G G (fun wx hS => have E105 : Ext w wx := Mt hE hS; WL.loadS [U8 ((M.events[i]).1), I64 ((M.events[i]).2)] G ag38 sz38 G (cells2 (hcev.ext E105) (evV_get M.events i hi).1 (evV_get M.events i hi).2) G Ok) R92 (Tp 11 (.bool false) G G (Bf G G (BinR.neqEv (by kernel_rfl) (by kernel_rfl)) (by simp) Ok) R92 (WA.done (by kernel_rfl) (Cf G (WC.skip (Rg (Mv v23 h6_2 (Mv (IN i) h7_2 (WL.indexAddr (i := i) (b := g) (o := 0) el34 sz38 (Eq.trans G hv23) G (by omega) G (Fa G fo38_1 ?_)))))))))))))))))))
   have O107 := hO.ext ed_12
   refine WL.storeOwnF (j := 0 + i * 2 + 1) (u := I64 99#64) G G G sz2 O107 hv23 (by omega) ?_
   intro wsx os msx
   have os2 : Ux.Own wsx 2 v23 M.events.length (evV (evS M.events (i + 1))) := by rw [← evS_set _ _ hi, ← Nat.zero_add (i * 2)]; exact os
   have E108 : Ext w wsx := Mod.from E93 msx F23
   refine Ni (Rg (Mv (IN i) h7_2 (Bn G G (BinR.succN (by omega)) (Ae (IN (i + 1)) (Ni ?_)))))
   have B109 := (hb2.ext ed_12).mod msx (F23.ne hb.lt)
   exact ⟨kb - 1, by omega, (i + 1), by omega, h0_2, h1_2, h6_2, G, B109, os2, E108⟩
  ·refine WC.exit (Sr (Ae (.bool true) (Ni (WC.ret ?_))))
   exact ⟨_, Ro G G, G, hE⟩
end Go.Proofs.S
end
section
namespace Go.Proofs.S
open Go Go.Ux Go.Ux.Mach Go.Proofs Go.Proofs.M Go.Ux.Image
open Tryz
open Go.Proofs.N (doM loadsM)
set_option linter.unusedVariables false
def Pair (w0 w : World) (a b : Nat) (Ma Mb : MS) (ws : List (BitVec 32)) : Prop :=
 ∃ Ta Tb, MR Ta w a Ma ∧ RR Tb w b Mb ws ∧ (∀ k, Ta k ≠ 0 → Tb k = 0) ∧ (∀ k, Ta k ≠ 0 → w0.heap.size ≤ k) ∧ ∀ k, Tb k ≠ 0 → w0.heap.size ≤ k
abbrev New0 (w0 : World) : Nat → Prop := fun k => w0.heap.size ≤ k
theorem Ext.new0 {w0 w w' : World} (h : Ext w0 w) (m : Mod (New0 w0) w w') : Ext w0 w' := Mod.then h m fun i hi e => absurd e (Nat.not_le_of_lt hi)
theorem Pair.ext {w0 w w' : World} {a b : Nat} {Ma Mb : MS} {ws : List (BitVec 32)} (h : Pair w0 w a b Ma Mb ws) (m : Ext w w') : Pair w0 w' a b Ma Mb ws := by
 obtain ⟨Ta, Tb, h1, h2, h3, h4, h5⟩ := h
 exact ⟨Ta, Tb, h1.ext m, h2.ext m, h3, h4, h5⟩
theorem zero_tag {T : Nat → Nat} {n k : Nat} (h : ∀ k, T k ≠ 0 → k < n) (hk : n ≤ k) : T k = 0 := by
 rcases Nat.eq_zero_or_pos (T k) with h0 | h0
 ·exact h0
 ·have := h k (by omega); omega
theorem Pair.stepA {w0 w : World} {a b : Nat} {M Mb : MS} {ws : List (BitVec 32)} (h : Pair w0 w a b M Mb ws) (h0 : Ext w0 w) (hc : CodeOk M.code) (hG : Glob w) (hX : w.cell? ⟨3, 0, none⟩ = some (.iface 206 (.agg #[.pointer (some ⟨6, 83, none⟩)]))) (hev : M.events.length ≤ 1000000) :
  CallsR prog 18 #[ptr a 0] w (fun v w' => v = IN (stepE M) ∧ Pair w0 w' a b (stepV M) Mb ws ∧ Mod (New0 w0) w w') := by
 obtain ⟨Ta, Tb, h1, h2, h3, h4, h5⟩ := h
 refine (stepV_spec Ta a M w h1 hc hG hX (by omega)).mono fun v w' ⟨hv, T, t1, t2, t3⟩ => ⟨hv, ⟨T, Tb, t1, h2.mod t2 (fun k hk e => hk (h3 k e)), ?_, ?_, h5⟩, t2.imp fun k _ e => h4 k e⟩
 ·intro k hk
  rcases t3 k hk with h | h
  ·exact h3 k h
  ·exact zero_tag h2.lt h
 ·intro k hk
  rcases t3 k hk with h | h
  ·exact h4 k h
  ·have := h0.size; omega
theorem Pair.stepB {w0 w : World} {a b : Nat} {Ma M : MS} {ws : List (BitVec 32)} (h : Pair w0 w a b Ma M ws) (h0 : Ext w0 w) (hws : ws.length ≤ 1000000) (hev : M.events.length ≤ 1000000) :
  CallsR prog 26 #[ptr b 0] w (fun v w' => v = .bool M.fin.isNone ∧ Pair w0 w' a b Ma (stepV M) ws ∧ Mod (New0 w0) w w') := by
 obtain ⟨Ta, Tb, h1, h2, h3, h4, h5⟩ := h
 refine (stepR_spec Tb b M ws w h2 hws (by omega)).mono fun v w' ⟨hv, T, t1, t2, t3⟩ => ⟨hv, ⟨Ta, T, h1.mod t2 (fun k hk e => e (h3 k hk)), t1, ?_, h4, ?_⟩, t2.imp fun k _ e => h5 k e⟩
 ·intro k hk
  rcases Nat.eq_zero_or_pos (T k) with hz | hz
  ·exact hz
  ·exfalso
   rcases t3 k (by omega) with h | h
   ·exact h (h3 k hk)
   ·have := (h1.lt k hk).1; omega
 ·intro k hk
  rcases t3 k hk with h | h
  ·exact h5 k h
  ·have := h0.size; omega
theorem Pair.ended {w0 w : World} {a b : Nat} {Ma Mb : MS} {ws : List (BitVec 32)} (h : Pair w0 w a b Ma Mb ws) : w.cell? ⟨b, 38, none⟩ = some (.bool Mb.fin.isSome) := by
 obtain ⟨Ta, Tb, h1, ⟨cv, dv, sv, iv, ev, hb, ht⟩, h3, h4, h5⟩ := h
 exact hb.cell (j := 38) G
theorem Pair.tells {w0 w : World} {a b : Nat} {M : MS} {ws : List (BitVec 32)} (h : Pair w0 w a b M M ws) (hX : w.cell? ⟨3, 0, none⟩ = some (.iface 206 (.agg #[.pointer (some ⟨6, 83, none⟩)]))) (hev : M.events.length ≤ 1000000) :
  CallsR prog 27 #[ptr a 0, ptr b 0] w (fun v w' => v = .bool true ∧ Ext w w') := by
 obtain ⟨Ta, Tb, h1, h2, h3, h4, h5⟩ := h
 exact tells_q Ta a Tb b M ws w h1 h2 hX (by omega)
def seen (M : MS) (addr : BitVec 64) : BitVec 64 × Bool := match whereM M.n addr 8 with
 | none => (0#64, false)
 | some (k, o) => (loadB (if k then M.d else M.s) o 8, true)
theorem seen_not {M : MS} {addr : BitVec 64} (h : (seen M addr).2 = false) : (seen M addr).1 = 0#64 := by
 unfold seen at h ⊢
 split at h
 ·rfl
 ·cases h
theorem Pair.peek {w0 w : World} {a b : Nat} {Ma Mb : MS} {ws : List (BitVec 32)} (h : Pair w0 w a b Ma Mb ws) (addr : BitVec 64) :
  CallsR prog 21 #[ptr a 0, U64 addr] w (fun v w' => v = .tuple #[U64 (seen Ma addr).1, .bool (seen Ma addr).2] ∧ Ext w w') := by
 obtain ⟨Ta, Tb, h1, h2, h3, h4, h5⟩ := h
 unfold seen
 rcases hW : whereM Ma.n addr 8 with _ | ⟨k, o⟩
 ·exact peek_no Ta a Ma w h1 addr hW
 ·exact peek_ok Ta a Ma w h1 addr k o hW
theorem Pair.load {w0 w : World} {a b : Nat} {Ma Mb : MS} {ws : List (BitVec 32)} (h : Pair w0 w a b Ma Mb ws) (addr : BitVec 64) :
  CallsR prog 24 #[ptr b 0, U64 addr, IN 8] w (fun v w' => v = .tuple #[U64 (seen Mb addr).1, .bool (seen Mb addr).2] ∧ Ext w w') := by
 obtain ⟨Ta, Tb, h1, h2, h3, h4, h5⟩ := h
 unfold seen
 rcases hW : whereM Mb.n addr 8 with _ | ⟨k, o⟩
 ·exact loadRR_none Tb b Mb ws w h2 addr 8 (by omega) hW
 ·exact loadRR_some Tb b Mb ws w h2 addr 8 k o (by omega) hW
def itV : Nat → MS → MS
 | 0, M => M
 | k + 1, M => stepV (itV k M)
theorem stepV_keeps (M : MS) : (stepV M).code = M.code ∧ (stepV M).events.length ≤ M.events.length + 1 := by
 unfold stepV; split
 ·exact ⟨G, by omega⟩
 ·exact stepM_keeps M
theorem itV_keeps : ∀ (k : Nat) (M : MS), (itV k M).code = M.code ∧ (itV k M).events.length ≤ M.events.length + k
 | 0, M => ⟨rfl, by show M.events.length ≤ _; omega⟩
 | k + 1, M => by
  obtain ⟨h1, h2⟩ := itV_keeps k M
  obtain ⟨h3, h4⟩ := stepV_keeps (itV k M)
  exact ⟨h3.trans h1, by show (stepV (itV k M)).events.length ≤ _; omega⟩
theorem stepE_ok (M : MS) : (((stepE M : Nat) : Int) == (0 : Int)) = !M.fin.isSome := by
 unfold stepE; cases M.fin <;> rfl
theorem stepE_four {M : MS} (h : M.fin.isSome = true) : (((stepE M : Nat) : Int) != (4 : Int)) = false := by
 unfold stepE; rw [if_pos h]; rfl
end Go.Proofs.S
end
section
set_option linter.unusedSimpArgs false
set_option linter.unusedVariables false
namespace Go.Proofs.S
open Go Go.Ux Go.Ux.Mach Go.Proofs
open Tryz
theorem el66 : elemT prog 66 = some 39 := by kernel_rfl
theorem zt61 : zeroT prog 61 = some #[.int .i64 0, .slice none 0 0, .slice none 0 0] := by kernel_rfl
theorem sz61 : sizeT prog 61 = some 3 := by kernel_rfl
theorem ag61 : isAggT prog 61 = some true := by kernel_rfl
open Go.Proofs.M (instV Glob)
open Go.Ux.Image
theorem right_words {I : Img} (h : rightB I = true) : 0 < I.words.length := by
 simp only [rightB, right2, right3, Bool.and_eq_true, decide_eq_true_eq] at h
 have := h.1.1.2.1; omega
theorem new_sep {w1 w1' : World} {a : Nat} {M : MS} {Ta Tb : Nat → Nat} (ha : MR Ta w1 a M) (hx : Ext w1 w1') (hFb : ∀ k, Tb k ≠ 0 → w1'.heap.size ≤ k) : ∀ k, Ta k ≠ 0 → Tb k = 0 := fun k hk => by
 rcases Nat.eq_zero_or_pos (Tb k) with h | h
 ·exact h
 ·have l1 := (ha.lt k hk).1; have l2 := hFb k (by omega); have := hx.size; omega
theorem getD_map {α : Type} (l : List α) (d : α) (f : α → Value) {i : Nat} (h : i < l.length) : (l.map f)[i]? = some (f (l.getD i d)) := by
 rw [List.getElem?_map, List.getElem?_eq_getElem h, List.getD_eq_getElem?_getD, List.getElem?_eq_getElem h]; rfl
theorem runs_big1 (I : Img) (sv wv iv0 : Value) (inp : List (BitVec 64)) (p : BitVec 8) (lk : Value) (L : List (BitVec 64)) (w : World) (hG : Glob w) (hX : HX w) (hs : Sl w sv 2 I.syms.length (symCells I.syms)) (hw : Sl w wv 1 I.words.length (wordCells I.words)) (hN : ∀ s ∈ I.syms, True ∧ s.2 ≤ 9223372036854775807) (hI : Sl w iv0 1 inp.length (inp.map I64)) (hIf : iv0 = .slice none 0 0 ∨ ∃ a c, iv0 = .slice (some a) inp.length c) (hLk : Sl w lk 1 L.length (L.map U64)) (d0 : 300 < I.words.length) : Cx 7 #[.agg #[.int .i64 I.entry, sv, wv], iv0, U8 p, lk] w (.bool true) := by
 refine Co func7 G G ?_
 refine Sr (WL.box (v := .agg #[.int .i64 I.entry, sv, wv]) G G ?_)
 intro b4 w4 n4
 have E1 : Ext w w4 := n4.ext
 refine Ae (.bool false) (Ni (Sq (Sr (Fa G fo25_2 (Le (n4.blk.cell (j := 2) G) (WL.lenSl (sz := 1) (m := I.words.length) (xs := wordCells I.words) el23 G (hw.ext' E1) G (Bp G G BinR.gtr (Me (.bool true) (Gx (Gx (Gx (Gx (Pt G (Me (.bool true) (Gx (Gx (Gx (Pt G (Me (.bool true) (Gx (Gx (Gx ?_))))))))))))))))))))))
 refine Pt G (Me (.bool true) (Gx (Gx (Gx (Pt G (Ni (Ct G (Sr (Ca (works_spec _ (hG.ext E1) (Mod.cell E1 hX (fun h => h))) ?_)))))))))
 rintro _ wk48 ⟨rfl, ek48⟩
 have E2 := Mt E1 ek48
 refine Ae (.bool true) (Ni (WC.ret ?_))
 exact ⟨_, Ro G G, G, E2⟩
theorem runs_big2 (I : Img) (sv wv iv0 : Value) (inp : List (BitVec 64)) (p : BitVec 8) (lk : Value) (L : List (BitVec 64)) (w : World) (hG : Glob w) (hX : HX w) (hs : Sl w sv 2 I.syms.length (symCells I.syms)) (hw : Sl w wv 1 I.words.length (wordCells I.words)) (hN : ∀ s ∈ I.syms, True ∧ s.2 ≤ 9223372036854775807) (hI : Sl w iv0 1 inp.length (inp.map I64)) (hIf : iv0 = .slice none 0 0 ∨ ∃ a c, iv0 = .slice (some a) inp.length c) (hLk : Sl w lk 1 L.length (L.map U64)) (d0 : ¬ (300 < I.words.length)) (d1 : 70 < I.syms.length) : Cx 7 #[.agg #[.int .i64 I.entry, sv, wv], iv0, U8 p, lk] w (.bool true) := by
 refine Co func7 G G ?_
 refine Sr (WL.box (v := .agg #[.int .i64 I.entry, sv, wv]) G G ?_)
 intro b4 w4 n4
 have E1 : Ext w w4 := n4.ext
 refine Ae (.bool false) (Ni (Sq (Sr (Fa G fo25_2 (Le (n4.blk.cell (j := 2) G) (WL.lenSl (sz := 1) (m := I.words.length) (xs := wordCells I.words) el23 G (hw.ext' E1) G (Bo G G BinR.gtr (Me (.bool false) (Gr (Fa G fo25_1 (Gr (Le (n4.blk.cell (j := 1) G) (Gr (WL.lenSl (sz := 2) (m := I.syms.length) (xs := symCells I.syms) el22 G (hs.ext' E1) G (Gr (Bp G G BinR.gtr (Pf G (Me (.bool true) (Gx (Gx (Gx (Pt G ?_))))))))))))))))))))))
 refine Me (.bool true) (Gx (Gx (Gx (Pt G (Me (.bool true) (Gx (Gx (Gx (Pt G (Ni (Ct G (Sr (Ca (works_spec _ (hG.ext E1) (Mod.cell E1 hX (fun h => h))) ?_)))))))))))))
 rintro _ wk48 ⟨rfl, ek48⟩
 have E2 := Mt E1 ek48
 refine Ae (.bool true) (Ni (WC.ret ?_))
 exact ⟨_, Ro G G, G, E2⟩
theorem runs_big3 (I : Img) (sv wv iv0 : Value) (inp : List (BitVec 64)) (p : BitVec 8) (lk : Value) (L : List (BitVec 64)) (w : World) (hG : Glob w) (hX : HX w) (hs : Sl w sv 2 I.syms.length (symCells I.syms)) (hw : Sl w wv 1 I.words.length (wordCells I.words)) (hN : ∀ s ∈ I.syms, True ∧ s.2 ≤ 9223372036854775807) (hI : Sl w iv0 1 inp.length (inp.map I64)) (hIf : iv0 = .slice none 0 0 ∨ ∃ a c, iv0 = .slice (some a) inp.length c) (hLk : Sl w lk 1 L.length (L.map U64)) (d0 : ¬ (300 < I.words.length)) (d1 : ¬ (70 < I.syms.length)) (d2 : 4096 < I.entry) : Cx 7 #[.agg #[.int .i64 I.entry, sv, wv], iv0, U8 p, lk] w (.bool true) := by
 refine Co func7 G G ?_
 refine Sr (WL.box (v := .agg #[.int .i64 I.entry, sv, wv]) G G ?_)
 intro b4 w4 n4
 have E1 : Ext w w4 := n4.ext
 refine Ae (.bool false) (Ni (Sq (Sr (Fa G fo25_2 (Le (n4.blk.cell (j := 2) G) (WL.lenSl (sz := 1) (m := I.words.length) (xs := wordCells I.words) el23 G (hw.ext' E1) G (Bo G G BinR.gtr (Me (.bool false) (Gr (Fa G fo25_1 (Gr (Le (n4.blk.cell (j := 1) G) (Gr (WL.lenSl (sz := 2) (m := I.syms.length) (xs := symCells I.syms) el22 G (hs.ext' E1) G (Gr (Bo G G BinR.gtr (Pf G (Me (.bool false) (Gr (Fa G fo25_0 (Gr (Le (n4.blk.cell (j := 0) G) ?_))))))))))))))))))))))
 refine Gr (Bp G G BinR.gtr (Pf G (Me (.bool true) (Gx (Gx (Gx (Pt G (Me (.bool true) (Gx (Gx (Gx (Pt G (Ni (Ct G (Sr (Ca (works_spec _ (hG.ext E1) (Mod.cell E1 hX (fun h => h))) ?_))))))))))))))))
 rintro _ wk48 ⟨rfl, ek48⟩
 have E2 := Mt E1 ek48
 refine Ae (.bool true) (Ni (WC.ret ?_))
 exact ⟨_, Ro G G, G, E2⟩
theorem runs_big4 (I : Img) (sv wv iv0 : Value) (inp : List (BitVec 64)) (p : BitVec 8) (lk : Value) (L : List (BitVec 64)) (w : World) (hG : Glob w) (hX : HX w) (hs : Sl w sv 2 I.syms.length (symCells I.syms)) (hw : Sl w wv 1 I.words.length (wordCells I.words)) (hN : ∀ s ∈ I.syms, True ∧ s.2 ≤ 9223372036854775807) (hI : Sl w iv0 1 inp.length (inp.map I64)) (hIf : iv0 = .slice none 0 0 ∨ ∃ a c, iv0 = .slice (some a) inp.length c) (hLk : Sl w lk 1 L.length (L.map U64)) (d0 : ¬ (300 < I.words.length)) (d1 : ¬ (70 < I.syms.length)) (d2 : ¬ (4096 < I.entry)) (d3 : 30 < inp.length) : Cx 7 #[.agg #[.int .i64 I.entry, sv, wv], iv0, U8 p, lk] w (.bool true) := by
 refine Co func7 G G ?_
 refine Sr (WL.box (v := .agg #[.int .i64 I.entry, sv, wv]) G G ?_)
 intro b4 w4 n4
 have E1 : Ext w w4 := n4.ext
 refine Ae (.bool false) (Ni (Sq (Sr (Fa G fo25_2 (Le (n4.blk.cell (j := 2) G) (WL.lenSl (sz := 1) (m := I.words.length) (xs := wordCells I.words) el23 G (hw.ext' E1) G (Bo G G BinR.gtr (Me (.bool false) (Gr (Fa G fo25_1 (Gr (Le (n4.blk.cell (j := 1) G) (Gr (WL.lenSl (sz := 2) (m := I.syms.length) (xs := symCells I.syms) el22 G (hs.ext' E1) G (Gr (Bo G G BinR.gtr (Pf G (Me (.bool false) (Gr (Fa G fo25_0 (Gr (Le (n4.blk.cell (j := 0) G) ?_))))))))))))))))))))))
 refine Gr (Bo G G BinR.gtr (Pf G (Me (.bool false) (Gr (Me iv0 (Gr (WL.lenSl (sz := 1) (m := inp.length) (xs := inp.map I64) el26 G (hI.ext' E1) G (Gr (Bp G G BinR.gtr (Pf G (Me (.bool true) (Gx (Gx (Gx (Pt G (Ni (Ct G (Sr (Ca (works_spec _ (hG.ext E1) (Mod.cell E1 hX (fun h => h))) ?_)))))))))))))))))))
 rintro _ wk48 ⟨rfl, ek48⟩
 have E2 := Mt E1 ek48
 refine Ae (.bool true) (Ni (WC.ret ?_))
 exact ⟨_, Ro G G, G, E2⟩
theorem runs_big5 (I : Img) (sv wv iv0 : Value) (inp : List (BitVec 64)) (p : BitVec 8) (lk : Value) (L : List (BitVec 64)) (w : World) (hG : Glob w) (hX : HX w) (hs : Sl w sv 2 I.syms.length (symCells I.syms)) (hw : Sl w wv 1 I.words.length (wordCells I.words)) (hN : ∀ s ∈ I.syms, True ∧ s.2 ≤ 9223372036854775807) (hI : Sl w iv0 1 inp.length (inp.map I64)) (hIf : iv0 = .slice none 0 0 ∨ ∃ a c, iv0 = .slice (some a) inp.length c) (hLk : Sl w lk 1 L.length (L.map U64)) (d0 : ¬ (300 < I.words.length)) (d1 : ¬ (70 < I.syms.length)) (d2 : ¬ (4096 < I.entry)) (d3 : ¬ (30 < inp.length)) (d4 : 30 < L.length) : Cx 7 #[.agg #[.int .i64 I.entry, sv, wv], iv0, U8 p, lk] w (.bool true) := by
 refine Co func7 G G ?_
 refine Sr (WL.box (v := .agg #[.int .i64 I.entry, sv, wv]) G G ?_)
 intro b4 w4 n4
 have E1 : Ext w w4 := n4.ext
 refine Ae (.bool false) (Ni (Sq (Sr (Fa G fo25_2 (Le (n4.blk.cell (j := 2) G) (WL.lenSl (sz := 1) (m := I.words.length) (xs := wordCells I.words) el23 G (hw.ext' E1) G (Bo G G BinR.gtr (Me (.bool false) (Gr (Fa G fo25_1 (Gr (Le (n4.blk.cell (j := 1) G) (Gr (WL.lenSl (sz := 2) (m := I.syms.length) (xs := symCells I.syms) el22 G (hs.ext' E1) G (Gr (Bo G G BinR.gtr (Pf G (Me (.bool false) (Gr (Fa G fo25_0 (Gr (Le (n4.blk.cell (j := 0) G) ?_))))))))))))))))))))))
 refine Gr (Bo G G BinR.gtr (Pf G (Me (.bool false) (Gr (Me iv0 (Gr (WL.lenSl (sz := 1) (m := inp.length) (xs := inp.map I64) el26 G (hI.ext' E1) G (Gr (Bo G G BinR.gtr (Pf G (Me (.bool false) (Gr (Me lk (Gr (WL.lenSl (sz := 1) (m := L.length) (xs := L.map U64) el66 G (hLk.ext' E1) G (Gr (Bp G G BinR.gtr (Pf G (Ni (Ct G (Sr (Ca (works_spec _ (hG.ext E1) (Mod.cell E1 hX (fun h => h))) ?_))))))))))))))))))))))
 rintro _ wk48 ⟨rfl, ek48⟩
 have E2 := Mt E1 ek48
 refine Ae (.bool true) (Ni (WC.ret ?_))
 exact ⟨_, Ro G G, G, E2⟩
theorem runs_no (I : Img) (sv wv iv0 : Value) (inp : List (BitVec 64)) (p : BitVec 8) (lk : Value) (L : List (BitVec 64)) (w : World) (hG : Glob w) (hX : HX w) (hs : Sl w sv 2 I.syms.length (symCells I.syms)) (hw : Sl w wv 1 I.words.length (wordCells I.words)) (hN : ∀ s ∈ I.syms, True ∧ s.2 ≤ 9223372036854775807) (hI : Sl w iv0 1 inp.length (inp.map I64)) (hIf : iv0 = .slice none 0 0 ∨ ∃ a c, iv0 = .slice (some a) inp.length c) (hLk : Sl w lk 1 L.length (L.map U64)) (c1 : I.words.length ≤ 300) (c2 : I.syms.length ≤ 70) (c3 : I.entry ≤ 4096) (c4 : inp.length ≤ 30) (c5 : L.length ≤ 30) (hr : rightB I = false) : Cx 7 #[.agg #[.int .i64 I.entry, sv, wv], iv0, U8 p, lk] w (.bool true) := by
 have hR : Rep w sv wv I := ⟨hs, hw, by omega, by omega⟩
 refine Co func7 G G ?_
 refine Sr (WL.box (v := .agg #[.int .i64 I.entry, sv, wv]) G G ?_)
 intro b4 w4 n4
 have E1 : Ext w w4 := n4.ext
 refine Ae (.bool false) (Ni (Sq (Sr (Fa G fo25_2 (Le (n4.blk.cell (j := 2) G) (WL.lenSl (sz := 1) (m := I.words.length) (xs := wordCells I.words) el23 G (hw.ext' E1) G (Bo G G BinR.gtr (Me (.bool false) (Gr (Fa G fo25_1 (Gr (Le (n4.blk.cell (j := 1) G) (Gr (WL.lenSl (sz := 2) (m := I.syms.length) (xs := symCells I.syms) el22 G (hs.ext' E1) G (Gr (Bo G G BinR.gtr (Pf G (Me (.bool false) (Gr (Fa G fo25_0 (Gr (Le (n4.blk.cell (j := 0) G) ?_))))))))))))))))))))))
 refine Gr (Bo G G BinR.gtr (Pf G (Me (.bool false) (Gr (Me iv0 (Gr (WL.lenSl (sz := 1) (m := inp.length) (xs := inp.map I64) el26 G (hI.ext' E1) G (Gr (Bo G G BinR.gtr (Pf G (Me (.bool false) (Gr (Me lk (Gr (WL.lenSl (sz := 1) (m := L.length) (xs := L.map U64) el66 G (hLk.ext' E1) G (Gr (Bo G G BinR.gtr (Pf G (Ni (Cf G (WC.skip (Sr ?_))))))))))))))))))))))
 refine Se [.int .i64 I.entry, sv, wv] n4.blk (Ca (Go.Proofs.R.plain_spec sv wv I _ (hR.ext E1)) ?_)
 rintro _ w50 ⟨u50, rfl, hu50, fu50, e50⟩
 have F50 : From w.heap.size u50 := fun g hg => Nat.le_trans (Mod.size E1) (fu50 g hg)
 have E2 := Mt E1 e50
 refine WL.allocStore (v := .agg #[.int .i64 I.entry, u50, wv]) zt61 G sz61 G G (ones3 G hu50.sl.one (hw.ext' E2).one) G ?_
 intro b9 w9 n9
 have E3 := Mt E2 n9.ext
 refine Ni (Sr (Ae (.slice none 0 0) (Ni (Sr (Me (.slice none 0 0) (Me iv0 (WL.append (k := 0) (m := inp.length) (xs := []) (news := inp.map I64) ap26 G G G (Ux.Own.nil _ 1) ((hI.ext' E3).src y26 (ones_I64 _)) (by omega) (by omega) G ?_)))))))
 intro v53 w53 o53 m53 l53
 have e53 : Ext w9 w53 := Mod.then (Mod.refl _ _) m53 (fun i hi e => by cases e)
 have o53b : Ux.Own w53 1 v53 inp.length (inp.map I64) := by simpa using o53
 have hIf53 := long_form o53b
 have F53 : From w.heap.size v53 := fun g hg => by
  have := Mod.size E3
  rcases l53 with h | ⟨g2, h, h2⟩
  ·rw [h] at hg; cases hg
  ·rw [h] at hg; cases hg; omega
 have E4 := Mt E3 e53
 refine Ae v53 (Ni (Sr ?_))
 have B5 := ((n4.blk.ext e50).ext n9.ext).ext e53
 refine Se [.int .i64 I.entry, sv, wv] B5 (Me v53 (Ca (new_no I sv wv v53 inp _ (hR.ext E4) hN hr) ?_))
 rintro _ wna ⟨rfl, ena⟩
 have E6 := Mt E4 ena
 refine Me (.tuple #[.pointer none, IN 2]) (Et G G (Et G G (Ae (.pointer none) (Ae (IN 2) (Ni (Sq (Sr ?_)))))))
 have B7 := (n9.blk.ext e53).ext ena
 refine Se [.int .i64 I.entry, u50, wv] B7 ?_
 have S8 := ((hu50.sl.ext' n9.ext).ext' e53).ext' ena
 refine Ca (Go.Proofs.R.rright_spec u50 wv I _ ⟨S8, hw.ext' E6, by omega, by omega⟩) ?_
 rintro _ w61 ⟨rfl, e61⟩
 rw [hr]
 have E9 := Mt E6 e61
 refine WL.un G G UnR.not (Ni (Ct G (Sr (Me (IN 2) (Bt G G BinR.eql G (Me (.bool true) (Gr (Me (.pointer none) (Gr (Bn G G (BinR.eqlPP y28) (Pt G (Me (.bool true) (Gr (Ca (works_spec _ (hG.ext E9) (Mod.cell E9 hX (fun h => h))) ?_))))))))))))))
 rintro _ wk70 ⟨rfl, ek70⟩
 have E10 := Mt E9 ek70
 refine Pt G (Ae (.bool true) (Ni (WC.ret ?_)))
 exact ⟨_, Ro G G, G, E10⟩
set_option maxHeartbeats 2000000 in
theorem runs_ok (I : Img) (sv wv iv0 : Value) (inp : List (BitVec 64)) (p : BitVec 8) (lk : Value) (L : List (BitVec 64)) (w : World) (hG : Glob w) (hX : HX w) (hs : Sl w sv 2 I.syms.length (symCells I.syms)) (hw : Sl w wv 1 I.words.length (wordCells I.words)) (hN : ∀ s ∈ I.syms, True ∧ s.2 ≤ 9223372036854775807) (hI : Sl w iv0 1 inp.length (inp.map I64)) (hIf : iv0 = .slice none 0 0 ∨ ∃ a c, iv0 = .slice (some a) inp.length c) (hLk : Sl w lk 1 L.length (L.map U64)) (c1 : I.words.length ≤ 300) (c2 : I.syms.length ≤ 70) (c3 : I.entry ≤ 4096) (c4 : inp.length ≤ 30) (c5 : L.length ≤ 30) (hr : rightB I = true) : Cx 7 #[.agg #[.int .i64 I.entry, sv, wv], iv0, U8 p, lk] w (.bool true) := by
 have hR : Rep w sv wv I := ⟨hs, hw, by omega, by omega⟩
 obtain ⟨hr1, hr2, hr3⟩ := right_facts hr
 have hp := p.isLt
 refine Co func7 G G ?_
 refine Sr (WL.box (v := .agg #[.int .i64 I.entry, sv, wv]) G G ?_)
 intro b4 w4 n4
 have E1 : Ext w w4 := n4.ext
 refine Ae (.bool false) (Ni (Sq (Sr (Fa G fo25_2 (Le (n4.blk.cell (j := 2) G) (WL.lenSl (sz := 1) (m := I.words.length) (xs := wordCells I.words) el23 G (hw.ext' E1) G (Bo G G BinR.gtr (Me (.bool false) (Gr (Fa G fo25_1 (Gr (Le (n4.blk.cell (j := 1) G) (Gr (WL.lenSl (sz := 2) (m := I.syms.length) (xs := symCells I.syms) el22 G (hs.ext' E1) G (Gr (Bo G G BinR.gtr (Pf G (Me (.bool false) (Gr (Fa G fo25_0 (Gr (Le (n4.blk.cell (j := 0) G) ?_))))))))))))))))))))))
 refine Gr (Bo G G BinR.gtr (Pf G (Me (.bool false) (Gr (Me iv0 (Gr (WL.lenSl (sz := 1) (m := inp.length) (xs := inp.map I64) el26 G (hI.ext' E1) G (Gr (Bo G G BinR.gtr (Pf G (Me (.bool false) (Gr (Me lk (Gr (WL.lenSl (sz := 1) (m := L.length) (xs := L.map U64) el66 G (hLk.ext' E1) G (Gr (Bo G G BinR.gtr (Pf G (Ni (Cf G (WC.skip (Sr ?_))))))))))))))))))))))
 refine Se [.int .i64 I.entry, sv, wv] n4.blk (Ca (Go.Proofs.R.plain_spec sv wv I _ (hR.ext E1)) ?_)
 rintro _ w50 ⟨u50, rfl, hu50, fu50, e50⟩
 have F50 : From w.heap.size u50 := fun g hg => Nat.le_trans (Mod.size E1) (fu50 g hg)
 have E2 := Mt E1 e50
 refine WL.allocStore (v := .agg #[.int .i64 I.entry, u50, wv]) zt61 G sz61 G G (ones3 G hu50.sl.one (hw.ext' E2).one) G ?_
 intro b9 w9 n9
 have E3 := Mt E2 n9.ext
 refine Ni (Sr (Ae (.slice none 0 0) (Ni (Sr (Me (.slice none 0 0) (Me iv0 (WL.append (k := 0) (m := inp.length) (xs := []) (news := inp.map I64) ap26 G G G (Ux.Own.nil _ 1) ((hI.ext' E3).src y26 (ones_I64 _)) (by omega) (by omega) G ?_)))))))
 intro v53 w53 o53 m53 l53
 have e53 : Ext w9 w53 := Mod.then (Mod.refl _ _) m53 (fun i hi e => by cases e)
 have o53b : Ux.Own w53 1 v53 inp.length (inp.map I64) := by simpa using o53
 have hIf53 := long_form o53b
 have F53 : From w.heap.size v53 := fun g hg => by
  have := Mod.size E3
  rcases l53 with h | ⟨g2, h, h2⟩
  ·rw [h] at hg; cases hg
  ·rw [h] at hg; cases hg; omega
 have E4 := Mt E3 e53
 refine Ae v53 (Ni (Sr ?_))
 have B5 := ((n4.blk.ext e50).ext n9.ext).ext e53
 refine Se [.int .i64 I.entry, sv, wv] B5 (Me v53 (Ca (new_ok I sv wv v53 inp _ (hR.ext E4) hN (hG.ext E4) (glob_size (hG.ext E4)) o53b.sl hIf53 (by omega) hr) ?_))
 rintro _ wna ⟨Ta, ba, rfl, hMa, hTa, ena⟩
 have hFa : ∀ k, Ta k ≠ 0 → w.heap.size ≤ k := fun k h => Nat.le_trans (Mod.size E4) (hTa k h)
 have hva : 0 < inp.length → ∀ g, v53.ownBlock = some g → Ta g = 0 := fun h0 g e => by
  rcases Nat.eq_zero_or_pos (Ta g) with h | h
  ·exact h
  ·have h1 := hTa g (by omega); have h2 := o53b.lt h0 (by decide) e; omega
 have E6 := Mt E4 ena
 refine Me (.tuple #[ptr ba 0, IN 0]) (Et G G (Et G G (Ae (ptr ba 0) (Ae (IN 0) (Ni (Sq (Sr ?_)))))))
 have B7 := (n9.blk.ext e53).ext ena
 refine Se [.int .i64 I.entry, u50, wv] B7 ?_
 have S8 := ((hu50.sl.ext' n9.ext).ext' e53).ext' ena
 refine Ca (Go.Proofs.R.rright_spec u50 wv I _ ⟨S8, hw.ext' E6, by omega, by omega⟩) ?_
 rintro _ w61 ⟨rfl, e61⟩
 rw [hr]
 have R9 : Ext wna w61 := e61
 have E10 := Mt E6 e61
 refine WL.un G G UnR.not (Ni (Cf G (WC.skip (Sq (Sr (Me (IN 0) (Bf G G BinR.neq G (Ni (Cf G (WC.skip (Sr ?_)))))))))))
 have B11 := B7.ext e61
 refine Se [.int .i64 I.entry, u50, wv] B11 (Me iv0 ?_)
 have O12 := (o53b.ext ena).ext e61
 have S13 := S8.ext' e61
 refine Ca (rnewT u50 wv iv0 I inp _ (hw.ext' E10) (by omega) (hI.ext' E10) (by omega) hr1 (by omega) S13.one (right_words hr)) ?_
 rintro _ wnb ⟨Tb, bb, rfl, hMb, hTb, enb⟩
 have hFb : ∀ k, Tb k ≠ 0 → w.heap.size ≤ k := fun k h => Nat.le_trans (Mod.size E10) (hTb k h)
 have hsep := new_sep hMa R9 hTb
 have hvb : 0 < inp.length → ∀ g, v53.ownBlock = some g → Tb g = 0 := fun h0 g e => by
  rcases Nat.eq_zero_or_pos (Tb g) with h | h
  ·exact h
  ·have h1 := hTb g (by omega); have h2 := O12.lt h0 (by decide) e; omega
 have R14 := Mt R9 enb
 have E15 := Mt E10 enb
 refine Ae (ptr bb 0) (Ni (Sq (Sr (Ae (IN 0) (Ni (Bk ?_))))))
 refine WC.loop (fun k f w_ => ∃ i zs, (k + i = inp.length) ∧ (List.length (zs : List (BitVec 64)) = inp.length) ∧ f 2 = U8 p ∧ f 3 = lk ∧ f 10 = v53 ∧ f 11 = ptr ba 0 ∧ f 13 = ptr bb 0 ∧ f 14 = IN i ∧ (Ext w w_) ∧ (Ux.Own w_ 1 v53 inp.length (List.map I64 zs)) ∧ (MR Ta w_ ba (newM I inp)) ∧ (RR Tb w_ bb (newM I inp) I.words)) inp.length ?_ ?_
 have O16 := O12.ext enb
 ·exact ⟨0, inp, by omega, G, G, G, G, G, G, G, E15, O16, hMa.ext R14, hMb⟩
 rintro ka f1 wr1 ⟨i, zs, hk, hzl, h2_1, h3_1, h10_1, h11_1, h13_1, h14_1, hE, hO, hLa, hLb⟩
 refine Sq (Sr (Mv (IN i) h14_1 (Mv v53 h10_1 (WL.lenSl (sz := 1) (m := inp.length) (xs := zs.map I64) el26 G hO.sl G (Bn G G BinR.lss (Ni ?_))))))
 refine WC.cond G (fun hc80 => ?_) (fun hc80 => ?_)
 ·have hi : i < inp.length := by have := of_decide_eq_true hc80; omega
  obtain ⟨g5, cap5, hv5, _, hc5⟩ := hO.at (by omega)
  refine WC.skip (Sq (Bk (Rg (Mv v53 h10_1 (Mv (IN i) h14_1 (Mv v53 h10_1 (Mv (IN i) h14_1 (WL.indexAddr (i := i) (b := g5) (o := 0) el26 sz2 (Eq.trans G hv5) G (by omega) G (Lx G (by have h := hc5 (i * 1) _ (by rw [Nat.mul_one]; exact getD_map zs 0#64 I64 (by omega)); exact h) (Bn (vy := I64 1#64) G G BinR.add64 (WL.indexAddr (i := i) (b := g5) (o := 0) el26 sz2 (Eq.trans G hv5) G (by omega) G (WL.storeOwn (i := 0 + i * 1) (u := I64 (((zs.getD i 0#64) + 1#64))) G G G sz2 hO hv5 (by omega) ?_))))))))))))
  intro wsx os msx
  have os2 : Ux.Own wsx 1 v53 inp.length ((zs.set i (zs.getD i 0#64 + 1#64)).map I64) := by rw [List.map_set, ← Nat.mul_one i, ← Nat.zero_add (i * 1)]; rw [Nat.mul_one, Nat.zero_add] at os ⊢; simpa using os
  have E17 : Ext w wsx := Mod.from hE msx F53
  refine Ni (Rg (Mv (IN i) h14_1 (Bn G G (BinR.succN (by omega)) (Ae (IN (i + 1)) (Ni ?_)))))
  exact ⟨ka - 1, by omega, (i + 1), (zs.set i (zs.getD i 0#64 + 1#64)), by omega, (by rw [List.length_set]; exact hzl), h2_1, h3_1, h10_1, h11_1, h13_1, G, E17, os2, hLa.mod msx (fun k hk e => hk (hva (by omega) k e)), hLb.mod msx (fun k hk e => hk (hvb (by omega) k e))⟩
 ·refine WC.exit (Sq (Sr (Ae (IN 0) (Ni (Bk ?_)))))
  refine WC.loop (fun k f w_ => ∃ i, (k + i = p.toNat) ∧ f 2 = U8 p ∧ f 3 = lk ∧ f 11 = ptr ba 0 ∧ f 13 = ptr bb 0 ∧ f 15 = IN i ∧ (Pair w w_ ba bb (itV i (newM I inp)) (itV i (newM I inp)) I.words) ∧ (Ext w w_)) p.toNat ?_ ?_
  ·exact ⟨0, by omega, h2_1, h3_1, h11_1, h13_1, G, ⟨Ta, Tb, hLa, hLb, hsep, hFa, hFb⟩, hE⟩
  rintro kb f2 wr2 ⟨i, hk2, h2_2, h3_2, h11_2, h13_2, h15_2, hP, hE2⟩
  refine Sq (Sr (Mv (IN i) h15_2 (Mv (U8 p) h2_2 (Cv G (ConvR.u8n y5 y3) (Bn G G BinR.lss (Ni ?_))))))
  refine WC.cond G (fun hc94 => ?_) (fun hc94 => ?_)
  ·have hi : i < p.toNat := by have := of_decide_eq_true hc94; omega
   refine WC.skip (Sq (Bk (Sr (Mv (ptr bb 0) h13_2 (WL.nilCheck G G (Fa G fo70_7 (Lx G hP.ended (Ae (.bool ((itV i (newM I inp)).fin.isSome)) (Ni (Sr (Mv (ptr ba 0) h11_2 (Ca (hP.stepA hE2 (by rw [(itV_keeps i _).1]; exact newM_code hr3) (hG.ext hE2) (Mod.cell hE2 hX (fun h => h)) (by have := (itV_keeps i (newM I inp)).2; have e0 : (newM I inp).events.length = 0 := rfl; omega)) ?_))))))))))))
   rintro _ wsa ⟨rfl, hPa, mA⟩
   have EM18 : Ext w wsa := Ext.new0 hE2 mA
   refine Ae (IN ((stepE (itV i (newM I inp))))) (Ni (Sr (Mv (ptr bb 0) h13_2 (Ca (hPa.stepB EM18 (by omega) (by have := (itV_keeps i (newM I inp)).2; have e0 : (newM I inp).events.length = 0 := rfl; omega)) ?_))))
   rintro _ wsb ⟨rfl, hPb, mB⟩
   have hPb : Pair w wsb ba bb (itV (i + 1) (newM I inp)) (itV (i + 1) (newM I inp)) I.words := hPb
   have EM19 : Ext w wsb := Ext.new0 EM18 mB
   refine Ni (Sq (Sr (Me (IN ((stepE (itV i (newM I inp))))) (Bn (v := .bool (!((itV i (newM I inp)).fin.isSome))) G G (BinR.toB BinR.eql (stepE_ok _)) (Me (.bool ((itV i (newM I inp)).fin.isSome)) (WL.un G G UnR.not (Bf G G (BinR.neqB y4) (bne_self_eq_false _) (Me (.bool false) (Gr (Me (.bool ((itV i (newM I inp)).fin.isSome)) (Gr (Me (.bool ((itV i (newM I inp)).fin.isSome)) ?_))))))))))))
   rcases Bool.eq_false_or_eq_true ((itV i (newM I inp)).fin.isSome) with hg112 | hg112
   ·refine Gy hg112 (Me (IN ((stepE (itV i (newM I inp))))) (Gy hg112 (Bf G G BinR.neq (stepE_four hg112) (Gr (Qt hg112 G (Pf G (Me (.bool false) (Gr (Mv (ptr ba 0) h11_2 (Gr (Mv (ptr bb 0) h13_2 (Gr (Ca (hPb.tells (Mod.cell EM19 hX (fun h => h)) (by have := (itV_keeps (i + 1) (newM I inp)).2; have e0 : (newM I inp).events.length = 0 := rfl; omega)) ?_)))))))))))))
    rintro _ wtl ⟨rfl, etl⟩
    have E20 := Mt EM19 etl
    refine Gr (WL.un G G UnR.not (Pf G (Ni (Cf G (WC.skip (Sr (Ae (IN 0) (Ni (Bk ?_)))))))))
    refine WC.loop (fun k f w_ => ∃ q, (k + q = L.length) ∧ f 2 = U8 p ∧ f 3 = lk ∧ f 11 = ptr ba 0 ∧ f 13 = ptr bb 0 ∧ f 15 = IN i ∧ f 18 = IN q ∧ (Pair w w_ ba bb (itV (i + 1) (newM I inp)) (itV (i + 1) (newM I inp)) I.words) ∧ (Ext w w_)) L.length ?_ ?_
    ·exact ⟨0, by omega, h2_2, h3_2, h11_2, h13_2, h15_2, G, (hPb.ext etl), E20⟩
    rintro kc f3 wr3 ⟨q, hk3, h2_3, h3_3, h11_3, h13_3, h15_3, h18_3, hP2, hE3⟩
    refine Sq (Sr (Mv (IN q) h18_3 (Mv lk h3_3 (WL.lenSl (sz := 1) (m := L.length) (xs := L.map U64) el66 G (hLk.ext' hE3) G (Bn G G BinR.lss (Me (.bool (decide (((q : Nat) : Int) < ((L.length : Nat) : Int)))) ?_))))))
    rcases Bool.eq_false_or_eq_true (decide (((q : Nat) : Int) < ((L.length : Nat) : Int))) with hg127 | hg127
    ·have hq : q < L.length := by have := of_decide_eq_true hg127; omega
     refine Gy hg127 (Mv (IN i) h15_3 (Gy hg127 (Bn G G (BinR.remN (b := 20) (by decide)) (Gy hg127 (Bn G G BinR.eql (Qt hg127 G (Ni ?_)))))))
     refine WC.cond G (fun hc131 => ?_) (fun hc131 => ?_)
     ·refine WC.skip (Sq (Bk (Sr (Mv (ptr ba 0) h11_3 (Mv lk h3_3 (Mv (IN q) h18_3 (WL.indexSl (sz := 1) (m := L.length) (xs := L.map U64) (i := q) el66 sz39 G G (by omega) (hLk.ext' hE3) G ?_)))))))
      intro b138 o138 hb138 hc138
      refine Lx G (by have h := hc138 (q * 1) _ (by rw [Nat.mul_one]; exact getD_map L 0#64 U64 hq); exact h) (Ca (hP2.peek (L.getD q 0#64)) ?_)
      rintro _ wpk ⟨rfl, epk⟩
      have R21 : Ext wr3 wpk := epk
      have E22 := Mt hE3 epk
      refine Me (.tuple #[U64 ((seen (itV (i + 1) (newM I inp)) (L.getD q 0#64)).1), .bool ((seen (itV (i + 1) (newM I inp)) (L.getD q 0#64)).2)]) (Et G G (Et G G (Ae (U64 ((seen (itV (i + 1) (newM I inp)) (L.getD q 0#64)).1)) (Ae (.bool ((seen (itV (i + 1) (newM I inp)) (L.getD q 0#64)).2)) (Ni (Sr (Mv (ptr bb 0) h13_3 (Mv lk h3_3 (Mv (IN q) h18_3 (WL.indexSl (sz := 1) (m := L.length) (xs := L.map U64) (i := q) el66 sz39 G G (by omega) (hLk.ext' E22) G ?_))))))))))
      intro b147 o147 hb147 hc147
      refine Lx G (by have h := hc147 (q * 1) _ (by rw [Nat.mul_one]; exact getD_map L 0#64 U64 hq); exact h) (Ca ((hP2.ext R21).load (L.getD q 0#64)) ?_)
      rintro _ wld ⟨rfl, eld⟩
      have R23 := Mt R21 eld
      have E24 := Mt E22 eld
      refine Me (.tuple #[U64 ((seen (itV (i + 1) (newM I inp)) (L.getD q 0#64)).1), .bool ((seen (itV (i + 1) (newM I inp)) (L.getD q 0#64)).2)]) (Et G G (Et G G (Ae (U64 ((seen (itV (i + 1) (newM I inp)) (L.getD q 0#64)).1)) (Ae (.bool ((seen (itV (i + 1) (newM I inp)) (L.getD q 0#64)).2)) (Ni (Sr (Me (.bool ((seen (itV (i + 1) (newM I inp)) (L.getD q 0#64)).2)) (Me (.bool ((seen (itV (i + 1) (newM I inp)) (L.getD q 0#64)).2)) (Bf G G (BinR.neqB y4) (bne_self_eq_false _) (Me (.bool false) (Gr (Me (.bool ((seen (itV (i + 1) (newM I inp)) (L.getD q 0#64)).2)) (Gr (Me (.bool ((seen (itV (i + 1) (newM I inp)) (L.getD q 0#64)).2)) ?_))))))))))))))
      rcases Bool.eq_false_or_eq_true ((seen (itV (i + 1) (newM I inp)) (L.getD q 0#64)).2) with hg157 | hg157
      ·refine Gy hg157 (Me (U64 ((seen (itV (i + 1) (newM I inp)) (L.getD q 0#64)).1)) (Gy hg157 (Me (U64 ((seen (itV (i + 1) (newM I inp)) (L.getD q 0#64)).1)) (Gy hg157 (Bf G G BinR.neqU64 (bne_self_eq_false _) (Gr (Qt hg157 G (Pf G (Me (.bool false) (Gr (Me (.bool ((seen (itV (i + 1) (newM I inp)) (L.getD q 0#64)).2)) (Gr (WL.un G G UnR.not (Gr (Me (.bool (!((seen (itV (i + 1) (newM I inp)) (L.getD q 0#64)).2))) ?_)))))))))))))))
       rcases Bool.eq_false_or_eq_true (!((seen (itV (i + 1) (newM I inp)) (L.getD q 0#64)).2)) with hg166 | hg166
       ·refine Gy hg166 (Me (U64 ((seen (itV (i + 1) (newM I inp)) (L.getD q 0#64)).1)) (Gy hg166 (Bf (vy := U64 0#64) G G BinR.neqU64 (by rw [seen_not (by simpa using hg166)]; rfl) (Gr (Qt hg166 G (Pf G (Ni (Cf G (WC.skip (Rg (Mv (IN q) h18_3 (Bn G G (BinR.succN (by omega)) (Ae (IN (q + 1)) (Ni ?_))))))))))))))
        exact ⟨kc - 1, by omega, (q + 1), by omega, h2_3, h3_3, h11_3, h13_3, h15_3, G, hP2.ext R23, E24⟩
       ·refine Gz hg166 (Gz hg166 (Gr (Qf hg166 G (Pf G (Ni (Cf G (WC.skip (Rg (Mv (IN q) h18_3 (Bn G G (BinR.succN (by omega)) (Ae (IN (q + 1)) (Ni ?_))))))))))))
        exact ⟨kc - 1, by omega, (q + 1), by omega, h2_3, h3_3, h11_3, h13_3, h15_3, G, hP2.ext R23, E24⟩
      ·refine Gz hg157 (Gz hg157 (Gz hg157 (Gr (Qf hg157 G (Pf G (Me (.bool false) (Gr (Me (.bool ((seen (itV (i + 1) (newM I inp)) (L.getD q 0#64)).2)) (Gr (WL.un G G UnR.not (Gr (Me (.bool (!((seen (itV (i + 1) (newM I inp)) (L.getD q 0#64)).2))) ?_))))))))))))
       rcases Bool.eq_false_or_eq_true (!((seen (itV (i + 1) (newM I inp)) (L.getD q 0#64)).2)) with hg166 | hg166
       ·refine Gy hg166 (Me (U64 ((seen (itV (i + 1) (newM I inp)) (L.getD q 0#64)).1)) (Gy hg166 (Bf (vy := U64 0#64) G G BinR.neqU64 (by rw [seen_not (by simpa using hg166)]; rfl) (Gr (Qt hg166 G (Pf G (Ni (Cf G (WC.skip (Rg (Mv (IN q) h18_3 (Bn G G (BinR.succN (by omega)) (Ae (IN (q + 1)) (Ni ?_))))))))))))))
        exact ⟨kc - 1, by omega, (q + 1), by omega, h2_3, h3_3, h11_3, h13_3, h15_3, G, hP2.ext R23, E24⟩
       ·refine Gz hg166 (Gz hg166 (Gr (Qf hg166 G (Pf G (Ni (Cf G (WC.skip (Rg (Mv (IN q) h18_3 (Bn G G (BinR.succN (by omega)) (Ae (IN (q + 1)) (Ni ?_))))))))))))
        exact ⟨kc - 1, by omega, (q + 1), by omega, h2_3, h3_3, h11_3, h13_3, h15_3, G, hP2.ext R23, E24⟩
     ·refine WC.exit (Rg (Mv (IN i) h15_3 (Bn G G (BinR.succN (by omega)) (Ae (IN (i + 1)) (Ni ?_)))))
      exact ⟨kb - 1, by omega, (i + 1), by omega, h2_3, h3_3, h11_3, h13_3, G, hP2, hE3⟩
    ·refine Gz hg127 (Gz hg127 (Gz hg127 (Qf hg127 G (Ni (Cf G (WC.exit (Rg (Mv (IN i) h15_3 (Bn G G (BinR.succN (by omega)) (Ae (IN (i + 1)) (Ni ?_)))))))))))
     exact ⟨kb - 1, by omega, (i + 1), by omega, h2_3, h3_3, h11_3, h13_3, G, hP2, hE3⟩
   ·refine Gz hg112 (Gz hg112 (Gr (Qf hg112 G (Pf G (Me (.bool false) (Gr (Mv (ptr ba 0) h11_2 (Gr (Mv (ptr bb 0) h13_2 (Gr (Ca (hPb.tells (Mod.cell EM19 hX (fun h => h)) (by have := (itV_keeps (i + 1) (newM I inp)).2; have e0 : (newM I inp).events.length = 0 := rfl; omega)) ?_)))))))))))
    rintro _ wtl ⟨rfl, etl⟩
    have E25 := Mt EM19 etl
    refine Gr (WL.un G G UnR.not (Pf G (Ni (Cf G (WC.skip (Sr (Ae (IN 0) (Ni (Bk ?_)))))))))
    refine WC.loop (fun k f w_ => ∃ q, (k + q = L.length) ∧ f 2 = U8 p ∧ f 3 = lk ∧ f 11 = ptr ba 0 ∧ f 13 = ptr bb 0 ∧ f 15 = IN i ∧ f 18 = IN q ∧ (Pair w w_ ba bb (itV (i + 1) (newM I inp)) (itV (i + 1) (newM I inp)) I.words) ∧ (Ext w w_)) L.length ?_ ?_
    ·exact ⟨0, by omega, h2_2, h3_2, h11_2, h13_2, h15_2, G, (hPb.ext etl), E25⟩
    rintro kc f3 wr3 ⟨q, hk3, h2_3, h3_3, h11_3, h13_3, h15_3, h18_3, hP2, hE3⟩
    refine Sq (Sr (Mv (IN q) h18_3 (Mv lk h3_3 (WL.lenSl (sz := 1) (m := L.length) (xs := L.map U64) el66 G (hLk.ext' hE3) G (Bn G G BinR.lss (Me (.bool (decide (((q : Nat) : Int) < ((L.length : Nat) : Int)))) ?_))))))
    rcases Bool.eq_false_or_eq_true (decide (((q : Nat) : Int) < ((L.length : Nat) : Int))) with hg127 | hg127
    ·have hq : q < L.length := by have := of_decide_eq_true hg127; omega
     refine Gy hg127 (Mv (IN i) h15_3 (Gy hg127 (Bn G G (BinR.remN (b := 20) (by decide)) (Gy hg127 (Bn G G BinR.eql (Qt hg127 G (Ni ?_)))))))
     refine WC.cond G (fun hc131 => ?_) (fun hc131 => ?_)
     ·refine WC.skip (Sq (Bk (Sr (Mv (ptr ba 0) h11_3 (Mv lk h3_3 (Mv (IN q) h18_3 (WL.indexSl (sz := 1) (m := L.length) (xs := L.map U64) (i := q) el66 sz39 G G (by omega) (hLk.ext' hE3) G ?_)))))))
      intro b138 o138 hb138 hc138
      refine Lx G (by have h := hc138 (q * 1) _ (by rw [Nat.mul_one]; exact getD_map L 0#64 U64 hq); exact h) (Ca (hP2.peek (L.getD q 0#64)) ?_)
      rintro _ wpk ⟨rfl, epk⟩
      have R26 : Ext wr3 wpk := epk
      have E27 := Mt hE3 epk
      refine Me (.tuple #[U64 ((seen (itV (i + 1) (newM I inp)) (L.getD q 0#64)).1), .bool ((seen (itV (i + 1) (newM I inp)) (L.getD q 0#64)).2)]) (Et G G (Et G G (Ae (U64 ((seen (itV (i + 1) (newM I inp)) (L.getD q 0#64)).1)) (Ae (.bool ((seen (itV (i + 1) (newM I inp)) (L.getD q 0#64)).2)) (Ni (Sr (Mv (ptr bb 0) h13_3 (Mv lk h3_3 (Mv (IN q) h18_3 (WL.indexSl (sz := 1) (m := L.length) (xs := L.map U64) (i := q) el66 sz39 G G (by omega) (hLk.ext' E27) G ?_))))))))))
      intro b147 o147 hb147 hc147
      refine Lx G (by have h := hc147 (q * 1) _ (by rw [Nat.mul_one]; exact getD_map L 0#64 U64 hq); exact h) (Ca ((hP2.ext R26).load (L.getD q 0#64)) ?_)
      rintro _ wld ⟨rfl, eld⟩
      have R28 := Mt R26 eld
      have E29 := Mt E27 eld
      refine Me (.tuple #[U64 ((seen (itV (i + 1) (newM I inp)) (L.getD q 0#64)).1), .bool ((seen (itV (i + 1) (newM I inp)) (L.getD q 0#64)).2)]) (Et G G (Et G G (Ae (U64 ((seen (itV (i + 1) (newM I inp)) (L.getD q 0#64)).1)) (Ae (.bool ((seen (itV (i + 1) (newM I inp)) (L.getD q 0#64)).2)) (Ni (Sr (Me (.bool ((seen (itV (i + 1) (newM I inp)) (L.getD q 0#64)).2)) (Me (.bool ((seen (itV (i + 1) (newM I inp)) (L.getD q 0#64)).2)) (Bf G G (BinR.neqB y4) (bne_self_eq_false _) (Me (.bool false) (Gr (Me (.bool ((seen (itV (i + 1) (newM I inp)) (L.getD q 0#64)).2)) (Gr (Me (.bool ((seen (itV (i + 1) (newM I inp)) (L.getD q 0#64)).2)) ?_))))))))))))))
      rcases Bool.eq_false_or_eq_true ((seen (itV (i + 1) (newM I inp)) (L.getD q 0#64)).2) with hg157 | hg157
      ·refine Gy hg157 (Me (U64 ((seen (itV (i + 1) (newM I inp)) (L.getD q 0#64)).1)) (Gy hg157 (Me (U64 ((seen (itV (i + 1) (newM I inp)) (L.getD q 0#64)).1)) (Gy hg157 (Bf G G BinR.neqU64 (bne_self_eq_false _) (Gr (Qt hg157 G (Pf G (Me (.bool false) (Gr (Me (.bool ((seen (itV (i + 1) (newM I inp)) (L.getD q 0#64)).2)) (Gr (WL.un G G UnR.not (Gr (Me (.bool (!((seen (itV (i + 1) (newM I inp)) (L.getD q 0#64)).2))) ?_)))))))))))))))
       rcases Bool.eq_false_or_eq_true (!((seen (itV (i + 1) (newM I inp)) (L.getD q 0#64)).2)) with hg166 | hg166
       ·refine Gy hg166 (Me (U64 ((seen (itV (i + 1) (newM I inp)) (L.getD q 0#64)).1)) (Gy hg166 (Bf (vy := U64 0#64) G G BinR.neqU64 (by rw [seen_not (by simpa using hg166)]; rfl) (Gr (Qt hg166 G (Pf G (Ni (Cf G (WC.skip (Rg (Mv (IN q) h18_3 (Bn G G (BinR.succN (by omega)) (Ae (IN (q + 1)) (Ni ?_))))))))))))))
        exact ⟨kc - 1, by omega, (q + 1), by omega, h2_3, h3_3, h11_3, h13_3, h15_3, G, hP2.ext R28, E29⟩
       ·refine Gz hg166 (Gz hg166 (Gr (Qf hg166 G (Pf G (Ni (Cf G (WC.skip (Rg (Mv (IN q) h18_3 (Bn G G (BinR.succN (by omega)) (Ae (IN (q + 1)) (Ni ?_))))))))))))
        exact ⟨kc - 1, by omega, (q + 1), by omega, h2_3, h3_3, h11_3, h13_3, h15_3, G, hP2.ext R28, E29⟩
      ·refine Gz hg157 (Gz hg157 (Gz hg157 (Gr (Qf hg157 G (Pf G (Me (.bool false) (Gr (Me (.bool ((seen (itV (i + 1) (newM I inp)) (L.getD q 0#64)).2)) (Gr (WL.un G G UnR.not (Gr (Me (.bool (!((seen (itV (i + 1) (newM I inp)) (L.getD q 0#64)).2))) ?_))))))))))))
       rcases Bool.eq_false_or_eq_true (!((seen (itV (i + 1) (newM I inp)) (L.getD q 0#64)).2)) with hg166 | hg166
       ·refine Gy hg166 (Me (U64 ((seen (itV (i + 1) (newM I inp)) (L.getD q 0#64)).1)) (Gy hg166 (Bf (vy := U64 0#64) G G BinR.neqU64 (by rw [seen_not (by simpa using hg166)]; rfl) (Gr (Qt hg166 G (Pf G (Ni (Cf G (WC.skip (Rg (Mv (IN q) h18_3 (Bn G G (BinR.succN (by omega)) (Ae (IN (q + 1)) (Ni ?_))))))))))))))
        exact ⟨kc - 1, by omega, (q + 1), by omega, h2_3, h3_3, h11_3, h13_3, h15_3, G, hP2.ext R28, E29⟩
       ·refine Gz hg166 (Gz hg166 (Gr (Qf hg166 G (Pf G (Ni (Cf G (WC.skip (Rg (Mv (IN q) h18_3 (Bn G G (BinR.succN (by omega)) (Ae (IN (q + 1)) (Ni ?_))))))))))))
        exact ⟨kc - 1, by omega, (q + 1), by omega, h2_3, h3_3, h11_3, h13_3, h15_3, G, hP2.ext R28, E29⟩
     ·refine WC.exit (Rg (Mv (IN i) h15_3 (Bn G G (BinR.succN (by omega)) (Ae (IN (i + 1)) (Ni ?_)))))
      exact ⟨kb - 1, by omega, (i + 1), by omega, h2_3, h3_3, h11_3, h13_3, G, hP2, hE3⟩
    ·refine Gz hg127 (Gz hg127 (Gz hg127 (Qf hg127 G (Ni (Cf G (WC.exit (Rg (Mv (IN i) h15_3 (Bn G G (BinR.succN (by omega)) (Ae (IN (i + 1)) (Ni ?_)))))))))))
     exact ⟨kb - 1, by omega, (i + 1), by omega, h2_3, h3_3, h11_3, h13_3, G, hP2, hE3⟩
  ·refine WC.exit (Sr (Ca (works_spec _ (hG.ext hE2) (Mod.cell hE2 hX (fun h => h))) ?_))
   rintro _ wk171 ⟨rfl, ek171⟩
   have E31 := Mt hE2 ek171
   refine Ae (.bool true) (Ni (WC.ret ?_))
   exact ⟨_, Ro G G, G, E31⟩
end Go.Proofs.S
end
section
set_option linter.unusedSimpArgs false
set_option linter.unusedVariables false
namespace Go.Proofs.S
open Go Go.Ux Go.Ux.Mach Go.Proofs
open Tryz
theorem bld29_42 (p q r s : BitVec 8) (t : BitVec 64) : ∀ w : World, (Instr.build 104 #[(0, U8 p), (1, U8 q), (2, U8 r), (3, U8 s), (4, I64 t)]).run prog w = .ok (.agg #[U8 p, U8 q, U8 r, U8 s, I64 t]) w := fun _ => by kernel_rfl
open Go.Proofs.M (instV Glob)
open Go.Proofs.N (doM do_spec)
theorem enc_range {a : RvInst} (h : (encodeR a).2 = 0) : 1 ≤ a.op.toNat ∧ a.op.toNat < 66 := by
 unfold encodeR at h
 by_cases h1 : a.op.toNat < 1 ∨ 66 ≤ a.op.toNat
 ·rw [if_pos h1] at h; exact absurd h (by decide)
 ·omega
theorem mdoes_no (a : RvInst) (pc x y : BitVec 64) (w : World) (hG : Glob w) (hX : HX w) (he : ((((encodeR a).2 : Nat) : Int) != (0 : Int)) = true) : Cx 29 #[.agg #[U8 a.op, U8 a.rd, U8 a.rs1, U8 a.rs2, I64 a.imm], U64 pc, U64 x, U64 y] w (.bool true) := by
 refine Co func29 G G ?_
 refine Sr (WL.box (v := .agg #[U8 a.op, U8 a.rd, U8 a.rs1, U8 a.rs2, I64 a.imm]) G G ?_)
 intro b4 w4 n4
 have E1 : Ext w w4 := n4.ext
 refine Ae (.bool false) (Ni (Sr (Se [U8 a.op, U8 a.rd, U8 a.rs1, U8 a.rs2, I64 a.imm] n4.blk (Ca (encode_spec a _ (hG.ext E1)) ?_))))
 rintro _ wen ⟨rfl, een⟩
 have E2 := Mt E1 een
 refine Me (.tuple #[U32 (encodeR a).1, IN (encodeR a).2]) (Et G G (Et G G (Ae (U32 ((encodeR a).1)) (Ae (IN ((encodeR a).2)) (Ni (Sq (Sr (Me (IN ((encodeR a).2)) (Bt G G BinR.neq he (Ni (Ct G (Sr (Ca (works_spec _ (hG.ext E2) (Mod.cell E2 hX (fun h => h))) ?_)))))))))))))
 rintro _ wk22 ⟨rfl, ek22⟩
 have E3 := Mt E2 ek22
 refine Ae (.bool true) (Ni (WC.ret ?_))
 exact ⟨_, Ro G G, G, E3⟩
theorem mdoes_ok (a : RvInst) (pc x y : BitVec 64) (w : World) (hG : Glob w) (hX : HX w) (he : ((((encodeR a).2 : Nat) : Int) != (0 : Int)) = false) (ho1 : 1 ≤ a.op.toNat) (ho2 : a.op.toNat < 66) : Cx 29 #[.agg #[U8 a.op, U8 a.rd, U8 a.rs1, U8 a.rs2, I64 a.imm], U64 pc, U64 x, U64 y] w (.bool true) := by
 refine Co func29 G G ?_
 refine Sr (WL.box (v := .agg #[U8 a.op, U8 a.rd, U8 a.rs1, U8 a.rs2, I64 a.imm]) G G ?_)
 intro b4 w4 n4
 have E1 : Ext w w4 := n4.ext
 refine Ae (.bool false) (Ni (Sr (Se [U8 a.op, U8 a.rd, U8 a.rs1, U8 a.rs2, I64 a.imm] n4.blk (Ca (encode_spec a _ (hG.ext E1)) ?_))))
 rintro _ wen ⟨rfl, een⟩
 have E2 := Mt E1 een
 refine Me (.tuple #[U32 (encodeR a).1, IN (encodeR a).2]) (Et G G (Et G G (Ae (U32 ((encodeR a).1)) (Ae (IN ((encodeR a).2)) (Ni (Sq (Sr (Me (IN ((encodeR a).2)) (Bf G G BinR.neq he (Ni (Cf G (WC.skip (Sr ?_)))))))))))))
 have B3 := n4.blk.ext een
 refine Se [U8 a.op, U8 a.rd, U8 a.rs1, U8 a.rs2, I64 a.imm] B3 (Me (U64 pc) (Me (U64 x) (Me (U64 y) (Ca (do_spec a.op a.rd a.rs1 a.rs2 a.imm pc x y _ ho1 ho2) ?_))))
 rintro _ wdo ⟨rfl, edo⟩
 have E4 := Mt E2 edo
 refine Me (.tuple #[U64 (doM a.op.toNat a.imm pc x y).1, U64 (doM a.op.toNat a.imm pc x y).2]) (Et G G (Et G G (Ae (U64 ((doM a.op.toNat a.imm pc x y).1)) (Ae (U64 ((doM a.op.toNat a.imm pc x y).2)) (Ni (Sr (Fa G fo48_0 ?_)))))))
 have B5 := B3.ext edo
 refine Le (B5.cell (j := 0) G) (Fa G fo48_1 (Le (B5.cell (j := 1) G) (Fa G fo48_2 (Le (B5.cell (j := 2) G) (Fa G fo48_3 (Le (B5.cell (j := 3) G) (Fa G fo48_4 (Le (B5.cell (j := 4) G) (WL.build (v := .agg #[U8 a.op, U8 a.rd, U8 a.rs1, U8 a.rs2, I64 a.imm]) (vs := [(0, U8 a.op), (1, U8 a.rd), (2, U8 a.rs1), (3, U8 a.rs2), (4, I64 a.imm)]) G (bld29_42 a.op a.rd a.rs1 a.rs2 a.imm) G (Me (U64 pc) (Me (U64 x) (Me (U64 y) (Ca (do_q a.op a.rd a.rs1 a.rs2 a.imm pc x y _ _ ho2 G) ?_)))))))))))))
 rintro _ wdq ⟨rfl, edq⟩
 rw [do_eq _ _ _ _ _ ho1 ho2]
 have E6 := Mt E4 edq
 refine Me (.tuple #[U64 (doM a.op.toNat a.imm pc x y).1, U64 (doM a.op.toNat a.imm pc x y).2]) (Et G G (Et G G (Ae (U64 ((doM a.op.toNat a.imm pc x y).1)) (Ae (U64 ((doM a.op.toNat a.imm pc x y).2)) (Ni (Sr (Me (U64 ((doM a.op.toNat a.imm pc x y).1)) (Me (U64 ((doM a.op.toNat a.imm pc x y).1)) (Bt G G BinR.eqlU64 (beq_self_eq_true _) (Me (.bool true) (Gr (Me (U64 ((doM a.op.toNat a.imm pc x y).2)) (Gr (Me (U64 ((doM a.op.toNat a.imm pc x y).2)) (Gr (Bt G G BinR.eqlU64 (beq_self_eq_true _) (Pt G (Me (.bool true) (Gr (Ca (works_spec _ (hG.ext E6) (Mod.cell E6 hX (fun h => h))) ?_))))))))))))))))))))
 rintro _ wk58 ⟨rfl, ek58⟩
 have E7 := Mt E6 ek58
 refine Pt G (Ae (.bool true) (Ni (WC.ret ?_)))
 exact ⟨_, Ro G G, G, E7⟩
theorem mdoes_spec (a : RvInst) (pc x y : BitVec 64) (w : World) (hG : Glob w) (hX : HX w) : Cx 29 #[instV a, U64 pc, U64 x, U64 y] w (.bool true) := by
 rcases he : ((((encodeR a).2 : Nat) : Int) != (0 : Int)) with _ | _
 ·have h0 : (encodeR a).2 = 0 := by simpa using he
  exact mdoes_ok a pc x y w hG hX he (enc_range h0).1 (enc_range h0).2
 ·exact mdoes_no a pc x y w hG hX he
end Go.Proofs.S
end
section
set_option linter.unusedSimpArgs false
set_option linter.unusedVariables false
namespace Go.Proofs.S
open Go Go.Ux Go.Ux.Mach Go.Proofs
open Tryz
theorem peek_nil (a : BitVec 64) (w : World) : Cx 21 #[.pointer none, U64 a] w (.tuple #[Z8, .bool false]) := by
 refine Co func21 G G ?_
 refine Sr (Ae (U64 0#64) (Ae (.bool false) (Ni (Sq (Sr (Me (.pointer none) (Bn G G (BinR.eqlPP y28) (Ni (Ct G (Sr (Ae (U64 0#64) (Ae (.bool false) (Ni (WC.ret ?_))))))))))))))
 exact ⟨_, Rp G G G, G, Mod.refl _ _⟩
theorem steps_nil (w : World) : Cx 12 #[.pointer none] w (IN 0) := by
 refine Co func12 G G ?_
 refine Sr (Ae (IN 0) (Ni (Sq (Sr (Me (.pointer none) (Bn G G (BinR.eqlPP y28) (Ni (Ct G (Sr (Ae (IN 0) (Ni (WC.ret ?_))))))))))))
 exact ⟨_, Ro G G, G, Mod.refl _ _⟩
theorem ended_nil (w : World) : Cx 13 #[.pointer none] w (.bool true) := by
 refine Co func13 G G ?_
 refine Sr (Ae (.bool false) (Ni (Sr (Me (.pointer none) (Bn G G (BinR.eqlPP y28) (Me (.bool true) (Gx (Gx (Gx (Gx (Gx (Pt G (Ae (.bool true) (Ni (WC.ret ?_)))))))))))))))
 exact ⟨_, Ro G G, G, Mod.refl _ _⟩
theorem events_nil (w : World) : Cx 14 #[.pointer none] w (.slice none 0 0) := by
 refine Co func14 G G ?_
 refine Sr (Ae (.slice none 0 0) (Ni (Sq (Sr (Me (.pointer none) (Bn G G (BinR.eqlPP y28) (Ni (Ct G (Sr (Ae (.slice none 0 0) (Ni (WC.ret ?_))))))))))))
 exact ⟨_, Ro G G, G, Mod.refl _ _⟩
theorem pc_nil (w : World) : Cx 15 #[.pointer none] w (U64 0#64) := by
 refine Co func15 G G ?_
 refine Sr (Ae (U64 0#64) (Ni (Sq (Sr (Me (.pointer none) (Bn G G (BinR.eqlPP y28) (Ni (Ct G (Sr (Ae (U64 0#64) (Ni (WC.ret ?_))))))))))))
 exact ⟨_, Ro G G, G, Mod.refl _ _⟩
theorem trapm_nil (w : World) : Cx 16 #[.pointer none] w (.bool false) := by
 refine Co func16 G G ?_
 refine Sr (Ae (.bool false) (Ni (Sr (Me (.pointer none) (Bn G G (BinR.neqPP y28) (Me (.bool false) (Gx (Gx (Gx (Gx (Gx (Pf G (Ae (.bool false) (Ni (WC.ret ?_)))))))))))))))
 exact ⟨_, Ro G G, G, Mod.refl _ _⟩
theorem reg_nil (n : Nat) (w : World) : Cx 17 #[.pointer none, IN n] w (U64 0#64) := by
 refine Co func17 G G ?_
 refine Sr (Ae (U64 0#64) (Ni (Sq (Sr (Me (.pointer none) (Bn G G (BinR.eqlPP y28) (Me (.bool true) (Gx (Gx (Pt G (Me (.bool true) (Gx (Gx (Pt G (Ni (Ct G (Sr (Ae (U64 0#64) (Ni (WC.ret ?_))))))))))))))))))))
 exact ⟨_, Ro G G, G, Mod.refl _ _⟩
theorem run_nil (w : World) : Cx 11 #[.pointer none, IN 5] w (IN 0) := by
 refine Co func11 G G ?_
 refine Sr (Ae (IN 0) (Ni (Sr (Ae (IN 0) (Ni (Sq (Bk ?_)))))))
 refine WC.loop (fun k f w_ => f 0 = .pointer none ∧ f 1 = IN 5 ∧ f 5 = IN 0 ∧ (Ext w w_)) 0 ?_ ?_
 ·exact ⟨G, G, G, Mod.refl _ _⟩
 rintro ka f1 wr ⟨h0_1, h1_1, h5_1, hE⟩
 refine Sq (Sr (Mv (IN 0) h5_1 (Mv (IN 5) h1_1 (Bt G G BinR.lss (by decide) (Me (.bool true) (Gr (Mv (.pointer none) h0_1 (Gr (Ca (step_nil _) ?_)))))))))
 rintro _ wst ⟨rfl, est⟩
 have E2 := Mt hE est
 refine Gr (Bf G G BinR.eql (by decide) (Pt G (Ni (Cf G (WC.exit (Sr (Mv (IN 0) h5_1 (Ae (IN 0) (Ni (WC.ret ?_))))))))))
 exact ⟨_, Ro G G, G, E2⟩
end Go.Proofs.S
end
section
set_option linter.unusedSimpArgs false
set_option linter.unusedVariables false
namespace Go.Proofs.S
open Go Go.Ux Go.Ux.Mach Go.Proofs
open Tryz
theorem fo38_0 : fieldOff prog 38 0 = some 0 := by kernel_rfl
open Go.Proofs.M (instV Glob)
open Go.Ux.Image
theorem input_big1 (I : Img) (sv wv iv0 : Value) (inp : List (BitVec 64)) (iv1 : Value) (more : List (BitVec 64)) (p : BitVec 8) (w : World) (hG : Glob w) (hX : HX w) (hs : Sl w sv 2 I.syms.length (symCells I.syms)) (hw : Sl w wv 1 I.words.length (wordCells I.words)) (hN : ∀ s ∈ I.syms, True ∧ s.2 ≤ 9223372036854775807) (hI : Sl w iv0 1 inp.length (inp.map I64)) (hIf : iv0 = .slice none 0 0 ∨ ∃ a c, iv0 = .slice (some a) inp.length c) (hI2 : Sl w iv1 1 more.length (more.map I64)) (d0 : 300 < I.words.length) : Cx 3 #[.agg #[.int .i64 I.entry, sv, wv], iv0, iv1, U8 p] w (.bool true) := by
 refine Co func3 G G ?_
 refine Sr (WL.box (v := .agg #[.int .i64 I.entry, sv, wv]) G G ?_)
 intro b4 w4 n4
 have E1 : Ext w w4 := n4.ext
 refine Ae (.bool false) (Ni (Sq (Sr (Fa G fo25_2 (Le (n4.blk.cell (j := 2) G) (WL.lenSl (sz := 1) (m := I.words.length) (xs := wordCells I.words) el23 G (hw.ext' E1) G (Bp G G BinR.gtr (Me (.bool true) (Gx (Gx (Gx (Gx (Pt G (Me (.bool true) (Gx (Gx (Gx (Pt G (Me (.bool true) (Gx (Gx (Gx ?_))))))))))))))))))))))
 refine Pt G (Me (.bool true) (Gx (Gx (Gx (Pt G (Ni (Ct G (Sr (Ca (works_spec _ (hG.ext E1) (Mod.cell E1 hX (fun h => h))) ?_)))))))))
 rintro _ wk48 ⟨rfl, ek48⟩
 have E2 := Mt E1 ek48
 refine Ae (.bool true) (Ni (WC.ret ?_))
 exact ⟨_, Ro G G, G, E2⟩
theorem input_big2 (I : Img) (sv wv iv0 : Value) (inp : List (BitVec 64)) (iv1 : Value) (more : List (BitVec 64)) (p : BitVec 8) (w : World) (hG : Glob w) (hX : HX w) (hs : Sl w sv 2 I.syms.length (symCells I.syms)) (hw : Sl w wv 1 I.words.length (wordCells I.words)) (hN : ∀ s ∈ I.syms, True ∧ s.2 ≤ 9223372036854775807) (hI : Sl w iv0 1 inp.length (inp.map I64)) (hIf : iv0 = .slice none 0 0 ∨ ∃ a c, iv0 = .slice (some a) inp.length c) (hI2 : Sl w iv1 1 more.length (more.map I64)) (d0 : ¬ (300 < I.words.length)) (d1 : 70 < I.syms.length) : Cx 3 #[.agg #[.int .i64 I.entry, sv, wv], iv0, iv1, U8 p] w (.bool true) := by
 refine Co func3 G G ?_
 refine Sr (WL.box (v := .agg #[.int .i64 I.entry, sv, wv]) G G ?_)
 intro b4 w4 n4
 have E1 : Ext w w4 := n4.ext
 refine Ae (.bool false) (Ni (Sq (Sr (Fa G fo25_2 (Le (n4.blk.cell (j := 2) G) (WL.lenSl (sz := 1) (m := I.words.length) (xs := wordCells I.words) el23 G (hw.ext' E1) G (Bo G G BinR.gtr (Me (.bool false) (Gr (Fa G fo25_1 (Gr (Le (n4.blk.cell (j := 1) G) (Gr (WL.lenSl (sz := 2) (m := I.syms.length) (xs := symCells I.syms) el22 G (hs.ext' E1) G (Gr (Bp G G BinR.gtr (Pf G (Me (.bool true) (Gx (Gx (Gx (Pt G ?_))))))))))))))))))))))
 refine Me (.bool true) (Gx (Gx (Gx (Pt G (Me (.bool true) (Gx (Gx (Gx (Pt G (Ni (Ct G (Sr (Ca (works_spec _ (hG.ext E1) (Mod.cell E1 hX (fun h => h))) ?_)))))))))))))
 rintro _ wk48 ⟨rfl, ek48⟩
 have E2 := Mt E1 ek48
 refine Ae (.bool true) (Ni (WC.ret ?_))
 exact ⟨_, Ro G G, G, E2⟩
theorem input_big3 (I : Img) (sv wv iv0 : Value) (inp : List (BitVec 64)) (iv1 : Value) (more : List (BitVec 64)) (p : BitVec 8) (w : World) (hG : Glob w) (hX : HX w) (hs : Sl w sv 2 I.syms.length (symCells I.syms)) (hw : Sl w wv 1 I.words.length (wordCells I.words)) (hN : ∀ s ∈ I.syms, True ∧ s.2 ≤ 9223372036854775807) (hI : Sl w iv0 1 inp.length (inp.map I64)) (hIf : iv0 = .slice none 0 0 ∨ ∃ a c, iv0 = .slice (some a) inp.length c) (hI2 : Sl w iv1 1 more.length (more.map I64)) (d0 : ¬ (300 < I.words.length)) (d1 : ¬ (70 < I.syms.length)) (d2 : 4096 < I.entry) : Cx 3 #[.agg #[.int .i64 I.entry, sv, wv], iv0, iv1, U8 p] w (.bool true) := by
 refine Co func3 G G ?_
 refine Sr (WL.box (v := .agg #[.int .i64 I.entry, sv, wv]) G G ?_)
 intro b4 w4 n4
 have E1 : Ext w w4 := n4.ext
 refine Ae (.bool false) (Ni (Sq (Sr (Fa G fo25_2 (Le (n4.blk.cell (j := 2) G) (WL.lenSl (sz := 1) (m := I.words.length) (xs := wordCells I.words) el23 G (hw.ext' E1) G (Bo G G BinR.gtr (Me (.bool false) (Gr (Fa G fo25_1 (Gr (Le (n4.blk.cell (j := 1) G) (Gr (WL.lenSl (sz := 2) (m := I.syms.length) (xs := symCells I.syms) el22 G (hs.ext' E1) G (Gr (Bo G G BinR.gtr (Pf G (Me (.bool false) (Gr (Fa G fo25_0 (Gr (Le (n4.blk.cell (j := 0) G) ?_))))))))))))))))))))))
 refine Gr (Bp G G BinR.gtr (Pf G (Me (.bool true) (Gx (Gx (Gx (Pt G (Me (.bool true) (Gx (Gx (Gx (Pt G (Ni (Ct G (Sr (Ca (works_spec _ (hG.ext E1) (Mod.cell E1 hX (fun h => h))) ?_))))))))))))))))
 rintro _ wk48 ⟨rfl, ek48⟩
 have E2 := Mt E1 ek48
 refine Ae (.bool true) (Ni (WC.ret ?_))
 exact ⟨_, Ro G G, G, E2⟩
theorem input_big4 (I : Img) (sv wv iv0 : Value) (inp : List (BitVec 64)) (iv1 : Value) (more : List (BitVec 64)) (p : BitVec 8) (w : World) (hG : Glob w) (hX : HX w) (hs : Sl w sv 2 I.syms.length (symCells I.syms)) (hw : Sl w wv 1 I.words.length (wordCells I.words)) (hN : ∀ s ∈ I.syms, True ∧ s.2 ≤ 9223372036854775807) (hI : Sl w iv0 1 inp.length (inp.map I64)) (hIf : iv0 = .slice none 0 0 ∨ ∃ a c, iv0 = .slice (some a) inp.length c) (hI2 : Sl w iv1 1 more.length (more.map I64)) (d0 : ¬ (300 < I.words.length)) (d1 : ¬ (70 < I.syms.length)) (d2 : ¬ (4096 < I.entry)) (d3 : 30 < inp.length) : Cx 3 #[.agg #[.int .i64 I.entry, sv, wv], iv0, iv1, U8 p] w (.bool true) := by
 refine Co func3 G G ?_
 refine Sr (WL.box (v := .agg #[.int .i64 I.entry, sv, wv]) G G ?_)
 intro b4 w4 n4
 have E1 : Ext w w4 := n4.ext
 refine Ae (.bool false) (Ni (Sq (Sr (Fa G fo25_2 (Le (n4.blk.cell (j := 2) G) (WL.lenSl (sz := 1) (m := I.words.length) (xs := wordCells I.words) el23 G (hw.ext' E1) G (Bo G G BinR.gtr (Me (.bool false) (Gr (Fa G fo25_1 (Gr (Le (n4.blk.cell (j := 1) G) (Gr (WL.lenSl (sz := 2) (m := I.syms.length) (xs := symCells I.syms) el22 G (hs.ext' E1) G (Gr (Bo G G BinR.gtr (Pf G (Me (.bool false) (Gr (Fa G fo25_0 (Gr (Le (n4.blk.cell (j := 0) G) ?_))))))))))))))))))))))
 refine Gr (Bo G G BinR.gtr (Pf G (Me (.bool false) (Gr (Me iv0 (Gr (WL.lenSl (sz := 1) (m := inp.length) (xs := inp.map I64) el26 G (hI.ext' E1) G (Gr (Bp G G BinR.gtr (Pf G (Me (.bool true) (Gx (Gx (Gx (Pt G (Ni (Ct G (Sr (Ca (works_spec _ (hG.ext E1) (Mod.cell E1 hX (fun h => h))) ?_)))))))))))))))))))
 rintro _ wk48 ⟨rfl, ek48⟩
 have E2 := Mt E1 ek48
 refine Ae (.bool true) (Ni (WC.ret ?_))
 exact ⟨_, Ro G G, G, E2⟩
theorem input_big5 (I : Img) (sv wv iv0 : Value) (inp : List (BitVec 64)) (iv1 : Value) (more : List (BitVec 64)) (p : BitVec 8) (w : World) (hG : Glob w) (hX : HX w) (hs : Sl w sv 2 I.syms.length (symCells I.syms)) (hw : Sl w wv 1 I.words.length (wordCells I.words)) (hN : ∀ s ∈ I.syms, True ∧ s.2 ≤ 9223372036854775807) (hI : Sl w iv0 1 inp.length (inp.map I64)) (hIf : iv0 = .slice none 0 0 ∨ ∃ a c, iv0 = .slice (some a) inp.length c) (hI2 : Sl w iv1 1 more.length (more.map I64)) (d0 : ¬ (300 < I.words.length)) (d1 : ¬ (70 < I.syms.length)) (d2 : ¬ (4096 < I.entry)) (d3 : ¬ (30 < inp.length)) (d4 : 30 < more.length) : Cx 3 #[.agg #[.int .i64 I.entry, sv, wv], iv0, iv1, U8 p] w (.bool true) := by
 refine Co func3 G G ?_
 refine Sr (WL.box (v := .agg #[.int .i64 I.entry, sv, wv]) G G ?_)
 intro b4 w4 n4
 have E1 : Ext w w4 := n4.ext
 refine Ae (.bool false) (Ni (Sq (Sr (Fa G fo25_2 (Le (n4.blk.cell (j := 2) G) (WL.lenSl (sz := 1) (m := I.words.length) (xs := wordCells I.words) el23 G (hw.ext' E1) G (Bo G G BinR.gtr (Me (.bool false) (Gr (Fa G fo25_1 (Gr (Le (n4.blk.cell (j := 1) G) (Gr (WL.lenSl (sz := 2) (m := I.syms.length) (xs := symCells I.syms) el22 G (hs.ext' E1) G (Gr (Bo G G BinR.gtr (Pf G (Me (.bool false) (Gr (Fa G fo25_0 (Gr (Le (n4.blk.cell (j := 0) G) ?_))))))))))))))))))))))
 refine Gr (Bo G G BinR.gtr (Pf G (Me (.bool false) (Gr (Me iv0 (Gr (WL.lenSl (sz := 1) (m := inp.length) (xs := inp.map I64) el26 G (hI.ext' E1) G (Gr (Bo G G BinR.gtr (Pf G (Me (.bool false) (Gr (Me iv1 (Gr (WL.lenSl (sz := 1) (m := more.length) (xs := more.map I64) el26 G (hI2.ext' E1) G (Gr (Bp G G BinR.gtr (Pf G (Ni (Ct G (Sr (Ca (works_spec _ (hG.ext E1) (Mod.cell E1 hX (fun h => h))) ?_))))))))))))))))))))))
 rintro _ wk48 ⟨rfl, ek48⟩
 have E2 := Mt E1 ek48
 refine Ae (.bool true) (Ni (WC.ret ?_))
 exact ⟨_, Ro G G, G, E2⟩
theorem input_no (I : Img) (sv wv iv0 : Value) (inp : List (BitVec 64)) (iv1 : Value) (more : List (BitVec 64)) (p : BitVec 8) (w : World) (hG : Glob w) (hX : HX w) (hs : Sl w sv 2 I.syms.length (symCells I.syms)) (hw : Sl w wv 1 I.words.length (wordCells I.words)) (hN : ∀ s ∈ I.syms, True ∧ s.2 ≤ 9223372036854775807) (hI : Sl w iv0 1 inp.length (inp.map I64)) (hIf : iv0 = .slice none 0 0 ∨ ∃ a c, iv0 = .slice (some a) inp.length c) (hI2 : Sl w iv1 1 more.length (more.map I64)) (c1 : I.words.length ≤ 300) (c2 : I.syms.length ≤ 70) (c3 : I.entry ≤ 4096) (c4 : inp.length ≤ 30) (c5 : more.length ≤ 30) (hr : rightB I = false) : Cx 3 #[.agg #[.int .i64 I.entry, sv, wv], iv0, iv1, U8 p] w (.bool true) := by
 have hR : Rep w sv wv I := ⟨hs, hw, by omega, by omega⟩
 refine Co func3 G G ?_
 refine Sr (WL.box (v := .agg #[.int .i64 I.entry, sv, wv]) G G ?_)
 intro b4 w4 n4
 have E1 : Ext w w4 := n4.ext
 refine Ae (.bool false) (Ni (Sq (Sr (Fa G fo25_2 (Le (n4.blk.cell (j := 2) G) (WL.lenSl (sz := 1) (m := I.words.length) (xs := wordCells I.words) el23 G (hw.ext' E1) G (Bo G G BinR.gtr (Me (.bool false) (Gr (Fa G fo25_1 (Gr (Le (n4.blk.cell (j := 1) G) (Gr (WL.lenSl (sz := 2) (m := I.syms.length) (xs := symCells I.syms) el22 G (hs.ext' E1) G (Gr (Bo G G BinR.gtr (Pf G (Me (.bool false) (Gr (Fa G fo25_0 (Gr (Le (n4.blk.cell (j := 0) G) ?_))))))))))))))))))))))
 refine Gr (Bo G G BinR.gtr (Pf G (Me (.bool false) (Gr (Me iv0 (Gr (WL.lenSl (sz := 1) (m := inp.length) (xs := inp.map I64) el26 G (hI.ext' E1) G (Gr (Bo G G BinR.gtr (Pf G (Me (.bool false) (Gr (Me iv1 (Gr (WL.lenSl (sz := 1) (m := more.length) (xs := more.map I64) el26 G (hI2.ext' E1) G (Gr (Bo G G BinR.gtr (Pf G (Ni (Cf G (WC.skip (Sr ?_))))))))))))))))))))))
 refine Se [.int .i64 I.entry, sv, wv] n4.blk (Me iv0 (Ca (new_no I sv wv iv0 inp _ (hR.ext E1) hN hr) ?_))
 rintro _ wna ⟨rfl, ena⟩
 have E2 := Mt E1 ena
 refine Me (.tuple #[.pointer none, IN 2]) (Et G G (Et G G (Ae (.pointer none) (Ae (IN 2) (Ni (Sr (Ae (.slice none 0 0) (Ni (Sr (Me (.slice none 0 0) (Me iv0 (WL.append (k := 0) (m := inp.length) (xs := []) (news := inp.map I64) ap26 G G G (Ux.Own.nil _ 1) ((hI.ext' E2).src y26 (ones_I64 _)) (by omega) (by omega) G ?_))))))))))))
 intro v57 w57 o57 m57 l57
 have e57 : Ext wna w57 := Mod.then (Mod.refl _ _) m57 (fun i hi e => by cases e)
 have o57b : Ux.Own w57 1 v57 inp.length (inp.map I64) := by simpa using o57
 have f57 : ∀ g, v57.ownBlock = some g → wna.heap.size ≤ g := fun g hg => by rcases l57 with h | ⟨g2, h, h2⟩; (rw [h] at hg; cases hg); (rw [h] at hg; cases hg; exact h2)
 refine Ae v57 (Ni (Sr (Me v57 (Me iv1 (WL.append (k := inp.length) (m := more.length) (xs := inp.map I64) (news := more.map I64) ap26 G G G o57b ((hI2.ext' (Mt E2 e57)).src y26 (ones_I64 _)) (by omega) (by omega) G ?_)))))
 intro v60 w60 o60 m60 l60
 have e60 : Ext wna w60 := Mod.then e57 m60 (fun i hi e => absurd (f57 i e) (Nat.not_le_of_lt hi))
 have o60b : Ux.Own w60 1 v60 (inp ++ more).length ((inp ++ more).map I64) := by simpa using o60
 have hIf60 := long_form o60b
 have E3 := Mt E2 e60
 refine Ae v60 (Ni (Sr ?_))
 have B4 := (n4.blk.ext ena).ext e60
 refine Se [.int .i64 I.entry, sv, wv] B4 (Me v60 (Ca (new_no I sv wv v60 (inp ++ more) _ (hR.ext E3) hN hr) ?_))
 rintro _ wnb ⟨rfl, enb⟩
 have E5 := Mt E3 enb
 refine Me (.tuple #[.pointer none, IN 2]) (Et G G (Et G G (Ae (.pointer none) (Ae (IN 2) (Ni (Sr ?_))))))
 have B6 := B4.ext enb
 refine Se [.int .i64 I.entry, sv, wv] B6 (Me iv0 (Ca (new_no I sv wv iv0 inp _ (hR.ext E5) hN hr) ?_))
 rintro _ wnc ⟨rfl, enc⟩
 have E7 := Mt E5 enc
 refine Me (.tuple #[.pointer none, IN 2]) (Et G G (Et G G (Ae (.pointer none) (Ae (IN 2) (Ni (Sq (Sr (Me (IN 2) (Me (IN 2) (Bf G G BinR.neq (bne_self_eq_false _) (Me (.bool false) (Gr (Me (IN 2) (Gr (Me (IN 2) (Gr (Bf G G BinR.neq (bne_self_eq_false _) (Pf G (Ni (Cf G (WC.skip (Sq ?_))))))))))))))))))))))
 refine Sr (Me (IN 2) (Bt G G BinR.neq G (Ni (Ct G (Sr (Ca (works_spec _ (hG.ext E7) (Mod.cell E7 hX (fun h => h))) ?_))))))
 rintro _ wk83 ⟨rfl, ek83⟩
 have E8 := Mt E7 ek83
 refine Ae (.bool true) (Ni (WC.ret ?_))
 exact ⟨_, Ro G G, G, E8⟩
set_option maxHeartbeats 1000000 in
theorem input_ok (I : Img) (sv wv iv0 : Value) (inp : List (BitVec 64)) (iv1 : Value) (more : List (BitVec 64)) (p : BitVec 8) (w : World) (hG : Glob w) (hX : HX w) (hs : Sl w sv 2 I.syms.length (symCells I.syms)) (hw : Sl w wv 1 I.words.length (wordCells I.words)) (hN : ∀ s ∈ I.syms, True ∧ s.2 ≤ 9223372036854775807) (hI : Sl w iv0 1 inp.length (inp.map I64)) (hIf : iv0 = .slice none 0 0 ∨ ∃ a c, iv0 = .slice (some a) inp.length c) (hI2 : Sl w iv1 1 more.length (more.map I64)) (c1 : I.words.length ≤ 300) (c2 : I.syms.length ≤ 70) (c3 : I.entry ≤ 4096) (c4 : inp.length ≤ 30) (c5 : more.length ≤ 30) (hr : rightB I = true) : Cx 3 #[.agg #[.int .i64 I.entry, sv, wv], iv0, iv1, U8 p] w (.bool true) := by
 have hR : Rep w sv wv I := ⟨hs, hw, by omega, by omega⟩
 obtain ⟨hr1, hr2, hr3⟩ := right_facts hr
 have hp := p.isLt
 obtain ⟨Mx, hMxe⟩ : ∃ M, M = (runN p.toNat (newM I inp)).2 := ⟨_, rfl⟩
 obtain ⟨n, hne⟩ : ∃ n, n = (runN p.toNat (newM I inp)).1 := ⟨_, rfl⟩
 obtain ⟨My, hMye⟩ : ∃ M, M = (runN p.toNat (newM I (inp ++ more))).2 := ⟨_, rfl⟩
 obtain ⟨ny, hnye⟩ : ∃ n, n = (runN p.toNat (newM I (inp ++ more))).1 := ⟨_, rfl⟩
 have hn : n ≤ p.toNat := by rw [hne]; exact (runN_keeps _ _).2.2
 have hny : ny ≤ p.toNat := by rw [hnye]; exact (runN_keeps _ _).2.2
 have hMx : Mx.events.length ≤ 300 := by rw [hMxe]; have h := (runN_keeps p.toNat (newM I inp)).2.1; have e : (newM I inp).events.length = 0 := rfl; omega
 have hMy : My.events.length ≤ 300 := by rw [hMye]; have h := (runN_keeps p.toNat (newM I (inp ++ more))).2.1; have e : (newM I (inp ++ more)).events.length = 0 := rfl; omega
 have hend : n < p.toNat → Mx.fin.isSome = true := by rw [hne, hMxe]; exact run_ended _ _
 have hst : I64 Mx.steps = IN n := by rw [hMxe, run_steps, ← hne]; exact steps_IN n (by omega)
 have hAB : rdN Mx.events ≤ inp.length → My.events = Mx.events := fun h => by rw [hMye, newM_in, runs_in more _ _ (by rw [← hMxe]; exact Nat.le_trans h (Nat.le_add_left _ _)), hMxe]; rfl
 refine Co func3 G G ?_
 refine Sr (WL.box (v := .agg #[.int .i64 I.entry, sv, wv]) G G ?_)
 intro b4 w4 n4
 have E1 : Ext w w4 := n4.ext
 refine Ae (.bool false) (Ni (Sq (Sr (Fa G fo25_2 (Le (n4.blk.cell (j := 2) G) (WL.lenSl (sz := 1) (m := I.words.length) (xs := wordCells I.words) el23 G (hw.ext' E1) G (Bo G G BinR.gtr (Me (.bool false) (Gr (Fa G fo25_1 (Gr (Le (n4.blk.cell (j := 1) G) (Gr (WL.lenSl (sz := 2) (m := I.syms.length) (xs := symCells I.syms) el22 G (hs.ext' E1) G (Gr (Bo G G BinR.gtr (Pf G (Me (.bool false) (Gr (Fa G fo25_0 (Gr (Le (n4.blk.cell (j := 0) G) ?_))))))))))))))))))))))
 refine Gr (Bo G G BinR.gtr (Pf G (Me (.bool false) (Gr (Me iv0 (Gr (WL.lenSl (sz := 1) (m := inp.length) (xs := inp.map I64) el26 G (hI.ext' E1) G (Gr (Bo G G BinR.gtr (Pf G (Me (.bool false) (Gr (Me iv1 (Gr (WL.lenSl (sz := 1) (m := more.length) (xs := more.map I64) el26 G (hI2.ext' E1) G (Gr (Bo G G BinR.gtr (Pf G (Ni (Cf G (WC.skip (Sr ?_))))))))))))))))))))))
 refine Se [.int .i64 I.entry, sv, wv] n4.blk (Me iv0 (Ca (new_ok I sv wv iv0 inp _ (hR.ext E1) hN (hG.ext E1) (glob_size (hG.ext E1)) (hI.ext' E1) hIf (by omega) hr) ?_))
 rintro _ wna ⟨Ta, ba, rfl, hMa, hTa, ena⟩
 have hFa : ∀ k, Ta k ≠ 0 → w.heap.size ≤ k := fun k h => Nat.le_trans (Mod.size E1) (hTa k h)
 have E2 := Mt E1 ena
 refine Me (.tuple #[ptr ba 0, IN 0]) (Et G G (Et G G (Ae (ptr ba 0) (Ae (IN 0) (Ni (Sr (Ae (.slice none 0 0) (Ni (Sr (Me (.slice none 0 0) (Me iv0 (WL.append (k := 0) (m := inp.length) (xs := []) (news := inp.map I64) ap26 G G G (Ux.Own.nil _ 1) ((hI.ext' E2).src y26 (ones_I64 _)) (by omega) (by omega) G ?_))))))))))))
 intro v57 w57 o57 m57 l57
 have e57 : Ext wna w57 := Mod.then (Mod.refl _ _) m57 (fun i hi e => by cases e)
 have o57b : Ux.Own w57 1 v57 inp.length (inp.map I64) := by simpa using o57
 have f57 : ∀ g, v57.ownBlock = some g → wna.heap.size ≤ g := fun g hg => by rcases l57 with h | ⟨g2, h, h2⟩; (rw [h] at hg; cases hg); (rw [h] at hg; cases hg; exact h2)
 refine Ae v57 (Ni (Sr (Me v57 (Me iv1 (WL.append (k := inp.length) (m := more.length) (xs := inp.map I64) (news := more.map I64) ap26 G G G o57b ((hI2.ext' (Mt E2 e57)).src y26 (ones_I64 _)) (by omega) (by omega) G ?_)))))
 intro v60 w60 o60 m60 l60
 have e60 : Ext wna w60 := Mod.then e57 m60 (fun i hi e => absurd (f57 i e) (Nat.not_le_of_lt hi))
 have o60b : Ux.Own w60 1 v60 (inp ++ more).length ((inp ++ more).map I64) := by simpa using o60
 have hIf60 := long_form o60b
 have E3 := Mt E2 e60
 have hQ4 := hMa.ext e60
 refine Ae v60 (Ni (Sr ?_))
 have B5 := (n4.blk.ext ena).ext e60
 refine Se [.int .i64 I.entry, sv, wv] B5 (Me v60 (Ca (new_ok I sv wv v60 (inp ++ more) _ (hR.ext E3) hN (hG.ext E3) (glob_size (hG.ext E3)) o60b.sl hIf60 (by rw [List.length_append]; omega) hr) ?_))
 rintro _ wnb ⟨Tb, bb, rfl, hMb, hTb, enb⟩
 have hFb : ∀ k, Tb k ≠ 0 → w.heap.size ≤ k := fun k h => Nat.le_trans (Mod.size E3) (hTb k h)
 have hS_a_b : Sep Ta Tb := Sep.new hQ4 hTb
 have E6 := Mt E3 enb
 have hQ7 := hQ4.ext enb
 refine Me (.tuple #[ptr bb 0, IN 0]) (Et G G (Et G G (Ae (ptr bb 0) (Ae (IN 0) (Ni (Sr ?_))))))
 have B8 := B5.ext enb
 refine Se [.int .i64 I.entry, sv, wv] B8 (Me iv0 (Ca (new_ok I sv wv iv0 inp _ (hR.ext E6) hN (hG.ext E6) (glob_size (hG.ext E6)) (hI.ext' E6) hIf (by omega) hr) ?_))
 rintro _ wnc ⟨Tc, bc, rfl, hMc, hTc, enc⟩
 have hFc : ∀ k, Tc k ≠ 0 → w.heap.size ≤ k := fun k h => Nat.le_trans (Mod.size E6) (hTc k h)
 have hS_a_c : Sep Ta Tc := Sep.new hQ7 hTc
 have hS_b_c : Sep Tb Tc := Sep.new hMb hTc
 have E9 := Mt E6 enc
 have hQ10 := hQ7.ext enc
 have hQ11 := hMb.ext enc
 refine Me (.tuple #[ptr bc 0, IN 0]) (Et G G (Et G G (Ae (ptr bc 0) (Ae (IN 0) (Ni (Sq (Sr (Me (IN 0) (Me (IN 0) (Bf G G BinR.neq (bne_self_eq_false _) (Me (.bool false) (Gr (Me (IN 0) (Gr (Me (IN 0) (Gr (Bf G G BinR.neq (bne_self_eq_false _) (Pf G (Ni (Cf G (WC.skip (Sq ?_))))))))))))))))))))))
 refine Sr (Me (IN 0) (Bf G G BinR.neq G (Ni (Cf G (WC.skip (Sr (Me (ptr ba 0) (Me (U8 p) (Cv G (ConvR.u8n y5 y3) (Ca (run_specN Ta ba (newM I inp) _ hQ10 p.toNat (by omega) (newM_code hr3) (hG.ext E9) (Mod.cell E9 hX (fun h => h)) (by show (0 : Nat) ≤ _; omega)) ?_))))))))))
 rintro v87 wR87 ⟨hv87, TR87, hMR87, mR87, hsR87⟩
 rw [← hMxe] at hMR87
 rw [← hne] at hv87
 obtain rfl : v87 = IN n := hv87
 have hFQ12 := floor_turn hFa hsR87 (Mod.size E9)
 have EMQ13 : Ext w wR87 := Mod.then E9 mR87 (fun i hi e => absurd (hFa i e) (Nat.not_le_of_lt hi))
 have hSQ14 : Sep TR87 Tb := Sep.turn hS_a_b hsR87 hQ11
 have hQ15 := MR.far hQ11 mR87 hS_a_b
 have hSQ16 : Sep TR87 Tc := Sep.turn hS_a_c hsR87 hMc
 have hQ17 := MR.far hMc mR87 hS_a_c
 refine Ae (IN n) (Ni (Sq (Sq ?_)))
 refine WC.cut (fun f' w_ => f' 0 = .agg #[.int .i64 I.entry, sv, wv] ∧ f' 1 = iv0 ∧ f' 2 = iv1 ∧ f' 3 = U8 p ∧ f' 4 = ptr b4 0 ∧ f' 8 = .bool false ∧ f' 9 = ptr ba 0 ∧ f' 10 = IN 0 ∧ f' 11 = v60 ∧ f' 12 = ptr bb 0 ∧ f' 13 = IN 0 ∧ f' 14 = ptr bc 0 ∧ f' 15 = IN 0 ∧ f' 16 = IN n ∧ f' 23 = ptr b4 2 ∧ f' 24 = wv ∧ f' 25 = IN I.words.length ∧ f' 26 = .bool false ∧ f' 27 = .bool false ∧ f' 28 = ptr b4 1 ∧ f' 29 = sv ∧ f' 30 = IN I.syms.length ∧ f' 31 = .bool false ∧ f' 32 = .bool false ∧ f' 33 = .bool false ∧ f' 34 = ptr b4 0 ∧ f' 35 = .int .i64 I.entry ∧ f' 36 = .bool false ∧ f' 37 = .bool false ∧ f' 38 = .bool false ∧ f' 39 = iv0 ∧ f' 40 = IN inp.length ∧ f' 41 = .bool false ∧ f' 42 = .bool false ∧ f' 43 = .bool false ∧ f' 44 = iv1 ∧ f' 45 = IN more.length ∧ f' 46 = .bool false ∧ f' 47 = .bool false ∧ f' 49 = .tuple #[ptr ba 0, IN 0] ∧ f' 50 = .agg #[.int .i64 I.entry, sv, wv] ∧ f' 51 = iv0 ∧ f' 52 = .tuple #[ptr ba 0, IN 0] ∧ f' 53 = ptr ba 0 ∧ f' 54 = IN 0 ∧ f' 55 = .slice none 0 0 ∧ f' 56 = iv0 ∧ f' 57 = v57 ∧ f' 58 = v57 ∧ f' 59 = iv1 ∧ f' 60 = v60 ∧ f' 61 = .tuple #[ptr bb 0, IN 0] ∧ f' 62 = .agg #[.int .i64 I.entry, sv, wv] ∧ f' 63 = v60 ∧ f' 64 = .tuple #[ptr bb 0, IN 0] ∧ f' 65 = ptr bb 0 ∧ f' 66 = IN 0 ∧ f' 67 = .tuple #[ptr bc 0, IN 0] ∧ f' 68 = .agg #[.int .i64 I.entry, sv, wv] ∧ f' 69 = iv0 ∧ f' 70 = .tuple #[ptr bc 0, IN 0] ∧ f' 71 = ptr bc 0 ∧ f' 72 = IN 0 ∧ f' 73 = IN 0 ∧ f' 74 = IN 0 ∧ f' 75 = .bool false ∧ f' 76 = .bool false ∧ f' 77 = IN 0 ∧ f' 78 = IN 0 ∧ f' 79 = .bool false ∧ f' 80 = .bool false ∧ f' 81 = IN 0 ∧ f' 82 = .bool false ∧ f' 84 = ptr ba 0 ∧ f' 85 = U8 p ∧ f' 86 = IN p.toNat ∧ f' 87 = IN n ∧ f' 108 = .bool false ∧ (MR TR87 w_ ba Mx) ∧ (MR Tb w_ bb (newM I (inp ++ more))) ∧ (MR Tc w_ bc (newM I inp)) ∧ Ext w w_) ?_ ?_
 ·refine Rg (Me (IN n) (Me (U8 p) (Cv G (ConvR.u8n y5 y3) (Bo G G BinR.gtr (Me (.bool false) (Gr (Me (ptr ba 0) (Gr (Ca (steps_spec TR87 ba Mx _ hMR87) ?_)))))))))
  rintro v94 wg94 ⟨hv94, eg94⟩
  obtain rfl : v94 = IN n := hv94.trans hst
  have E18 := Mt EMQ13 eg94
  have hQ19 := hMR87.ext eg94
  have hQ20 := hQ15.ext eg94
  have hQ21 := hQ17.ext eg94
  refine Gr (Me (IN n) (Gr (Bf G G BinR.neq (bne_self_eq_false _) (Pf G (Me (.bool false) (Gr (Me (IN n) (Gr (Me (U8 p) (Gr (Cv G (ConvR.u8n y5 y3) (Gr (Bn G G BinR.lss (Gr (Me (.bool (decide (((n : Nat) : Int) < ((p.toNat : Nat) : Int)))) ?_)))))))))))))))
  rcases Bool.eq_false_or_eq_true (decide (((n : Nat) : Int) < ((p.toNat : Nat) : Int))) with hg103 | hg103
  ·refine Gy hg103 (Me (ptr ba 0) (Gy hg103 (Ca (ended_spec TR87 ba Mx _ hQ19 ) ?_)))
   rintro _ wg105 ⟨rfl, eg105⟩
   have E22 := Mt E18 eg105
   have hQ23 := hQ19.ext eg105
   have hQ24 := hQ20.ext eg105
   have hQ25 := hQ21.ext eg105
   refine Gy hg103 (WL.un G G UnR.not (Gr (Qt hg103 G (Pf G (Ni ?_)))))
   have hcut : (!Mx.fin.isSome) = false := by first | rfl | (rw [hend (by have := of_decide_eq_true hg103; omega)]; rfl)
   exact ⟨G, G, G, G, G, G, G, G, G, G, G, G, G, G, G, G, G, G, G, G, G, G, G, G, G, G, G, G, G, G, G, G, G, G, G, G, G, G, G, G, G, G, G, G, G, G, G, G, G, G, G, G, G, G, G, G, G, G, G, G, G, G, G, G, G, G, G, G, G, G, G, G, G, G, G, G, G, G, congrArg Value.bool hcut, hQ23, hQ24, hQ25, E22⟩
  ·refine Gz hg103 (Gz hg103 (Gz hg103 (Gr (Qf hg103 G (Pf G (Ni ?_))))))
   have hcut : false = false := by first | rfl | (rw [hend (by have := of_decide_eq_true hg103; omega)]; rfl)
   exact ⟨G, G, G, G, G, G, G, G, G, G, G, G, G, G, G, G, G, G, G, G, G, G, G, G, G, G, G, G, G, G, G, G, G, G, G, G, G, G, G, G, G, G, G, G, G, G, G, G, G, G, G, G, G, G, G, G, G, G, G, G, G, G, G, G, G, G, G, G, G, G, G, G, G, G, G, G, G, G, congrArg Value.bool hcut, hQ19, hQ20, hQ21, E18⟩
 rintro fc14 wq ⟨hc14_0, hc14_1, hc14_2, hc14_3, hc14_4, hc14_8, hc14_9, hc14_10, hc14_11, hc14_12, hc14_13, hc14_14, hc14_15, hc14_16, hc14_23, hc14_24, hc14_25, hc14_26, hc14_27, hc14_28, hc14_29, hc14_30, hc14_31, hc14_32, hc14_33, hc14_34, hc14_35, hc14_36, hc14_37, hc14_38, hc14_39, hc14_40, hc14_41, hc14_42, hc14_43, hc14_44, hc14_45, hc14_46, hc14_47, hc14_49, hc14_50, hc14_51, hc14_52, hc14_53, hc14_54, hc14_55, hc14_56, hc14_57, hc14_58, hc14_59, hc14_60, hc14_61, hc14_62, hc14_63, hc14_64, hc14_65, hc14_66, hc14_67, hc14_68, hc14_69, hc14_70, hc14_71, hc14_72, hc14_73, hc14_74, hc14_75, hc14_76, hc14_77, hc14_78, hc14_79, hc14_80, hc14_81, hc14_82, hc14_84, hc14_85, hc14_86, hc14_87, hc14_108, hLa, hLb, hLc, hE⟩
 refine Cf hc14_108 (WC.skip (Sr (Ae (IN 0) (Ni (Sr (Mv (ptr ba 0) hc14_9 (Ca (events_spec TR87 ba Mx _ hLa (by omega)) ?_)))))))
 rintro v110 wv110 ⟨ho110, hf110, ev110⟩
 have E26 := Mt hE ev110
 have hQ27 := hLa.ext ev110
 have hQ28 := hLb.ext ev110
 have hQ29 := hLc.ext ev110
 have hfarB := FarV.of ho110 hf110 hLb
 have hfarC := FarV.of ho110 hf110 hLc
 refine Ae v110 (Ni (Sq (Sr (Ae (IN 0) (Ni (Bk ?_))))))
 refine WC.loop (fun k f w_ => ∃ i, (k + i = Mx.events.length) ∧ f 1 = iv0 ∧ f 3 = U8 p ∧ f 9 = ptr ba 0 ∧ f 12 = ptr bb 0 ∧ f 14 = ptr bc 0 ∧ f 16 = IN n ∧ f 17 = IN ((rdN (Mx.events.take i))) ∧ f 18 = v110 ∧ f 19 = IN i ∧ w_ = wv110) Mx.events.length ?_ ?_
 ·exact ⟨0, by omega, hc14_1, hc14_3, hc14_9, hc14_12, hc14_14, hc14_16, G, G, G, G⟩
 rintro k1 f1 _ ⟨i, hk, h1_1, h3_1, h9_1, h12_1, h14_1, h16_1, h17_1, h18_1, h19_1, rfl⟩
 refine Sq (Sr (Mv (IN i) h19_1 (Mv v110 h18_1 (WL.lenSl (sz := 2) (m := Mx.events.length) (xs := evV Mx.events) el34 G ho110.sl G (Bn G G BinR.lss (Ni ?_))))))
 refine WC.cond G (fun hc114 => ?_) (fun hc114 => ?_)
 ·have hi1 : i < Mx.events.length := by have := of_decide_eq_true hc114; omega
  obtain ⟨bl, ol, cl, el, hcl0⟩ := ho110.sl.at (by omega)
  refine WC.skip (Sq (Bk (Sr (Mv v110 h18_1 (Mv (IN i) h19_1 (WL.indexAddr (i := i) (b := bl) (o := ol) el34 sz38 (Eq.trans G el) G (by omega) G (Fa G fo38_0 (Lx G (hcl0 (i * 2) _ (evV_get Mx.events i hi1).1) (Bn (vy := U8 1#8) G G BinR.eqlU8 (Ni ?_))))))))))
  refine WC.cond G (fun hc122 => ?_) (fun hc122 => ?_)
  ·refine Rg (Mv (IN ((rdN (Mx.events.take i)))) h17_1 (Bn G G (BinR.addN (b := 1) (by have := rdN_le (Mx.events.take i); rw [List.length_take] at this; omega)) (Ae (IN ((rdN (Mx.events.take i) + 1))) (Ni (Rg (Mv (IN i) h19_1 (Bn G G (BinR.succN (by omega)) (Ae (IN (i + 1)) (Ni ?_)))))))))
   have hr17 : rdN (Mx.events.take (i + 1)) = (rdN (Mx.events.take i) + 1) := by rw [rdN_take _ _ hi1]; simp [hc122]
   exact ⟨k1 - 1, by omega, (i + 1), by omega, h1_1, h3_1, h9_1, h12_1, h14_1, h16_1, (by rw [hr17]; exact rfl), h18_1, G, G⟩
  ·refine WC.skip (Rg (Mv (IN i) h19_1 (Bn G G (BinR.succN (by omega)) (Ae (IN (i + 1)) (Ni ?_)))))
   have hr17 : rdN (Mx.events.take (i + 1)) = (rdN (Mx.events.take i)) := by rw [rdN_take _ _ hi1]; simp [hc122]
   exact ⟨k1 - 1, by omega, (i + 1), by omega, h1_1, h3_1, h9_1, h12_1, h14_1, h16_1, (by rw [hr17]; exact h17_1), h18_1, G, G⟩
 ·have hre : rdN (Mx.events.take i) = rdN Mx.events := by rw [List.take_of_length_le (by have := of_decide_eq_false hc114; omega)]
  refine WC.exit (Sq (Sr (Mv (ptr bc 0) h14_1 (Mv (U8 p) h3_1 (Cv G (ConvR.u8n y5 y3) (Ca (run_specN Tc bc (newM I inp) _ hQ29 p.toNat (by omega) (newM_code hr3) (hG.ext E26) (Mod.cell E26 hX (fun h => h)) (by show (0 : Nat) ≤ _; omega)) ?_))))))
  rintro v128 wR128 ⟨hv128, TR128, hMR128, mR128, hsR128⟩
  rw [← hMxe] at hMR128
  rw [← hne] at hv128
  obtain rfl : v128 = IN n := hv128
  have hFQ30 := floor_turn hFc hsR128 (Mod.size E26)
  have EMQ31 : Ext w wR128 := Mod.then E26 mR128 (fun i hi e => absurd (hFc i e) (Nat.not_le_of_lt hi))
  have hSQ32 : Sep TR128 TR87 := Sep.turn hSQ16.symm hsR128 hQ27
  have hQ33 := MR.far hQ27 mR128 hSQ16.symm
  have hSQ34 : Sep TR128 Tb := Sep.turn hS_b_c.symm hsR128 hQ28
  have hQ35 := MR.far hQ28 mR128 hS_b_c.symm
  have hS1 := Sl.farMod ho110.sl hfarC mR128
  have hfarB1 := hfarB.size mR128
  refine Mv (IN n) h16_1 (Bf G G BinR.neq (bne_self_eq_false _) (Me (.bool false) (Gr (Mv (ptr bb 0) h12_1 (Gr (Mv (U8 p) h3_1 (Gr (Cv G (ConvR.u8n y5 y3) (Gr (Ca (run_specN Tb bb (newM I (inp ++ more)) _ hQ35 p.toNat (by omega) (newM_code hr3) (hG.ext EMQ31) (Mod.cell EMQ31 hX (fun h => h)) (by show (0 : Nat) ≤ _; omega)) ?_))))))))))
  rintro v135 wR135 ⟨hv135, TR135, hMR135, mR135, hsR135⟩
  rw [← hMye] at hMR135
  rw [← hnye] at hv135
  obtain rfl : v135 = IN ny := hv135
  have hFQ36 := floor_turn hFb hsR135 (Mod.size EMQ31)
  have EMQ37 : Ext w wR135 := Mod.then EMQ31 mR135 (fun i hi e => absurd (hFb i e) (Nat.not_le_of_lt hi))
  have hSQ38 : Sep TR135 TR87 := Sep.turn hSQ14.symm hsR135 hQ33
  have hQ39 := MR.far hQ33 mR135 hSQ14.symm
  have hSQ40 : Sep TR135 TR128 := Sep.turn hSQ34.symm hsR135 hMR128
  have hQ41 := MR.far hMR128 mR135 hSQ34.symm
  have hS2 := Sl.farMod hS1 hfarB1 mR135
  refine Gr (Bo G G BinR.lss (Pf G (Ni (Cf G (WC.skip (Sr (Mv (ptr bb 0) h12_1 (Ca (events_spec TR135 bb My _ hMR135 (by omega)) ?_))))))))
  rintro v139 wv139 ⟨ho139, hf139, ev139⟩
  have E42 := Mt EMQ37 ev139
  have hQ43 := hQ39.ext ev139
  have hQ44 := hMR135.ext ev139
  have hQ45 := hQ41.ext ev139
  refine Mv (ptr bc 0) h14_1 (Ca (events_spec TR128 bc Mx _ hQ45 (by omega)) ?_)
  rintro v141 wv141 ⟨ho141, hf141, ev141⟩
  have E46 := Mt E42 ev141
  have hQ47 := hQ43.ext ev141
  have hQ48 := hQ44.ext ev141
  have hQ49 := hQ45.ext ev141
  refine Ae v139 (Ae v141 (Ni (Sq (Sq ?_))))
  refine WC.cut (fun f' w_ => f' 1 = iv0 ∧ f' 3 = U8 p ∧ f' 9 = ptr ba 0 ∧ f' 12 = ptr bb 0 ∧ f' 14 = ptr bc 0 ∧ f' 16 = IN n ∧ f' 17 = IN ((rdN (Mx.events.take i))) ∧ f' 18 = v110 ∧ f' 19 = IN i ∧ f' 20 = v139 ∧ f' 21 = v141 ∧ f' 111 = IN i ∧ f' 112 = v110 ∧ f' 113 = IN Mx.events.length ∧ f' 114 = .bool (decide (((i : Nat) : Int) < ((Mx.events.length : Nat) : Int))) ∧ f' 125 = ptr bc 0 ∧ f' 126 = U8 p ∧ f' 127 = IN p.toNat ∧ f' 128 = IN n ∧ f' 129 = IN n ∧ f' 130 = .bool false ∧ f' 131 = .bool false ∧ f' 132 = ptr bb 0 ∧ f' 133 = U8 p ∧ f' 134 = IN p.toNat ∧ f' 135 = IN ny ∧ f' 136 = .bool false ∧ f' 137 = .bool false ∧ f' 138 = ptr bb 0 ∧ f' 139 = v139 ∧ f' 140 = ptr bc 0 ∧ f' 141 = v141 ∧ f' 159 = .bool false ∧ wv141 = w_) ?_ ?_
  ·refine Rg (Me v141 (WL.lenSl (sz := 2) (m := Mx.events.length) (xs := evV Mx.events) el34 G ho141.sl G (Mv v110 h18_1 ?_)))
   have S50 := (hS2.ext' ev139).ext' ev141
   refine WL.lenSl (sz := 2) (m := Mx.events.length) (xs := evV Mx.events) el34 G S50 G (Bf G G BinR.neq (bne_self_eq_false _) (Me (.bool false) (Gr (Mv (IN ((rdN (Mx.events.take i)))) h17_1 (Gr (Mv iv0 h1_1 (Gr (WL.lenSl (sz := 1) (m := inp.length) (xs := inp.map I64) el26 G (hI.ext' E46) G (Gr (Bn G G BinR.leq (Gr (Me (.bool (decide ((((rdN (Mx.events.take i)) : Nat) : Int) ≤ ((inp.length : Nat) : Int)))) ?_))))))))))))
   rcases Bool.eq_false_or_eq_true (decide ((((rdN (Mx.events.take i)) : Nat) : Int) ≤ ((inp.length : Nat) : Int))) with hg152 | hg152
   ·refine Gy hg152 (Me v139 (Gy hg152 ?_))
    have S51 := ho139.sl.ext' ev141
    refine WL.lenSl (sz := 2) (m := My.events.length) (xs := evV My.events) el34 G S51 G (Gy hg152 (Mv v110 h18_1 (Gy hg152 (WL.lenSl (sz := 2) (m := Mx.events.length) (xs := evV Mx.events) el34 G S50 G (Gy hg152 (Bn G G BinR.neq (Gr (Qt hg152 G (Pf G (Ni ?_))))))))))
    have hcut : ((((My.events.length : Nat) : Int) != ((Mx.events.length : Nat) : Int))) = false := by first | rfl | (rw [hAB (by rw [← hre]; have := of_decide_eq_true hg152; omega)]; exact bne_self_eq_false _)
    exact ⟨G, h1_1, h3_1, h9_1, h12_1, h14_1, h16_1, h17_1, h18_1, h19_1, G, G, G, G, G, G, G, G, G, G, G, G, G, G, G, G, G, G, G, G, G, G, G, congrArg Value.bool hcut, G⟩
   ·refine Gz hg152 (Gz hg152 (Gz hg152 (Gz hg152 (Gz hg152 (Gr (Qf hg152 G (Pf G (Ni ?_))))))))
    have hcut : false = false := by first | rfl | (rw [hAB (by rw [← hre]; have := of_decide_eq_true hg152; omega)]; exact bne_self_eq_false _)
    exact ⟨G, h1_1, h3_1, h9_1, h12_1, h14_1, h16_1, h17_1, h18_1, h19_1, G, G, G, G, G, G, G, G, G, G, G, G, G, G, G, G, G, G, G, G, G, G, G, congrArg Value.bool hcut, G⟩
  rintro fc26 _ ⟨hc26_1, hc26_3, hc26_9, hc26_12, hc26_14, hc26_16, hc26_17, hc26_18, hc26_19, hc26_20, hc26_21, hc26_111, hc26_112, hc26_113, hc26_114, hc26_125, hc26_126, hc26_127, hc26_128, hc26_129, hc26_130, hc26_131, hc26_132, hc26_133, hc26_134, hc26_135, hc26_136, hc26_137, hc26_138, hc26_139, hc26_140, hc26_141, hc26_159, rfl⟩
  refine Cf hc26_159 (WC.skip (Sq (Sr (Ae (IN 0) (Ni (Bk ?_))))))
  refine WC.loop (fun k f w_ => ∃ j, (k + j = Mx.events.length) ∧ f 1 = iv0 ∧ f 9 = ptr ba 0 ∧ f 14 = ptr bc 0 ∧ f 17 = IN ((rdN (Mx.events.take i))) ∧ f 18 = v110 ∧ f 20 = v139 ∧ f 21 = v141 ∧ f 22 = IN j ∧ (MR TR87 w_ ba Mx) ∧ (MR TR128 w_ bc Mx) ∧ (Sl w_ v110 2 Mx.events.length (evV Mx.events)) ∧ (Sl w_ v141 2 Mx.events.length (evV Mx.events)) ∧ (Sl w_ v139 2 My.events.length (evV My.events)) ∧ (Ext w w_)) Mx.events.length ?_ ?_
  have S52 := (hS2.ext' ev139).ext' ev141
  have S53 := ho139.sl.ext' ev141
  ·exact ⟨0, by omega, hc26_1, hc26_9, hc26_14, hc26_17, hc26_18, hc26_20, hc26_21, G, hQ47, hQ49, S52, ho141.sl, S53, E46⟩
  rintro k2 f2 wr ⟨j, hk, h1_2, h9_2, h14_2, h17_2, h18_2, h20_2, h21_2, h22_2, hLa, hLc, hT1, hT2, hT3, hE⟩
  refine Sq (Sr (Mv (IN j) h22_2 (Mv v110 h18_2 (WL.lenSl (sz := 2) (m := Mx.events.length) (xs := evV Mx.events) el34 G hT1 G (Bn G G BinR.lss (Ni ?_))))))
  refine WC.cond G (fun hc163 => ?_) (fun hc163 => ?_)
  ·have hj1 : j < Mx.events.length := by have := of_decide_eq_true hc163; omega
   obtain ⟨bl, ol, cl, el, hcl⟩ := hT1.at (by omega)
   obtain ⟨bz, oz, cz, ez, hcz⟩ := hT2.at (by omega)
   have hSa := hT3
   refine WC.skip (Sq (Bk (Sq (WC.draw (fun w_ => Ext wr w_) 26 G mixed ?_))))
   intro wd_31 ed_31
   have R54 : Ext wr wd_31 := ed_31
   have R55 : Ext wr wd_31 := ed_31
   have E56 := Mt hE ed_31
   refine Tp 0 v141 G G (Mv v141 h21_2 Ok) R55 (Tp 1 (IN j) G G (Mv (IN j) h22_2 Ok) R55 (Tp 2 (ptr bz (oz + j * 2)) G G (WL.indexAddr (i := j) (b := bz) (o := oz) el34 sz38 (Eq.trans G ez) G (by omega) G Ok) R55 (Tk 3 (.agg #[U8 ((Mx.events[j]).1), I64 ((Mx.events[j]).2)]) G G (fun _ hS => WL.loadS [U8 ((Mx.events[j]).1), I64 ((Mx.events[j]).2)] G ag38 sz38 G (cells2 (hcz.ext hS) (evV_get Mx.events j hj1).1 (evV_get Mx.events j hj1).2) G Ok) R55 (Tp 4 v110 G G (Mv v110 h18_2 Ok) R55 (Tp 5 (IN j) G G (Mv (IN j) h22_2 Ok) R55 (Tp 6 (ptr bl (ol + j * 2)) G G (WL.indexAddr (i := j) (b := bl) (o := ol) el34 sz38 (Eq.trans G el) G (by omega) G Ok) R55 (Tk 7 (.agg #[U8 ((Mx.events[j]).1), I64 ((Mx.events[j]).2)]) G G (fun _ hS => WL.loadS [U8 ((Mx.events[j]).1), I64 ((Mx.events[j]).2)] G ag38 sz38 G (cells2 (hcl.ext hS) (evV_get Mx.events j hj1).1 (evV_get Mx.events j hj1).2) G Ok) R55 (Tp 8 (.bool false) G G (Bf G G (BinR.neqEv (by kernel_rfl) (by kernel_rfl)) (by simp) Ok) R55 (Tm 9 (.bool false) G G R55 (Tp 10 (IN ((rdN (Mx.events.take i)))) G G (Gr (Mv (IN ((rdN (Mx.events.take i)))) h17_2 Ok)) R55 (Tp 11 iv0 G G (Gr (Mv iv0 h1_2 Ok)) R55 (Tk 12 (IN inp.length) G G (fun wx hS => have E69 : Ext w wx := Mt hE hS; Gr (WL.lenSl (sz := 1) (m := inp.length) (xs := inp.map I64) el26 G (hI.ext' E69) G Ok)) R55 (Tp 13 (.bool (decide ((((rdN (Mx.events.take i)) : Nat) : Int) ≤ ((inp.length : Nat) : Int)))) G G (Gr (Bn G G BinR.leq Ok)) R55 (Tm 14 (.bool (decide ((((rdN (Mx.events.take i)) : Nat) : Int) ≤ ((inp.length : Nat) : Int)))) G G R55 ?_))))))))))))))
   rcases Bool.eq_false_or_eq_true (decide ((((rdN (Mx.events.take i)) : Nat) : Int) ≤ ((inp.length : Nat) : Int))) with hd31_180 | hd31_180
   ·have hev := hAB (by rw [← hre]; have := of_decide_eq_true hd31_180; omega)
    rw [hev] at hSa
    obtain ⟨bya, oya, cya, eya, hca⟩ := hSa.at (by omega)
    refine Tp 15 v139 G G (Gy hd31_180 (Mv v139 h20_2 Ok)) R55 (Tp 16 (IN j) G G (Gy hd31_180 (Mv (IN j) h22_2 Ok)) R55 (Tp 17 (ptr bya (oya + j * 2)) G G (Gy hd31_180 (WL.indexAddr (i := j) (b := bya) (o := oya) el34 sz38 (Eq.trans G eya) G (by omega) G Ok)) R55 (Tk 18 (.agg #[U8 ((Mx.events[j]).1), I64 ((Mx.events[j]).2)]) G G (fun _ hS => Gy hd31_180 (WL.loadS [U8 ((Mx.events[j]).1), I64 ((Mx.events[j]).2)] G ag38 sz38 G (cells2 (hca.ext hS) (evV_get Mx.events j hj1).1 (evV_get Mx.events j hj1).2) G Ok)) R55 (Tp 19 v110 G G (Gy hd31_180 (Mv v110 h18_2 Ok)) R55 (Tp 20 (IN j) G G (Gy hd31_180 (Mv (IN j) h22_2 Ok)) R55 (Tp 21 (ptr bl (ol + j * 2)) G G (Gy hd31_180 (WL.indexAddr (i := j) (b := bl) (o := ol) el34 sz38 (Eq.trans G el) G (by omega) G Ok)) R55 (Tk 22 (.agg #[U8 ((Mx.events[j]).1), I64 ((Mx.events[j]).2)]) G G (fun _ hS => Gy hd31_180 (WL.loadS [U8 ((Mx.events[j]).1), I64 ((Mx.events[j]).2)] G ag38 sz38 G (cells2 (hcl.ext hS) (evV_get Mx.events j hj1).1 (evV_get Mx.events j hj1).2) G Ok)) R55 (Tp 23 (.bool false) G G (Gy hd31_180 (Bf G G (BinR.neqEv (by kernel_rfl) (by kernel_rfl)) (by simp) Ok)) R55 (Tp 24 (.bool false) G G (Gr (Qt hd31_180 G Ok)) R55 (Tp 25 (.bool false) G G (Pf G Ok) R55 (WA.done (by kernel_rfl) (Cf G (WC.skip (Rg (Mv (IN j) h22_2 (Bn G G (BinR.succN (by omega)) (Ae (IN (j + 1)) (Ni ?_))))))))))))))))))
    have S83 := hT1.ext' ed_31
    have S84 := hT2.ext' ed_31
    have S85 := hT3.ext' ed_31
    exact ⟨k2 - 1, by omega, (j + 1), by omega, h1_2, h9_2, h14_2, h17_2, h18_2, h20_2, h21_2, G, hLa.ext R54, hLc.ext R54, S83, S84, S85, E56⟩
   ·refine To 15 (some false) G G G (Yb G G hd31_180) R55 (To 16 (some false) G G G (Yb G G hd31_180) R55 (To 17 (some false) G G G (Yb G G hd31_180) R55 (To 18 (some false) G G G (Yb G G hd31_180) R55 (To 19 (some false) G G G (Yb G G hd31_180) R55 (To 20 (some false) G G G (Yb G G hd31_180) R55 (To 21 (some false) G G G (Yb G G hd31_180) R55 (To 22 (some false) G G G (Yb G G hd31_180) R55 (To 23 (some false) G G G (Yb G G hd31_180) R55 (Tp 24 (.bool false) G G (Gr (Qf hd31_180 G Ok)) R55 (Tp 25 (.bool false) G G (Pf G Ok) R55 (WA.done (by kernel_rfl) (Cf G (WC.skip (Rg (Mv (IN j) h22_2 (Bn G G (BinR.succN (by omega)) (Ae (IN (j + 1)) (Ni ?_))))))))))))))))))
    have S88 := hT1.ext' ed_31
    have S89 := hT2.ext' ed_31
    have S90 := hT3.ext' ed_31
    exact ⟨k2 - 1, by omega, (j + 1), by omega, h1_2, h9_2, h14_2, h17_2, h18_2, h20_2, h21_2, G, hLa.ext R54, hLc.ext R54, S88, S89, S90, E56⟩
  ·refine WC.exit (Sr (Mv (ptr ba 0) h9_2 (Ca (pc_spec TR87 ba Mx _ hLa ) ?_)))
   rintro _ wg193 ⟨rfl, eg193⟩
   have E92 := Mt hE eg193
   have hQ93 := hLa.ext eg193
   have hQ94 := hLc.ext eg193
   refine Mv (ptr bc 0) h14_2 (Ca (pc_spec TR128 bc Mx _ hQ94 ) ?_)
   rintro _ wg195 ⟨rfl, eg195⟩
   have E96 := Mt E92 eg195
   have hQ97 := hQ93.ext eg195
   have hQ98 := hQ94.ext eg195
   refine Bt G G BinR.eqlU64 (beq_self_eq_true _) (Me (.bool true) (Gr (Ca (works_spec _ (hG.ext E96) (Mod.cell E96 hX (fun h => h))) ?_)))
   rintro _ wk198 ⟨rfl, ek198⟩
   have E100 := Mt E96 ek198
   refine Pt G (Ae (.bool true) (Ni (WC.ret ?_)))
   exact ⟨_, Ro G G, G, E100⟩
end Go.Proofs.S
end
section
set_option linter.unusedVariables false
namespace Go.Proofs.S
open Go Go.Ux Go.Ux.Mach Go.Proofs Go.Proofs.M Go.Ux.Image
theorem input_spec (I : Img) (sv wv iv0 : Value) (inp : List (BitVec 64)) (iv1 : Value) (more : List (BitVec 64)) (p : BitVec 8) (w : World) (hG : Glob w) (hX : w.cell? ⟨3, 0, none⟩ = some (.iface 206 (.agg #[.pointer (some ⟨6, 83, none⟩)]))) (hs : Sl w sv 2 I.syms.length (symCells I.syms)) (hw : Sl w wv 1 I.words.length (wordCells I.words)) (hN : ∀ s ∈ I.syms, True ∧ s.2 ≤ 9223372036854775807) (hI : Sl w iv0 1 inp.length (inp.map I64)) (hIf : iv0 = .slice none 0 0 ∨ ∃ a c, iv0 = .slice (some a) inp.length c) (hI2 : Sl w iv1 1 more.length (more.map I64)) : Cx 3 #[.agg #[.int .i64 I.entry, sv, wv], iv0, iv1, U8 p] w (.bool true) := by
 by_cases d0 : 300 < I.words.length
 ·exact input_big1 I sv wv iv0 inp iv1 more p w hG hX hs hw hN hI hIf hI2 d0
 by_cases d1 : 70 < I.syms.length
 ·exact input_big2 I sv wv iv0 inp iv1 more p w hG hX hs hw hN hI hIf hI2 d0 d1
 by_cases d2 : 4096 < I.entry
 ·exact input_big3 I sv wv iv0 inp iv1 more p w hG hX hs hw hN hI hIf hI2 d0 d1 d2
 by_cases d3 : 30 < inp.length
 ·exact input_big4 I sv wv iv0 inp iv1 more p w hG hX hs hw hN hI hIf hI2 d0 d1 d2 d3
 by_cases d4 : 30 < more.length
 ·exact input_big5 I sv wv iv0 inp iv1 more p w hG hX hs hw hN hI hIf hI2 d0 d1 d2 d3 d4
 cases hr : rightB I with
 | false => exact input_no I sv wv iv0 inp iv1 more p w hG hX hs hw hN hI hIf hI2 (by omega) (by omega) (by omega) (by omega) (by omega) hr
 | true => exact input_ok I sv wv iv0 inp iv1 more p w hG hX hs hw hN hI hIf hI2 (by omega) (by omega) (by omega) (by omega) (by omega) hr
end Go.Proofs.S
end
