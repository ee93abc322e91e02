/- Steps of the proof, packed by program: MiX7 MiX8 McT7 UxEv McT8 McL1 McK1 UxOr McO1 UxI32 McO2. -/
import Derived.Test.YtlabgjcjccdjfaaGreatDoorRows
import Derived.Test.YtlabgjcjccdjfaaGreatDoorMpackQ01
import Derived.Test.YtlabgjcjccdjfaaGreatDoorMpackQ02
import Derived.Test.YtlabgjcjccdjfaaGreatDoorMpackQ03
import Derived.Test.YtlabgjcjccdjfaaGreatDoorMpackQ07
set_option linter.unusedVariables false
set_option linter.unusedSimpArgs false
set_option linter.unnecessarySimpa false
set_option maxRecDepth 100000
section
set_option linter.unusedSimpArgs false
set_option linter.unusedVariables false
namespace Go.Proofs.R
open Go Go.Ux Go.Ux.Image Go.Proofs
open Tryz
theorem ca55 : callable prog 55 = true := by kernel_rfl
theorem ca56 : callable prog 56 = true := by kernel_rfl
theorem ca57 : callable prog 57 = true := by kernel_rfl
theorem ca58 : callable prog 58 = true := by kernel_rfl
theorem el131 : elemT prog 131 = some 27 := by kernel_rfl
theorem sz27 : sizeT prog 27 = some 1 := by kernel_rfl
theorem ca61 : callable prog 61 = true := by kernel_rfl
theorem contains_wrong (bn bl r bm : Nat) (sv wv : Value) (I : Img) (w : World) (hn : Blk w bn #[.map (some r)] 128) (hL : Blk w bl #[.int .i64 (-1)] 3) (hB : Blk w bm #[.int .i64 I.entry, sv, wv] 25) (hR : Rep w sv wv I) (hM : MapS w r []) (d1 : bn ≠ r) (d2 : bl ≠ r) (d3 : bm ≠ r) (d4 : bn ≠ bl) (d5 : bm ≠ bl) (ds : 0 < I.syms.length → ∀ g, sv.ownBlock = some g → g ≠ r ∧ g ≠ bl) (dw : 0 < I.words.length → ∀ g, wv.ownBlock = some g → g ≠ r ∧ g ≠ bl) (hN : ∀ s ∈ I.syms, True ∧ s.2 ≤ 9223372036854775807) : CallsR prog 59 #[sv, .func (.func 54) #[] #[ptr bn 0, ptr bl 0, ptr bm 0]] w (fun v w' => v = .bool (!right5 I) ∧ Mod (fun k => k = r ∨ k = bl) w w') := by
 refine Co func59 G G ?_
 refine Sr (Ae (.bool false) (Ni (Sr (Me sv (Me (.func (.func 54) #[] #[ptr bn 0, ptr bl 0, ptr bm 0]) (Ca (index_wrong bn bl r bm sv wv I _ hn hL hB hR hM d1 d2 d3 d4 d5 ds dw hN) ?_))))))
 rintro _ wd7 ⟨z7, rfl, hz7, md7⟩
 refine Bn G G BinR.geq (Ae (.bool (decide ((0 : Int) ≤ (z7 : Int)))) (Ni (WC.ret ?_)))
 exact ⟨_, Ro G G, congrArg Value.bool hz7, md7⟩
theorem right5_spec (bn bl r bm : Nat) (sv wv : Value) (I : Img) (w : World) (hn : Blk w bn #[.map (some r)] 128) (hL : Blk w bl #[.int .i64 (-1)] 3) (hB : Blk w bm #[.int .i64 I.entry, sv, wv] 25) (hR : Rep w sv wv I) (hM : MapS w r []) (d1 : bn ≠ r) (d2 : bl ≠ r) (d3 : bm ≠ r) (d4 : bn ≠ bl) (d5 : bm ≠ bl) (ds : 0 < I.syms.length → ∀ g, sv.ownBlock = some g → g ≠ r ∧ g ≠ bl) (dw : 0 < I.words.length → ∀ g, wv.ownBlock = some g → g ≠ r ∧ g ≠ bl) (hN : ∀ s ∈ I.syms, True ∧ s.2 ≤ 9223372036854775807) (bw : Nat) (hW : Blk w bw #[.func (.func 54) #[] #[ptr bn 0, ptr bl 0, ptr bm 0]] 129) : CallsR prog 58 #[ptr bm 0, ptr bw 0] w (fun v w' => v = .bool (right5 I) ∧ Mod (fun k => k = r ∨ k = bl) w w') := by
 refine Co func58 G G ?_
 refine Sr (Ae (.bool false) (Ni (Sr (Fa G fo25_1 (Le (hB.cell (j := 1) G) (Le (hW.cell (j := 0) G) (Ca (contains_wrong bn bl r bm sv wv I _ hn hL hB hR hM d1 d2 d3 d4 d5 ds dw hN) ?_)))))))
 rintro _ wd6 ⟨rfl, md6⟩
 refine WL.un G G UnR.not (Ae (.bool (!(!right5 I))) (Ni (WC.ret ?_)))
 exact ⟨_, Ro G G, congrArg Value.bool (Bool.not_not _), md6⟩
theorem not_spec (g : Nat) (cs : Array Value) (b : Bool) (R : World → Prop) (w : World) (hcal : callable prog g = true) (hcl : CallsR prog g cs.toList.toArray w (fun v w' => v = .bool b ∧ R w')) : CallsR prog 61 #[.func (.func g) #[] cs] w (fun v w' => v = .bool (!b) ∧ R w') := by
 refine Co func61 G G ?_
 refine Sr (Ae (.bool false) (Ni (Sr (Me (.func (.func g) #[] cs) (WL.callV (fs := #[]) (cs := cs) G hcal (by simp) G hcl ?_)))))
 rintro _ wd4 ⟨rfl, hR4⟩
 refine WL.un G G UnR.not (Ae (.bool (!b)) (Ni (WC.ret ?_)))
 exact ⟨_, Ro G G, G, hR4⟩
def mustV (bm bw : Nat) : List Value := [.func (.func 55) #[] #[ptr bm 0], .func (.func 56) #[] #[ptr bm 0], .func (.func 57) #[] #[ptr bm 0], .func (.func 58) #[] #[ptr bm 0, ptr bw 0]]
def rights (I : Img) : List Bool := [right2 I, right3 I, right4 I, right5 I]
theorem must_calls (bn bl r bm : Nat) (sv wv : Value) (I : Img) (w : World) (hn : Blk w bn #[.map (some r)] 128) (hL : Blk w bl #[.int .i64 (-1)] 3) (hB : Blk w bm #[.int .i64 I.entry, sv, wv] 25) (hR : Rep w sv wv I) (hM : MapS w r []) (d1 : bn ≠ r) (d2 : bl ≠ r) (d3 : bm ≠ r) (d4 : bn ≠ bl) (d5 : bm ≠ bl) (ds : 0 < I.syms.length → ∀ g, sv.ownBlock = some g → g ≠ r ∧ g ≠ bl) (dw : 0 < I.words.length → ∀ g, wv.ownBlock = some g → g ≠ r ∧ g ≠ bl) (hN : ∀ s ∈ I.syms, True ∧ s.2 ≤ 9223372036854775807) (bw : Nat) (hW : Blk w bw #[.func (.func 54) #[] #[ptr bn 0, ptr bl 0, ptr bm 0]] 129) (j : Nat) (hj : j < 4) : ∃ g cs, (mustV bm bw)[j]? = some (.func (.func g) #[] cs) ∧ callable prog g = true ∧
  CallsR prog g cs.toList.toArray w (fun v w' => v = .bool ((rights I).getD j true) ∧ (Mod (fun k => k = r ∨ k = bl) w w' ∧ (j < 3 → w' = w))) := by
 match j, hj with
 | 0, _ => exact ⟨55, #[ptr bm 0], rfl, ca55, (right2_spec bm sv wv I w hR hB).mono fun v w' ⟨h1, h2⟩ => ⟨h1, h2 ▸ Mod.refl _ _, fun _ => h2.symm⟩⟩
 | 1, _ => exact ⟨56, #[ptr bm 0], rfl, ca56, (right3_spec bm sv wv I w hR hB).mono fun v w' ⟨h1, h2⟩ => ⟨h1, h2 ▸ Mod.refl _ _, fun _ => h2.symm⟩⟩
 | 2, _ => exact ⟨57, #[ptr bm 0], rfl, ca57, (right4_spec bm sv wv I w hR hB).mono fun v w' ⟨h1, h2⟩ => ⟨h1, h2 ▸ Mod.refl _ _, fun _ => h2.symm⟩⟩
 | 3, _ => exact ⟨58, #[ptr bm 0, ptr bw 0], rfl, ca58, (right5_spec bn bl r bm sv wv I w hn hL hB hR hM d1 d2 d3 d4 d5 ds dw hN bw hW).mono fun v w' ⟨h1, h2⟩ => ⟨h1, h2, fun h => absurd h (by decide)⟩⟩
theorem rightB_all (I : Img) (h : ∀ i, i < 4 → (rights I).getD i true = true) : rightB I = true := by
 have h0 := h 0 (by decide); have h1 := h 1 (by decide); have h2 := h 2 (by decide); have h3 := h 3 (by decide)
 simp [rights] at h0 h1 h2 h3
 simp [rightB, h0, h1, h2, h3]
theorem rightB_no (I : Img) (j : Nat) (hj : j < 4) (h : (rights I).getD j true = false) : rightB I = false := by
 match j, hj with
 | 0, _ => simp [rights] at h; simp [rightB, h]
 | 1, _ => simp [rights] at h; simp [rightB, h]
 | 2, _ => simp [rights] at h; simp [rightB, h]
 | 3, _ => simp [rights] at h; simp [rightB, h]
theorem index_must (bn bl r bm : Nat) (sv wv : Value) (I : Img) (w : World) (hn : Blk w bn #[.map (some r)] 128) (hL : Blk w bl #[.int .i64 (-1)] 3) (hB : Blk w bm #[.int .i64 I.entry, sv, wv] 25) (hR : Rep w sv wv I) (hM : MapS w r []) (d1 : bn ≠ r) (d2 : bl ≠ r) (d3 : bm ≠ r) (d4 : bn ≠ bl) (d5 : bm ≠ bl) (ds : 0 < I.syms.length → ∀ g, sv.ownBlock = some g → g ≠ r ∧ g ≠ bl) (dw : 0 < I.words.length → ∀ g, wv.ownBlock = some g → g ≠ r ∧ g ≠ bl) (hN : ∀ s ∈ I.syms, True ∧ s.2 ≤ 9223372036854775807) (bw : Nat) (hW : Blk w bw #[.func (.func 54) #[] #[ptr bn 0, ptr bl 0, ptr bm 0]] 129) (bq : Nat) (hq : Blk w bq (mustV bm bw).toArray 27) : CallsR prog 90 #[Sv bq 4 4, .func (.func 61) #[] #[]] w (fun v w' => ∃ z : Int, v = .int .i64 z ∧ decide (0 ≤ z) = (!rightB I) ∧ Mod (fun k => k = r ∨ k = bl) w w') := by
 refine Co func90 G G ?_
 refine Sr (Ae (IN 0) (Ni (Sq (Sr (Me (Sv bq 4 4) (WL.lenS el131 G G (Me (IN 0) (Ni (Bk ?_)))))))))
 refine WC.loop (fun k f w_ => ∃ j, (k + j = 4) ∧ (∀ i, i < j → (rights I).getD i true = true) ∧ f 0 = Sv bq 4 4 ∧ f 1 = .func (.func 61) #[] #[] ∧ f 6 = Sv bq 4 4 ∧ f 7 = IN 4 ∧ f 8 = IN j ∧ (Mod (fun k => k = r ∨ k = bl) w w_) ∧ (j < 4 → w_ = w)) 4 ?_ ?_
 ·exact ⟨0, by omega, fun i hi => absurd hi (by omega), G, G, G, G, G, Mod.refl _ _, fun _ => G⟩
 rintro k f1 wr ⟨j, hk1, hall, h0_1, h1_1, h6_1, h7_1, h8_1, hE, hsame⟩
 refine Sr (Bn h8_1 h7_1 BinR.lss (Ni (Sq ?_)))
 refine WC.cond G (fun hc9 => ?_) (fun hc9 => ?_)
 ·have hj : j < 4 := by have := of_decide_eq_true hc9; omega
  obtain ⟨g, cs, hg, hcal, hcl0⟩ := must_calls bn bl r bm sv wv I w hn hL hB hR hM d1 d2 d3 d4 d5 ds dw hN bw hW j hj
  have hcl : CallsR prog g cs.toList.toArray wr (fun v w' => v = .bool ((rights I).getD j true) ∧ (Mod (fun k => k = r ∨ k = bl) w w' ∧ (j < 3 → w' = w))) := by rw [hsame hj]; exact hcl0
  have hcell : wr.cell? ⟨bq, j, none⟩ = some (.func (.func g) #[] cs) := by rw [hsame hj]; exact hq.cell (by simpa using hg)
  refine WC.skip (Sq (Bk (Sr (Mv (IN j) h8_1 (Ae (IN j) (Ni (Sr (Mv (.func (.func 61) #[] #[]) h1_1 (Mv (Sv bq 4 4) h0_1 (Me (IN j) (WL.indexAddr1 (i := j) (b := bq) (o := 0) el131 sz27 G G (by omega) G ?_)))))))))))
  rw [Nat.zero_add]
  refine Lx G hcell (WL.callV (fs := #[]) (cs := #[]) G ca61 G G (not_spec g cs ((rights I).getD j true) (fun w_ => Mod (fun k => k = r ∨ k = bl) w w_ ∧ (j < 3 → w_ = w)) _ hcal hcl) ?_)
  rintro _ wd ⟨rfl, md, sd⟩
  refine Ni ?_
  refine WC.cond G (fun hc16 => ?_) (fun hc16 => ?_)
  ·have hres : decide ((0 : Int) ≤ ((j : Nat) : Int)) = (!rightB I) := by rw [rightB_no I j hj (by simpa using hc16)]; simp
   have hEE := md
   refine Sr (Me (IN j) (Ae (IN j) (Ni (WC.ret ?_))))
   exact ⟨_, Ro G G, _, G, hres, hEE⟩
  ·have hok : (rights I).getD j true = true := by simpa using hc16
   refine WC.skip (Rg (Bn h8_1 G (BinR.succN (by omega)) (Me (IN (j + 1)) (Ni ?_))))
   exact ⟨k - 1, by omega, (j + 1), by omega, fun i hi => by by_cases e : i = j; (subst e; exact hok); exact hall i (by omega), h0_1, h1_1, h6_1, h7_1, G, md, fun h => sd (by omega)⟩
 ·have hj : 4 ≤ j := by have := of_decide_eq_false hc9; omega
  have hres : decide ((0 : Int) ≤ -1) = (!rightB I) := by rw [rightB_all I (fun i hi => hall i (by omega))]; rfl
  have hEE := hE
  refine WC.exit (Sr (Ae (.int .i64 (-1)) (Ni (WC.ret ?_))))
  exact ⟨_, Ro G G, _, G, hres, hEE⟩
theorem contains_must (bn bl r bm : Nat) (sv wv : Value) (I : Img) (w : World) (hn : Blk w bn #[.map (some r)] 128) (hL : Blk w bl #[.int .i64 (-1)] 3) (hB : Blk w bm #[.int .i64 I.entry, sv, wv] 25) (hR : Rep w sv wv I) (hM : MapS w r []) (d1 : bn ≠ r) (d2 : bl ≠ r) (d3 : bm ≠ r) (d4 : bn ≠ bl) (d5 : bm ≠ bl) (ds : 0 < I.syms.length → ∀ g, sv.ownBlock = some g → g ≠ r ∧ g ≠ bl) (dw : 0 < I.words.length → ∀ g, wv.ownBlock = some g → g ≠ r ∧ g ≠ bl) (hN : ∀ s ∈ I.syms, True ∧ s.2 ≤ 9223372036854775807) (bw : Nat) (hW : Blk w bw #[.func (.func 54) #[] #[ptr bn 0, ptr bl 0, ptr bm 0]] 129) (bq : Nat) (hq : Blk w bq (mustV bm bw).toArray 27) : CallsR prog 60 #[Sv bq 4 4, .func (.func 61) #[] #[]] w (fun v w' => v = .bool (!rightB I) ∧ Mod (fun k => k = r ∨ k = bl) w w') := by
 refine Co func60 G G ?_
 refine Sr (Ae (.bool false) (Ni (Sr (Me (Sv bq 4 4) (Me (.func (.func 61) #[] #[]) (Ca (index_must bn bl r bm sv wv I _ hn hL hB hR hM d1 d2 d3 d4 d5 ds dw hN bw hW bq hq) ?_))))))
 rintro _ wd7 ⟨z7, rfl, hz7, md7⟩
 refine Bn G G BinR.geq (Ae (.bool (decide ((0 : Int) ≤ (z7 : Int)))) (Ni (WC.ret ?_)))
 exact ⟨_, Ro G G, congrArg Value.bool hz7, md7⟩
end Go.Proofs.R
end
section
set_option linter.unusedSimpArgs false
set_option linter.unusedVariables false
namespace Go.Proofs.R
open Go Go.Ux Go.Ux.Image Go.Proofs
open Tryz
theorem zt128 : zeroT prog 128 = some #[.map none] := by kernel_rfl
theorem sz128 : sizeT prog 128 = some 1 := by kernel_rfl
theorem zt3 : zeroT prog 3 = some #[.int .i64 0] := by kernel_rfl
theorem zt129 : zeroT prog 129 = some #[.nilFunc] := by kernel_rfl
theorem sz129 : sizeT prog 129 = some 1 := by kernel_rfl
theorem bls30_13 (b1 b5 : Nat) : ∀ w : World, (Instr.buildSlice 131 4 #[(0, .func (.func 55) #[] #[ptr b1 0]), (1, .func (.func 56) #[] #[ptr b1 0]), (2, .func (.func 57) #[] #[ptr b1 0]), (3, .func (.func 58) #[] #[ptr b1 0, ptr b5 0])]).run prog w = .ok (Sv w.heap.size 4 4) (w.alloc (.cells #[.func (.func 55) #[] #[ptr b1 0], .func (.func 56) #[] #[ptr b1 0], .func (.func 57) #[] #[ptr b1 0], .func (.func 58) #[] #[ptr b1 0, ptr b5 0]] 27)) := fun _ => by kernel_rfl
theorem right_spec (sv wv : Value) (I : Img) (w : World) (hR : Rep w sv wv I) (hN : ∀ s ∈ I.syms, True ∧ s.2 ≤ 9223372036854775807) : Cx 30 #[.agg #[.int .i64 I.entry, sv, wv]] w (.bool (rightB I)) := by
 refine Co func30 G G ?_
 refine Sr (WL.box (v := .agg #[.int .i64 I.entry, sv, wv]) G G ?_)
 intro b1 w1 n1
 have E1 : Ext w w1 := n1.ext
 refine Ae (.bool false) (Ni (Sr (WL.makeMap G ?_)))
 intro r wm hM e7 hr
 have E2 := Mt E1 e7
 refine WL.allocStore (v := .map (some r)) zt128 G sz128 G G G G ?_
 intro b3 w3 n3
 have R3 : Ext wm w3 := n3.ext
 have E4 := Mt E2 n3.ext
 refine Ni (Sr (WL.allocStore (v := .int .i64 (-1)) zt3 G sz3 G G G G ?_))
 intro b4 w4 n4
 have R5 := Mt R3 n4.ext
 have E6 := Mt E4 n4.ext
 refine Ni (Sr (WL.makeFunc (vs := []) (us := [ptr b3 0, ptr b4 0, ptr b1 0]) G G G (WL.allocStore (v := .func (.func 54) #[] #[ptr b3 0, ptr b4 0, ptr b1 0]) zt129 G sz129 G G G G ?_)))
 intro b5 w5 n5
 have R7 := Mt R5 n5.ext
 have E8 := Mt E6 n5.ext
 refine Ni (Sr (WL.makeFunc (vs := []) (us := [ptr b1 0]) G G G (WL.makeFunc (vs := []) (us := [ptr b1 0]) G G G (WL.makeFunc (vs := []) (us := [ptr b1 0]) G G G (WL.makeFunc (vs := []) (us := [ptr b1 0, ptr b5 0]) G G G (WL.buildSlice (vs := [(0, .func (.func 55) #[] #[ptr b1 0]), (1, .func (.func 56) #[] #[ptr b1 0]), (2, .func (.func 57) #[] #[ptr b1 0]), (3, .func (.func 58) #[] #[ptr b1 0, ptr b5 0])]) G (bls30_13 b1 b5) G ?_))))))
 intro b13 w13 n13
 have R9 := Mt R7 n13.ext
 have E10 := Mt E8 n13.ext
 refine Ae (Sv b13 4 4) (Ni (Sr (Me (Sv b13 4 4) ?_)))
 have B11 := ((n3.blk.ext n4.ext).ext n5.ext).ext n13.ext
 have B12 := (n4.blk.ext n5.ext).ext n13.ext
 have B13 := ((((n1.blk.ext e7).ext n3.ext).ext n4.ext).ext n5.ext).ext n13.ext
 have B14 := n5.blk.ext n13.ext
 have hnum : b1 = w.heap.size ∧ r = w.heap.size + 1 ∧ w.heap.size + 2 ≤ b3 ∧ b4 = b3 + 1 := by have := n1.num; have := n1.size; have := hM.lt; have := n3.num; have := n3.size; have := n4.num; omega
 have hMc := hM.ext R9
 have hRc := hR.ext E10
 refine Ca (contains_must b3 b4 r b1 sv wv I _ B11 B12 B13 hRc hMc (by omega) (by omega) (by omega) (by omega) (by omega) (fun h0 g hg => by have := hR.s.lt h0 (by decide) hg; omega) (fun h0 g hg => by have := hR.w.lt h0 (by decide) hg; omega) hN b5 B14 b13 n13.blk) ?_
 rintro _ wd ⟨rfl, md⟩
 have hEE := E10.then md (O := fun _ => False) (fun i hi e => by omega)
 refine WL.un G G UnR.not (Ae (.bool (!(!rightB I))) (Ni (WC.ret ?_)))
 exact ⟨_, Ro G G, congrArg Value.bool (Bool.not_not _), hEE⟩
end Go.Proofs.R
end
section
set_option linter.unusedSimpArgs false
set_option linter.unusedVariables false
namespace Go.Proofs.S
open Go Go.Ux Go.Ux.Mach Go.Proofs
open Tryz
theorem ag25 : isAggT prog 25 = some true := by kernel_rfl
theorem sz25 : sizeT prog 25 = some 3 := by kernel_rfl
theorem bld10_16 (a : Option Addr) (n c : Nat) : ∀ w : World, (Instr.build 85 #[(2, .slice a n c), (4, U64 65536#64)]).run prog w = .ok (.agg #[.slice none 0 0, .slice none 0 0, .slice a n c, Z8, Z8, Z8, Z8, Z8, Z8, Z8, Z8, Z8, Z8, Z8, Z8, Z8, Z8, Z8, Z8, Z8, Z8, Z8, Z8, Z8, Z8, Z8, Z8, Z8, Z8, Z8, Z8, Z8, Z8, Z8, Z8, U64 65536#64, .slice none 0 0, .nilIface, IN 0]) w := fun _ => by kernel_rfl
theorem fo25_2 : fieldOff prog 25 2 = some 2 := by kernel_rfl
theorem el23 : elemT prog 23 = some 50 := by kernel_rfl
theorem bld10_43 (p q r s : BitVec 8) (x : BitVec 64) (k : Bool) : ∀ w : World, (Instr.build 89 #[(0, .agg #[U8 p, U8 q, U8 r, U8 s, I64 x]), (1, .bool k)]).run prog w = .ok (.agg #[U8 p, U8 q, U8 r, U8 s, I64 x, .bool k]) w := fun _ => by kernel_rfl
theorem bls10_44 (p q r s : BitVec 8) (x : BitVec 64) (k : Bool) : ∀ w : World, (Instr.buildSlice 81 1 #[(0, .agg #[U8 p, U8 q, U8 r, U8 s, I64 x, .bool k])]).run prog w = .ok (Sv w.heap.size 1 1) (w.alloc (.cells #[U8 p, U8 q, U8 r, U8 s, I64 x, .bool k] 89)) := fun _ => by kernel_rfl
theorem ap81 : appT prog 81 = some (89, 6, 24, #[Z1, Z1, Z1, Z1, .int .i64 0, .bool false]) := by kernel_rfl
theorem sz81 : sizeT prog 81 = some 1 := by kernel_rfl
theorem fo25_0 : fieldOff prog 25 0 = some 0 := by kernel_rfl
theorem ap45 : appT prog 45 = some (5, 1, 1, #[Z1]) := by kernel_rfl
theorem bld10_53 (b n : Nat) : ∀ w : World, (Instr.build 91 #[(0, U64 4194304#64), (1, Sv b n n)]).run prog w = .ok (.agg #[U64 4194304#64, Sv b n n]) w := fun _ => by kernel_rfl
theorem bld10_55 (b n : Nat) : ∀ w : World, (Instr.build 91 #[(0, U64 8323072#64), (1, Sv b n n)]).run prog w = .ok (.agg #[U64 8323072#64, Sv b n n]) w := fun _ => by kernel_rfl
theorem bls10_56 (a b n m : Nat) : ∀ w : World, (Instr.buildSlice 80 2 #[(0, .agg #[U64 4194304#64, Sv a n n]), (1, .agg #[U64 8323072#64, Sv b m m])]).run prog w = .ok (Sv w.heap.size 2 2) (w.alloc (.cells #[U64 4194304#64, Sv a n n, U64 8323072#64, Sv b m m] 91)) := fun _ => by kernel_rfl
theorem sz80 : sizeT prog 80 = some 1 := by kernel_rfl
open Go.Proofs.M (instV Glob findRow decodeAt decode_no decode_ok)
open Go.Ux.Image
def decI (x : BitVec 32) : RvInst := match findRow x tableD with
 | some i => decodeAt i x
 | none => ⟨0, 0, 0, 0, 0⟩
def decE (x : BitVec 32) : Nat := match findRow x tableD with
 | some _ => 0
 | none => 100
theorem decode_spec (x : BitVec 32) (w : World) (hG : Glob w) : Cx 32 #[U32 x] w (.tuple #[instV (decI x), IN (decE x)]) := by
 unfold decI decE
 rcases h : findRow x tableD with _ | i
 ·exact decode_no x w hG h
 ·exact decode_ok x w hG i h
def decW (x : BitVec 32) : RvInst × Bool := (decI x, (((decE x : Nat) : Int) == (0 : Int)) && ((decI x).op != 65#8))
theorem decW_T {x : BitVec 32} (h : (((decE x : Nat) : Int) == (0 : Int)) = true) : (decW x).2 = ((decI x).op != 65#8) := by unfold decW; rw [h]; rfl
theorem decW_F {x : BitVec 32} (h : (((decE x : Nat) : Int) == (0 : Int)) = false) : (decW x).2 = false := by unfold decW; rw [h]; rfl
theorem codeV_take (l : List (BitVec 32)) (i : Nat) (h : i < l.length) : codeV ((l.take (i + 1)).map decW) = codeV ((l.take i).map decW) ++ [U8 (decI l[i]).op, U8 (decI l[i]).rd, U8 (decI l[i]).rs1, U8 (decI l[i]).rs2, I64 (decI l[i]).imm, .bool (decW l[i]).2] := by
 rw [List.take_succ_eq_append_getElem h, List.map_append]
 exact codeV_snoc _ _
def newM (I : Img) (inp : List (BitVec 64)) : MS := { n := I.entry.toNat, d := fun _ => 0#8, s := fun _ => 0#8, code := I.words.map decW, input := inp, x := fun i => if i = 2 then 8388608#64 else 0#64, pc := 65536#64, events := [], fin := none, steps := 0#64 }
theorem word_get (l : List (BitVec 32)) (i : Nat) (h : i < l.length) : (wordCells l)[i]? = some (U32 l[i]) := by simp [wordCells, h]
theorem right_facts {I : Img} (h : rightB I = true) : 0 ≤ I.entry ∧ I.entry ≤ 524288 ∧ I.words.length ≤ 262144 := by
 simp only [rightB, right2, right3, Bool.and_eq_true, decide_eq_true_eq] at h
 exact ⟨h.1.1.1.1.1, h.1.1.1.1.2, h.1.1.2.2⟩
theorem ones_I64 (l : List (BitVec 64)) : ∀ u ∈ l.map I64, u.oneCell' = true := by
 intro u hu; obtain ⟨x, _, rfl⟩ := List.mem_map.1 hu; rfl
theorem new_no (I : Img) (sv wv iv0 : Value) (inp : List (BitVec 64)) (w : World) (hR : Rep w sv wv I) (hN : ∀ s ∈ I.syms, True ∧ s.2 ≤ 9223372036854775807) (hr : rightB I = false) : Cx 10 #[.agg #[.int .i64 I.entry, sv, wv], iv0] w (.tuple #[.pointer none, IN 2]) := by
 refine Co func10 G G ?_
 refine Sr (WL.box (v := .agg #[.int .i64 I.entry, sv, wv]) G G ?_)
 intro b2 w2 n2
 have E1 : Ext w w2 := n2.ext
 refine Ae (.pointer none) (Ae (IN 0) (Ni (Sq (Sr (Se [.int .i64 I.entry, sv, wv] n2.blk (Ca (Go.Proofs.R.right_spec sv wv I _ (hR.ext E1) hN) ?_))))))
 rintro _ wri ⟨rfl, eri⟩
 rw [hr]
 have E2 := Mt E1 eri
 refine WL.un G G UnR.not (Ni (Ct G (Sr (Ae (.pointer none) (Ae (IN 2) (Ni (WC.ret ?_)))))))
 exact ⟨_, Rp G G G, G, E2⟩
theorem locB {w : World} {v v' : Value} {b n : Nat} (h : LocV w v v') (hB : ∀ g, v.ownBlock = some g → b < g ∧ g < n) (hb : b < w.heap.size) : ∀ g, v'.ownBlock = some g → b < g := fun g hg => by
 rcases h with h | ⟨g', h, hg'⟩
 ·rw [h] at hg; exact (hB g hg).1
 ·rw [h] at hg; cases hg; omega
theorem new_mr {w' : World} {b17 b56 b52 b54 n0 : Nat} {cvv iv : Value} {I : Img} {inp : List (BitVec 64)}
  (hb : Blk w' b17 (machCells (Sv b56 2 2) cvv iv (newM I inp).x 65536#64 (.slice none 0 0) .nilIface 0#64) 85)
  (hm : Blk w' b56 #[U64 4194304#64, Sv b52 I.entry.toNat I.entry.toNat, U64 8323072#64, Sv b54 65536 65536] 91)
  (hd : Ux.Own w' 1 (Sv b52 I.entry.toNat I.entry.toNat) I.entry.toNat (List.replicate I.entry.toNat Z1)) (hs : Ux.Own w' 1 (Sv b54 65536 65536) 65536 (List.replicate 65536 Z1))
  (hc : Ux.Own w' 6 cvv I.words.length (codeV (I.words.map decW))) (hi : Ux.Own w' 1 iv inp.length (inp.map I64))
  (k1 : ∀ g, iv.ownBlock = some g → g < b17) (k2 : ∀ g, cvv.ownBlock = some g → b17 < g) (k2a : ∀ g, cvv.ownBlock = some g → g < b52) (k2b : ∀ g, cvv.ownBlock = some g → g < b54) (k3 : b17 < b52) (k4 : b17 < b54) (k5 : b52 ≠ b54) (k6 : b52 < b56 ∧ b54 < b56)
  (h0 : n0 ≤ b17) (hiF : From n0 iv) (h6 : 6 ≤ n0) (hmle : I.entry.toNat ≤ 524288) : ∃ T, MR T w' b17 (newM I inp) ∧ ∀ k, T k ≠ 0 → n0 ≤ k := by
 have hlb := hb.lt
 have hlm := hm.lt
 have hcl : (newM I inp).code.length = I.words.length := by simp [newM]
 have sd : ∀ g, (Value.slice (some ⟨b52, 0, none⟩) I.entry.toNat I.entry.toNat).ownBlock = some g → g = b52 := fun g e => (Option.some.inj e).symm
 have ss : ∀ g, (Value.slice (some ⟨b54, 0, none⟩) 65536 65536).ownBlock = some g → g = b54 := fun g e => (Option.some.inj e).symm
 refine ⟨fun k => if k = b17 then 1 else if k = b56 then 2 else if k = b52 then 3 else if k = b54 then 4 else if cvv.ownBlock = some k then 5 else if iv.ownBlock = some k then 6 else 0, ⟨b56, _, _, cvv, iv, _, _, hb, hm, ?_, ?_, ?_, hi.sl, Ux.Own.nil _ _, G, ?_, ?_, ?_, ?_, ?_, ?_, ?_, ?_, ?_, ?_⟩, ?_⟩
 ·have := bsV_zero I.entry.toNat; rw [this] at hd; exact hd
 ·have := bsV_zero 65536; rw [this] at hs; exact hs
 ·rw [hcl]; exact hc.sl
 ·exact if_pos G
 ·exact (if_neg (by omega)).trans (if_pos G)
 ·intro g e; have := sd g e; subst this; exact (if_neg (by omega)).trans ((if_neg (by omega)).trans (if_pos rfl))
 ·intro g e; have := ss g e; subst this; exact (if_neg (by omega)).trans ((if_neg (by omega)).trans ((if_neg (by omega)).trans (if_pos rfl)))
 ·intro g e; have h1 := k2 g e; have h2 := k2a g e; have h3 := k2b g e; exact (if_neg (by omega)).trans ((if_neg (by omega)).trans ((if_neg (by omega)).trans ((if_neg (by omega)).trans (if_pos e))))
 ·intro g e
  have h1 := k1 g e
  have hne : ¬ cvv.ownBlock = some g := fun e' => by have := k2 g e'; omega
  exact (if_neg (by omega)).trans ((if_neg (by omega)).trans ((if_neg (by omega)).trans ((if_neg (by omega)).trans ((if_neg hne).trans (if_pos e)))))
 ·intro g e; cases e
 ·intro g e; cases e
 ·intro k hk
  try dsimp only at hk
  split at hk; · omega
  split at hk; · omega
  split at hk; · omega
  split at hk; · omega
  split at hk
  ·rename_i e; have := k2 k e; have := k2a k e; omega
  split at hk
  ·rename_i e; have := k1 k e; have := hiF k e; omega
  ·exact absurd G hk
 ·show I.entry.toNat ≤ 140737488355328; omega
 ·intro k hk
  try dsimp only at hk
  split at hk; · omega
  split at hk; · omega
  split at hk; · omega
  split at hk; · omega
  split at hk
  ·rename_i e; have := k2 k e; omega
  split at hk
  ·rename_i e; exact hiF k e
  ·exact absurd G hk
set_option maxHeartbeats 1000000 in
theorem new_ok (I : Img) (sv wv iv0 : Value) (inp : List (BitVec 64)) (w : World) (hR : Rep w sv wv I) (hN : ∀ s ∈ I.syms, True ∧ s.2 ≤ 9223372036854775807) (hG : Glob w) (h6 : 6 ≤ w.heap.size) (hI : Sl w iv0 1 inp.length (inp.map I64)) (hIf : iv0 = .slice none 0 0 ∨ ∃ a c, iv0 = .slice (some a) inp.length c) (hIl : inp.length ≤ 8796093022208) (hr : rightB I = true) : CallsR prog 10 #[.agg #[.int .i64 I.entry, sv, wv], iv0] w (fun v w' => ∃ T b, v = .tuple #[ptr b 0, IN 0] ∧ MR T w' b (newM I inp) ∧ (∀ k, T k ≠ 0 → w.heap.size ≤ k) ∧ Ext w w') := by
 obtain ⟨hr1, hr2, hr3⟩ := right_facts hr
 have hent : Value.int .i64 I.entry = IN I.entry.toNat := by show Value.int .i64 I.entry = Value.int .i64 ((I.entry.toNat : Nat) : Int); congr 1; omega
 refine Co func10 G G ?_
 refine Sr (WL.box (v := .agg #[.int .i64 I.entry, sv, wv]) G G ?_)
 intro b2 w2 n2
 have E1 : Ext w w2 := n2.ext
 refine Ae (.pointer none) (Ae (IN 0) (Ni (Sq (Sr (Se [.int .i64 I.entry, sv, wv] n2.blk (Ca (Go.Proofs.R.right_spec sv wv I _ (hR.ext E1) hN) ?_))))))
 rintro _ wri ⟨rfl, eri⟩
 rw [hr]
 have E2 := Mt E1 eri
 refine WL.un G G UnR.not (Ni (Cf G (WC.skip (Sr (Me iv0 (Ca (clone31 iv0 inp.length (inp.map I64) _ (hI.ext E2) hIf (ones_I64 _) hIl) ?_))))))
 rintro _ wcl ⟨hc1, hc2, hc4, ecl⟩
 obtain ⟨ia, il, ic, rfl⟩ := hc1.sl.slc
 have hivF : From w.heap.size (.slice ia il ic) := fun g hg => Nat.le_trans (Mod.size E2) (hc2 g hg)
 have E3 := Mt E2 ecl
 refine WL.build (v := .agg #[.slice none 0 0, .slice none 0 0, .slice ia il ic, Z8, Z8, Z8, Z8, Z8, Z8, Z8, Z8, Z8, Z8, Z8, Z8, Z8, Z8, Z8, Z8, Z8, Z8, Z8, Z8, Z8, Z8, Z8, Z8, Z8, Z8, Z8, Z8, Z8, Z8, Z8, Z8, U64 65536#64, .slice none 0 0, .nilIface, IN 0]) (vs := [(2, .slice ia il ic), (4, U64 65536#64)]) G (bld10_16 ia il ic) G ?_
 have B4 := (n2.blk.ext eri).ext ecl
 refine WL.box (v := .agg #[.slice none 0 0, .slice none 0 0, .slice ia il ic, Z8, Z8, Z8, Z8, Z8, Z8, Z8, Z8, Z8, Z8, Z8, Z8, Z8, Z8, Z8, Z8, Z8, Z8, Z8, Z8, Z8, Z8, Z8, Z8, Z8, Z8, Z8, Z8, Z8, Z8, Z8, Z8, U64 65536#64, .slice none 0 0, .nilIface, IN 0]) G G ?_
 intro b17 w17 n17
 have E5 := Mt E3 n17.ext
 have hbb : w.heap.size ≤ b17 := by have := n17.num; have := Mod.size E3; omega
 have hivb : ∀ g, (.slice ia il ic : Value).ownBlock = some g → g < b17 := fun g hg => by have := hc4 g hg; have := n17.num; omega
 have hb2 : b2 < b17 := by have := B4.lt; have := n17.num; omega
 refine Ae (ptr b17 0) (Ni (Sq (Sr (Fa G fo25_2 ?_))))
 have B6 := B4.ext n17.ext
 refine Le (B6.cell (j := 2) G) (WL.lenSl (sz := 1) (m := I.words.length) (xs := wordCells I.words) el23 G (hR.w.ext' E5) G (Me (IN 0) (Ni ?_)))
 have O7 := hc1.ext n17.ext
 have hIV0 := O7
 refine Bk ?_
 refine WC.loop (fun k f w_ => ∃ i cvv, (k + i = I.words.length) ∧ f 0 = .agg #[.int .i64 I.entry, sv, wv] ∧ f 1 = iv0 ∧ f 2 = ptr b2 0 ∧ f 6 = ptr b17 0 ∧ f 19 = wv ∧ f 20 = IN I.words.length ∧ f 21 = IN i ∧ (Ux.Own w_ 1 (.slice ia il ic) inp.length (inp.map I64)) ∧ (Ux.Own w_ 6 cvv i (codeV ((I.words.take i).map decW))) ∧ (∀ g, cvv.ownBlock = some g → b17 < g ∧ g < w_.heap.size) ∧ (Blk w_ b17 #[.slice none 0 0, cvv, .slice ia il ic, U64 0#64, U64 0#64, U64 0#64, U64 0#64, U64 0#64, U64 0#64, U64 0#64, U64 0#64, U64 0#64, U64 0#64, U64 0#64, U64 0#64, U64 0#64, U64 0#64, U64 0#64, U64 0#64, U64 0#64, U64 0#64, U64 0#64, U64 0#64, U64 0#64, U64 0#64, U64 0#64, U64 0#64, U64 0#64, U64 0#64, U64 0#64, U64 0#64, U64 0#64, U64 0#64, U64 0#64, U64 0#64, U64 65536#64, .slice none 0 0, .nilIface, .int .i64 0] 85) ∧ (Blk w_ b2 #[.int .i64 I.entry, sv, wv] 25) ∧ (Ext w w_)) I.words.length ?_ ?_
 ·exact ⟨0, (.slice none 0 0), by omega, G, G, G, G, G, G, G, hIV0, Ux.Own.nil _ _, (fun g hg => by cases hg), n17.blk, B6, E5⟩
 rintro ka f1 wr ⟨i, cvv, hk, h0_1, h1_1, h2_1, h6_1, h19_1, h20_1, h21_1, hIV, hO, hB, h17, h2, hE⟩
 refine Sr (Bn h21_1 h20_1 BinR.lss (Ni (Sq ?_)))
 refine WC.cond G (fun hc22 => ?_) (fun hc22 => ?_)
 ·have hi : i < I.words.length := by have := of_decide_eq_true hc22; omega
  refine WC.skip (Sq (Bk (Sr (WL.indexSl (sz := 1) (m := I.words.length) (xs := wordCells I.words) (i := i) el23 sz50 h19_1 h21_1 (by omega) (hR.w.ext' hE) G ?_))))
  intro b23 o23 hb23 hc23
  refine Lx G (by rw [Nat.mul_one]; exact hc23 i _ (word_get I.words i hi)) (Ae (U32 (I.words[i])) (Ni (Sr (Me (U32 (I.words[i])) (Ca (decode_spec I.words[i] _ (hG.ext hE)) ?_)))))
  rintro _ wde ⟨rfl, ede⟩
  have R8 : Ext wr wde := ede
  have E9 := Mt hE ede
  refine Me (.tuple #[instV (decI I.words[i]), IN (decE I.words[i])]) (Et G G (Et G G ?_))
  have B10 := h17.ext ede
  have B11 := h2.ext ede
  refine WL.allocStore (v := .agg #[U8 ((decI I.words[i]).op), U8 ((decI I.words[i]).rd), U8 ((decI I.words[i]).rs1), U8 ((decI I.words[i]).rs2), I64 ((decI I.words[i]).imm)]) zt48 G sz48 G G G G ?_
  intro b9 w9 n9
  have hl_b17_b9 : b17 < b9 := by have := B10.lt; have := n9.num; omega
  have hl_b2_b9 : b2 < b9 := by have := B11.lt; have := n9.num; omega
  have E13 := Mt E9 n9.ext
  refine Ae (IN ((decE I.words[i]))) (Ni ?_)
  have N9 : cvv.ownBlock ≠ some b9 := fun e => by have := (hB b9 e).2; have := n9.num; have := Mod.size R8; omega
  have hl9 : b17 < b9 := by have := n9.num; have := Mod.size R8; have := h17.lt; omega
  refine WC.drawL (fun w_ => Mod (At cvv) wr w_ ∧ Blk w_ b17 #[.slice none 0 0, cvv, .slice ia il ic, U64 0#64, U64 0#64, U64 0#64, U64 0#64, U64 0#64, U64 0#64, U64 0#64, U64 0#64, U64 0#64, U64 0#64, U64 0#64, U64 0#64, U64 0#64, U64 0#64, U64 0#64, U64 0#64, U64 0#64, U64 0#64, U64 0#64, U64 0#64, U64 0#64, U64 0#64, U64 0#64, U64 0#64, U64 0#64, U64 0#64, U64 0#64, U64 0#64, U64 0#64, U64 0#64, U64 0#64, U64 0#64, U64 65536#64, .slice none 0 0, .nilIface, .int .i64 0] 85 ∧ Blk w_ b9 #[U8 ((decI I.words[i]).op), U8 ((decI I.words[i]).rd), U8 ((decI I.words[i]).rs1), U8 ((decI I.words[i]).rs2), I64 ((decI I.words[i]).imm)] 48) 18 19 G mixed ?_
  intro wd_8 ed_8
  have E15 := Mt E13 ed_8
  have B16 := (B10.ext n9.ext).ext ed_8
  have B17 := n9.blk.ext ed_8
  refine Ti 0 (ptr b17 0) G G (Mv (ptr b17 0) h6_1 Ok) (⟨Mt (Mt (Mod.ext ede) (Mod.ext n9.ext)) (Mod.ext ed_8), B16, B17⟩) (Ti 1 (ptr b17 0) G G (Mv (ptr b17 0) h6_1 Ok) (⟨Mt (Mt (Mod.ext ede) (Mod.ext n9.ext)) (Mod.ext ed_8), B16, B17⟩) (Ti 2 (ptr b17 0) G G (WL.nilCheck G G Ok) (⟨Mt (Mt (Mod.ext ede) (Mod.ext n9.ext)) (Mod.ext ed_8), B16, B17⟩) (Ti 3 (ptr b17 1) G G (Fa G fo85_1 Ok) (⟨Mt (Mt (Mod.ext ede) (Mod.ext n9.ext)) (Mod.ext ed_8), B16, B17⟩) (Tl 4 cvv G G (fun _ hS => Le (hS.2.1.cell (j := 1) G) Ok) (⟨Mt (Mt (Mod.ext ede) (Mod.ext n9.ext)) (Mod.ext ed_8), B16, B17⟩) (Tl 5 (.agg #[U8 ((decI I.words[i]).op), U8 ((decI I.words[i]).rd), U8 ((decI I.words[i]).rs1), U8 ((decI I.words[i]).rs2), I64 ((decI I.words[i]).imm)]) G G (fun _ hS => Se _ hS.2.2 Ok) (⟨Mt (Mt (Mod.ext ede) (Mod.ext n9.ext)) (Mod.ext ed_8), B16, B17⟩) (Ti 6 (IN ((decE I.words[i]))) G G (Me _ Ok) (⟨Mt (Mt (Mod.ext ede) (Mod.ext n9.ext)) (Mod.ext ed_8), B16, B17⟩) (Ti 7 (.bool (((((decE I.words[i]) : Nat) : Int) == (0 : Int)))) G G (Bn G G BinR.eql Ok) (⟨Mt (Mt (Mod.ext ede) (Mod.ext n9.ext)) (Mod.ext ed_8), B16, B17⟩) (Ti 8 (.bool (((((decE I.words[i]) : Nat) : Int) == (0 : Int)))) G G (Me _ Ok) (⟨Mt (Mt (Mod.ext ede) (Mod.ext n9.ext)) (Mod.ext ed_8), B16, B17⟩) ?_))))))))
  rcases Bool.eq_false_or_eq_true (((((decE I.words[i]) : Nat) : Int) == (0 : Int))) with hd8_38 | hd8_38
  ·refine Ti 9 (ptr b9 0) G G (Gy hd8_38 (Fa G fo48_0 Ok)) (⟨Mt (Mt (Mod.ext ede) (Mod.ext n9.ext)) (Mod.ext ed_8), B16, B17⟩) (Tl 10 (U8 ((decI I.words[i]).op)) G G (fun _ hS => Gy hd8_38 (Le (hS.2.2.cell (j := 0) G) Ok)) (⟨Mt (Mt (Mod.ext ede) (Mod.ext n9.ext)) (Mod.ext ed_8), B16, B17⟩) (Ti 11 (.bool (((decI I.words[i]).op != 65#8))) G G (Gy hd8_38 (Bn (vy := U8 65#8) G G BinR.neqU8 Ok)) (⟨Mt (Mt (Mod.ext ede) (Mod.ext n9.ext)) (Mod.ext ed_8), B16, B17⟩) (Ti 12 (.bool (((decI I.words[i]).op != 65#8))) G G (Qt hd8_38 G Ok) (⟨Mt (Mt (Mod.ext ede) (Mod.ext n9.ext)) (Mod.ext ed_8), B16, B17⟩) (Ti 13 (.agg #[U8 ((decI I.words[i]).op), U8 ((decI I.words[i]).rd), U8 ((decI I.words[i]).rs1), U8 ((decI I.words[i]).rs2), I64 ((decI I.words[i]).imm), .bool (((decI I.words[i]).op != 65#8))]) G G (WL.build (v := .agg #[U8 ((decI I.words[i]).op), U8 ((decI I.words[i]).rd), U8 ((decI I.words[i]).rs1), U8 ((decI I.words[i]).rs2), I64 ((decI I.words[i]).imm), .bool (((decI I.words[i]).op != 65#8))]) (vs := [(0, .agg #[U8 ((decI I.words[i]).op), U8 ((decI I.words[i]).rd), U8 ((decI I.words[i]).rs1), U8 ((decI I.words[i]).rs2), I64 ((decI I.words[i]).imm)]), (1, .bool (((decI I.words[i]).op != 65#8)))]) G (bld10_43 (decI I.words[i]).op (decI I.words[i]).rd (decI I.words[i]).rs1 (decI I.words[i]).rs2 (decI I.words[i]).imm (((decI I.words[i]).op != 65#8))) G Ok) (⟨Mt (Mt (Mod.ext ede) (Mod.ext n9.ext)) (Mod.ext ed_8), B16, B17⟩) (WAL.one (i := 14) (m' := 32767) (by kernel_rfl) G G (WL.buildSlice (vs := [(0, .agg #[U8 ((decI I.words[i]).op), U8 ((decI I.words[i]).rd), U8 ((decI I.words[i]).rs1), U8 ((decI I.words[i]).rs2), I64 ((decI I.words[i]).imm), .bool (((decI I.words[i]).op != 65#8))])]) G (bls10_44 (decI I.words[i]).op (decI I.words[i]).rd (decI I.words[i]).rs1 (decI I.words[i]).rs2 (decI I.words[i]).imm (((decI I.words[i]).op != 65#8))) G ?_))))))
   intro b44 w44 n44
   have E19 := Mt E15 n44.ext
   have B20 := B16.ext n44.ext
   have B21 := B17.ext n44.ext
   refine WL.behindS (⟨Mt (Mt (Mt (Mod.ext ede) (Mod.ext n9.ext)) (Mod.ext ed_8)) (Mod.ext n44.ext), B20, B21⟩) (WAL.one (i := 15) (m' := 65535) (by kernel_rfl) G G ?_)
   have hl44 : b17 < w44.heap.size := B20.lt
   have O22 := (((hO.ext ede).ext n9.ext).ext ed_8).ext n44.ext
   refine WL.append (k := i) (m := 1) (xs := codeV ((I.words.take i).map decW)) (news := [U8 ((decI I.words[i]).op), U8 ((decI I.words[i]).rd), U8 ((decI I.words[i]).rs1), U8 ((decI I.words[i]).rs2), I64 ((decI I.words[i]).imm), .bool (((decI I.words[i]).op != 65#8))]) ap81 G G G O22 ((Sl.of1 n44.blk.cells G).src y81 (List.all_eq_true.1 G)) (by omega) (by omega) G ?_
   intro v45 w45 o45 m45 l45
   have F23 : From w.heap.size v45 := LocV.from l45 (Mod.size E19) ((fun g hg => by have := (hB g hg).1; omega))
   have N24 : v45.ownBlock ≠ some b17 := LocV.ne l45 B20.lt (fun e => by have := (hB b17 e).1; omega)
   have B26 := ((B11.ext n9.ext).ext ed_8).ext n44.ext
   have N25 : v45.ownBlock ≠ some b2 := LocV.ne l45 B26.lt (fun e => by have := (hB b2 e).1; omega)
   have N27 : v45.ownBlock ≠ some b9 := LocV.ne l45 B21.lt N9
   have E28 : Ext w w45 := Mod.from E19 m45 ((fun g hg => by have := (hB g hg).1; omega))
   have hB2 := locB l45 hB hl44
   have B29 := B20.mod m45 ((fun e => by have := (hB b17 e).1; omega))
   have B30 := B21.mod m45 N9
   refine WL.behindS (⟨Mt (Mt (Mt (Mt (Mod.ext ede) (Mod.ext n9.ext)) (Mod.ext ed_8)) (Mod.ext n44.ext)) m45, B29, B30⟩) (WAL.one (i := 16) (m' := 131071) (by kernel_rfl) G G (WL.nilCheck G G (WL.behindS (⟨Mt (Mt (Mt (Mt (Mod.ext ede) (Mod.ext n9.ext)) (Mod.ext ed_8)) (Mod.ext n44.ext)) m45, B29, B30⟩) (Ti 17 (ptr b17 1) G G (Fa G fo85_1 Ok) (⟨Mt (Mt (Mt (Mt (Mod.ext ede) (Mod.ext n9.ext)) (Mod.ext ed_8)) (Mod.ext n44.ext)) m45, B29, B30⟩) (WAL.one (i := 18) (m' := 524287) (by kernel_rfl) G G (WL.storeB (v := v45) G G o45.one sz81 B29 (Nat.le_of_ble_eq_true G) ?_))))))
   intro ws31 ms31 bs31 zs31
   have E31 : Ext w ws31 := Mod.then E28 ms31 (fun i hi (e : i = b17) => absurd hi (by omega))
   refine WL.behindL (by kernel_rfl) (WAL.done (by kernel_rfl) (Rg (Bn h21_1 G (BinR.succN (by omega)) (Me (IN (i + 1)) (Ni ?_)))))
   have O32 := (((((hIV.ext ede).ext n9.ext).ext ed_8).ext n44.ext).mod m45 ((fun g hg e => by have h1 := hivb g hg; have h2 := (hB g e).1; omega))).mod ms31 (fun g hg e => (fun e => by have := hivb b17 e; omega) (hg.trans (congrArg some e)))
   have hIVe := O32
   have O33 := o45.mod ms31 (fun g hg e => N24 (hg.trans (congrArg some e)))
   have hOe : Ux.Own ws31 6 v45 (i + 1) (codeV ((I.words.take (i + 1)).map decW)) := by rw [codeV_take _ _ hi]; first | (rw [decW_T hd8_38]; exact O33) | (rw [decW_F hd8_38]; exact O33)
   have B34 := (B26.mod m45 ((fun e => by have := (hB b2 e).1; omega))).mod ms31 (by omega)
   exact ⟨ka - 1, by omega, (i + 1), v45, by omega, h0_1, h1_1, h2_1, h6_1, h19_1, h20_1, G, hIVe, hOe, (fun g hg => ⟨hB2 g hg, hOe.lt (by omega) (by decide) hg⟩), bs31, B34, E31⟩
  ·refine WAL.off (i := 9) (m' := 1023) (y := some false) G G G G (by kernel_rfl) G (fun _ _ _ h => h) (Yb G G hd8_38) G (⟨Mt (Mt (Mod.ext ede) (Mod.ext n9.ext)) (Mod.ext ed_8), B16, B17⟩) (WAL.off (i := 10) (m' := 2047) (y := some false) G G G G (by kernel_rfl) G (fun _ _ _ h => h) (Yb G G hd8_38) G (⟨Mt (Mt (Mod.ext ede) (Mod.ext n9.ext)) (Mod.ext ed_8), B16, B17⟩) (WAL.off (i := 11) (m' := 4095) (y := some false) G G G G (by kernel_rfl) G (fun _ _ _ h => h) (Yb G G hd8_38) G (⟨Mt (Mt (Mod.ext ede) (Mod.ext n9.ext)) (Mod.ext ed_8), B16, B17⟩) (Ti 12 (.bool false) G G (Qf hd8_38 G Ok) (⟨Mt (Mt (Mod.ext ede) (Mod.ext n9.ext)) (Mod.ext ed_8), B16, B17⟩) (Ti 13 (.agg #[U8 ((decI I.words[i]).op), U8 ((decI I.words[i]).rd), U8 ((decI I.words[i]).rs1), U8 ((decI I.words[i]).rs2), I64 ((decI I.words[i]).imm), .bool false]) G G (WL.build (v := .agg #[U8 ((decI I.words[i]).op), U8 ((decI I.words[i]).rd), U8 ((decI I.words[i]).rs1), U8 ((decI I.words[i]).rs2), I64 ((decI I.words[i]).imm), .bool false]) (vs := [(0, .agg #[U8 ((decI I.words[i]).op), U8 ((decI I.words[i]).rd), U8 ((decI I.words[i]).rs1), U8 ((decI I.words[i]).rs2), I64 ((decI I.words[i]).imm)]), (1, .bool false)]) G (bld10_43 (decI I.words[i]).op (decI I.words[i]).rd (decI I.words[i]).rs1 (decI I.words[i]).rs2 (decI I.words[i]).imm false) G Ok) (⟨Mt (Mt (Mod.ext ede) (Mod.ext n9.ext)) (Mod.ext ed_8), B16, B17⟩) (WAL.one (i := 14) (m' := 32767) (by kernel_rfl) G G (WL.buildSlice (vs := [(0, .agg #[U8 ((decI I.words[i]).op), U8 ((decI I.words[i]).rd), U8 ((decI I.words[i]).rs1), U8 ((decI I.words[i]).rs2), I64 ((decI I.words[i]).imm), .bool false])]) G (bls10_44 (decI I.words[i]).op (decI I.words[i]).rd (decI I.words[i]).rs1 (decI I.words[i]).rs2 (decI I.words[i]).imm false) G ?_))))))
   intro b44 w44 n44
   have E36 := Mt E15 n44.ext
   have B37 := B16.ext n44.ext
   have B38 := B17.ext n44.ext
   refine WL.behindS (⟨Mt (Mt (Mt (Mod.ext ede) (Mod.ext n9.ext)) (Mod.ext ed_8)) (Mod.ext n44.ext), B37, B38⟩) (WAL.one (i := 15) (m' := 65535) (by kernel_rfl) G G ?_)
   have hl44 : b17 < w44.heap.size := B37.lt
   have O39 := (((hO.ext ede).ext n9.ext).ext ed_8).ext n44.ext
   refine WL.append (k := i) (m := 1) (xs := codeV ((I.words.take i).map decW)) (news := [U8 ((decI I.words[i]).op), U8 ((decI I.words[i]).rd), U8 ((decI I.words[i]).rs1), U8 ((decI I.words[i]).rs2), I64 ((decI I.words[i]).imm), .bool false]) ap81 G G G O39 ((Sl.of1 n44.blk.cells G).src y81 (List.all_eq_true.1 G)) (by omega) (by omega) G ?_
   intro v45 w45 o45 m45 l45
   have F40 : From w.heap.size v45 := LocV.from l45 (Mod.size E36) ((fun g hg => by have := (hB g hg).1; omega))
   have N41 : v45.ownBlock ≠ some b17 := LocV.ne l45 B37.lt (fun e => by have := (hB b17 e).1; omega)
   have B43 := ((B11.ext n9.ext).ext ed_8).ext n44.ext
   have N42 : v45.ownBlock ≠ some b2 := LocV.ne l45 B43.lt (fun e => by have := (hB b2 e).1; omega)
   have N44 : v45.ownBlock ≠ some b9 := LocV.ne l45 B38.lt N9
   have E45 : Ext w w45 := Mod.from E36 m45 ((fun g hg => by have := (hB g hg).1; omega))
   have hB2 := locB l45 hB hl44
   have B46 := B37.mod m45 ((fun e => by have := (hB b17 e).1; omega))
   have B47 := B38.mod m45 N9
   refine WL.behindS (⟨Mt (Mt (Mt (Mt (Mod.ext ede) (Mod.ext n9.ext)) (Mod.ext ed_8)) (Mod.ext n44.ext)) m45, B46, B47⟩) (WAL.one (i := 16) (m' := 131071) (by kernel_rfl) G G (WL.nilCheck G G (WL.behindS (⟨Mt (Mt (Mt (Mt (Mod.ext ede) (Mod.ext n9.ext)) (Mod.ext ed_8)) (Mod.ext n44.ext)) m45, B46, B47⟩) (Ti 17 (ptr b17 1) G G (Fa G fo85_1 Ok) (⟨Mt (Mt (Mt (Mt (Mod.ext ede) (Mod.ext n9.ext)) (Mod.ext ed_8)) (Mod.ext n44.ext)) m45, B46, B47⟩) (WAL.one (i := 18) (m' := 524287) (by kernel_rfl) G G (WL.storeB (v := v45) G G o45.one sz81 B46 (Nat.le_of_ble_eq_true G) ?_))))))
   intro ws48 ms48 bs48 zs48
   have E48 : Ext w ws48 := Mod.then E45 ms48 (fun i hi (e : i = b17) => absurd hi (by omega))
   refine WL.behindL (by kernel_rfl) (WAL.done (by kernel_rfl) (Rg (Bn h21_1 G (BinR.succN (by omega)) (Me (IN (i + 1)) (Ni ?_)))))
   have O49 := (((((hIV.ext ede).ext n9.ext).ext ed_8).ext n44.ext).mod m45 ((fun g hg e => by have h1 := hivb g hg; have h2 := (hB g e).1; omega))).mod ms48 (fun g hg e => (fun e => by have := hivb b17 e; omega) (hg.trans (congrArg some e)))
   have hIVe := O49
   have O50 := o45.mod ms48 (fun g hg e => N41 (hg.trans (congrArg some e)))
   have hOe : Ux.Own ws48 6 v45 (i + 1) (codeV ((I.words.take (i + 1)).map decW)) := by rw [codeV_take _ _ hi]; first | (rw [decW_T hd8_38]; exact O50) | (rw [decW_F hd8_38]; exact O50)
   have B51 := (B43.mod m45 ((fun e => by have := (hB b2 e).1; omega))).mod ms48 (by omega)
   exact ⟨ka - 1, by omega, (i + 1), v45, by omega, h0_1, h1_1, h2_1, h6_1, h19_1, h20_1, G, hIVe, hOe, (fun g hg => ⟨hB2 g hg, hOe.lt (by omega) (by decide) hg⟩), bs48, B51, E48⟩
 ·have hi : i = I.words.length := by have := of_decide_eq_false hc22; omega
  have hOc : Ux.Own wr 6 cvv I.words.length (codeV (I.words.map decW)) := by have h := hO; rw [hi, List.take_length] at h; exact h
  refine WC.exit (Sq (WC.drawL (fun w_ => Ext wr w_) 10 11 G mixed ?_))
  intro wd_10 ed_10
  have R52 : Ext wr wd_10 := ed_10
  have R53 : Ext wr wd_10 := ed_10
  have E54 := Mt hE ed_10
  refine Ti 0 (ptr b17 0) G G (Mv (ptr b17 0) h6_1 Ok) R53 (Ti 1 (ptr b2 0) G G (Fa h2_1 fo25_0 Ok) R53 (Tl 2 (.int .i64 I.entry) G G (fun _ hS => Le ((h2.ext hS).cell (j := 0) G) Ok) R53 ?_))
  refine WAL.two (i := 3) (j := 5) (mi := 15) (mj := 39) (by kernel_rfl) G G G G ?_ ?_
  ·have B59 := h17.ext ed_10
   refine WL.makeSliceB (m := I.entry.toNat) ap45 (Eq.trans G hent) (Eq.trans G hent) (by omega) (by omega) G ?_
   intro b52 w52 n52
   have hl52 : b17 < b52 := by have := B59.lt; have := n52.num; omega
   have hk52 : ∀ g, cvv.ownBlock = some g → g < b52 := fun g hg => by have := (hB g hg).2; have := n52.num; have := Mod.size R52; omega
   have R60 := Mt R52 n52.ext
   have R61 := Mt R53 n52.ext
   have E62 := Mt E54 n52.ext
   refine WL.behindS R61 (Ti 4 (.agg #[U64 4194304#64, Sv b52 I.entry.toNat I.entry.toNat]) G G (WL.build (v := .agg #[U64 4194304#64, Sv b52 I.entry.toNat I.entry.toNat]) (vs := [(0, U64 4194304#64), (1, Sv b52 I.entry.toNat I.entry.toNat)]) G (bld10_53 b52 I.entry.toNat) G Ok) R61 (WAL.one (i := 5) (m' := 63) (by kernel_rfl) G G ?_))
   have B64 := B59.ext n52.ext
   refine WL.makeSliceB (m := 65536) ap45 G G (by omega) (by omega) G ?_
   intro b54 w54 n54
   have hl54 : b17 < b54 := by have := B64.lt; have := n54.num; omega
   have hk54 : ∀ g, cvv.ownBlock = some g → g < b54 := fun g hg => by have := (hB g hg).2; have := n54.num; have := Mod.size R60; omega
   have hx52 : b52 ≠ b54 := by have := n52.blk.lt; have := n54.num; omega
   have R66 := Mt R61 n54.ext
   have E67 := Mt E62 n54.ext
   refine WL.behindS R66 (Ti 6 (.agg #[U64 8323072#64, Sv b54 65536 65536]) G G (WL.build (v := .agg #[U64 8323072#64, Sv b54 65536 65536]) (vs := [(0, U64 8323072#64), (1, Sv b54 65536 65536)]) G (bld10_55 b54 65536) G Ok) R66 (WAL.one (i := 7) (m' := 255) (by kernel_rfl) G G ?_))
   have B69 := n52.blk.ext n54.ext
   refine WL.buildSlice (vs := [(0, .agg #[U64 4194304#64, Sv b52 I.entry.toNat I.entry.toNat]), (1, .agg #[U64 8323072#64, Sv b54 65536 65536])]) G (bls10_56 b52 b54 I.entry.toNat 65536) G ?_
   intro b56 w56 n56
   have R71 := Mt R66 n56.ext
   have E72 := Mt E67 n56.ext
   have hz56 : b52 < b56 ∧ b54 < b56 := by have := n56.num; have h1 := B69.lt; have h2 := n54.blk.lt; omega
   refine WL.behindS R71 (WAL.one (i := 8) (m' := 511) (by kernel_rfl) G G (WL.nilCheck G G (WL.behindS R71 (Ti 9 (ptr b17 0) G G (Fa G fo85_0 Ok) R71 (WAL.one (i := 10) (m' := 2047) (by kernel_rfl) G G ?_)))))
   have B74 := (B64.ext n54.ext).ext n56.ext
   refine WL.storeB (v := Sv b56 2 2) G G G sz80 B74 (Nat.le_of_ble_eq_true G) ?_
   intro ws75 ms75 bs75 zs75
   have E75 : Ext w ws75 := Mod.then E72 ms75 (fun i hi (e : i = b17) => absurd hi (by omega))
   refine WL.behindL (by kernel_rfl) (WAL.done (by kernel_rfl) (Sr (Mv (ptr b17 0) h6_1 (WL.nilCheck G G (Fa G fo85_3 (WL.indexArr (i := 2) ar68 sz39 G G (by omega) G (WL.storeB (v := U64 8388608#64) G G G sz39 bs75 (Nat.le_of_ble_eq_true G) ?_)))))))
   intro ws76 ms76 bs76 zs76
   have E76 : Ext w ws76 := Mod.then E75 ms76 (fun i hi (e : i = b17) => absurd hi (by omega))
   refine Ni (Sr (Mv (ptr b17 0) h6_1 (Ae (ptr b17 0) (Ae (IN 0) (Ni (WC.ret ?_))))))
   have B77 := (n56.blk.mod ms75 (by omega)).mod ms76 (by omega)
   have O78 := (((n52.blk.own.ext n54.ext).ext n56.ext).mod ms75 (fun g hg e => (fun e => by have h : b52 = b17 := Option.some.inj e; omega) (hg.trans (congrArg some e)))).mod ms76 (fun g hg e => (fun e => by have h : b52 = b17 := Option.some.inj e; omega) (hg.trans (congrArg some e)))
   have O79 := ((n54.blk.own.ext n56.ext).mod ms75 (fun g hg e => (fun e => by have h : b54 = b17 := Option.some.inj e; omega) (hg.trans (congrArg some e)))).mod ms76 (fun g hg e => (fun e => by have h : b54 = b17 := Option.some.inj e; omega) (hg.trans (congrArg some e)))
   have O80 := (((((hO.ext ed_10).ext n52.ext).ext n54.ext).ext n56.ext).mod ms75 (fun g hg e => (fun e => by have := (hB b17 e).1; omega) (hg.trans (congrArg some e)))).mod ms76 (fun g hg e => (fun e => by have := (hB b17 e).1; omega) (hg.trans (congrArg some e)))
   have O81 := (((((hIV.ext ed_10).ext n52.ext).ext n54.ext).ext n56.ext).mod ms75 (fun g hg e => (fun e => by have := hivb b17 e; omega) (hg.trans (congrArg some e)))).mod ms76 (fun g hg e => (fun e => by have := hivb b17 e; omega) (hg.trans (congrArg some e)))
   obtain ⟨T, hT1, hT2⟩ := new_mr (n0 := w.heap.size) bs76 B77 O78 O79 (by rw [← hi]; have h := O80; rw [hi] at h ⊢; rw [List.take_length] at h; exact h) O81 hivb (fun g hg => (hB g hg).1) hk52 hk54 hl52 hl54 hx52 hz56 hbb hivF h6 (by omega)
   exact ⟨_, Rp G G G, T, b17, G, hT1, hT2, E76⟩
  ·have B82 := h17.ext ed_10
   refine WL.makeSliceB (m := 65536) ap45 G G (by omega) (by omega) G ?_
   intro b54 w54 n54
   have hl54 : b17 < b54 := by have := B82.lt; have := n54.num; omega
   have hk54 : ∀ g, cvv.ownBlock = some g → g < b54 := fun g hg => by have := (hB g hg).2; have := n54.num; have := Mod.size R52; omega
   have R83 := Mt R52 n54.ext
   have R84 := Mt R53 n54.ext
   have E85 := Mt E54 n54.ext
   refine WL.behindS R84 (Ti 6 (.agg #[U64 8323072#64, Sv b54 65536 65536]) G G (WL.build (v := .agg #[U64 8323072#64, Sv b54 65536 65536]) (vs := [(0, U64 8323072#64), (1, Sv b54 65536 65536)]) G (bld10_55 b54 65536) G Ok) R84 (WAL.one (i := 3) (m' := 111) (by kernel_rfl) G G ?_))
   have B87 := B82.ext n54.ext
   refine WL.makeSliceB (m := I.entry.toNat) ap45 (Eq.trans G hent) (Eq.trans G hent) (by omega) (by omega) G ?_
   intro b52 w52 n52
   have hl52 : b17 < b52 := by have := B87.lt; have := n52.num; omega
   have hk52 : ∀ g, cvv.ownBlock = some g → g < b52 := fun g hg => by have := (hB g hg).2; have := n52.num; have := Mod.size R83; omega
   have hx52 : b52 ≠ b54 := by have := n54.blk.lt; have := n52.num; omega
   have R89 := Mt R84 n52.ext
   have E90 := Mt E85 n52.ext
   refine WL.behindS R89 (Ti 4 (.agg #[U64 4194304#64, Sv b52 I.entry.toNat I.entry.toNat]) G G (WL.build (v := .agg #[U64 4194304#64, Sv b52 I.entry.toNat I.entry.toNat]) (vs := [(0, U64 4194304#64), (1, Sv b52 I.entry.toNat I.entry.toNat)]) G (bld10_53 b52 I.entry.toNat) G Ok) R89 (WAL.one (i := 7) (m' := 255) (by kernel_rfl) G G ?_))
   have B92 := n54.blk.ext n52.ext
   refine WL.buildSlice (vs := [(0, .agg #[U64 4194304#64, Sv b52 I.entry.toNat I.entry.toNat]), (1, .agg #[U64 8323072#64, Sv b54 65536 65536])]) G (bls10_56 b52 b54 I.entry.toNat 65536) G ?_
   intro b56 w56 n56
   have R94 := Mt R89 n56.ext
   have E95 := Mt E90 n56.ext
   have hz56 : b52 < b56 ∧ b54 < b56 := by have := n56.num; have h1 := n52.blk.lt; have h2 := B92.lt; omega
   refine WL.behindS R94 (WAL.one (i := 8) (m' := 511) (by kernel_rfl) G G (WL.nilCheck G G (WL.behindS R94 (Ti 9 (ptr b17 0) G G (Fa G fo85_0 Ok) R94 (WAL.one (i := 10) (m' := 2047) (by kernel_rfl) G G ?_)))))
   have B97 := (B87.ext n52.ext).ext n56.ext
   refine WL.storeB (v := Sv b56 2 2) G G G sz80 B97 (Nat.le_of_ble_eq_true G) ?_
   intro ws98 ms98 bs98 zs98
   have E98 : Ext w ws98 := Mod.then E95 ms98 (fun i hi (e : i = b17) => absurd hi (by omega))
   refine WL.behindL (by kernel_rfl) (WAL.done (by kernel_rfl) (Sr (Mv (ptr b17 0) h6_1 (WL.nilCheck G G (Fa G fo85_3 (WL.indexArr (i := 2) ar68 sz39 G G (by omega) G (WL.storeB (v := U64 8388608#64) G G G sz39 bs98 (Nat.le_of_ble_eq_true G) ?_)))))))
   intro ws99 ms99 bs99 zs99
   have E99 : Ext w ws99 := Mod.then E98 ms99 (fun i hi (e : i = b17) => absurd hi (by omega))
   refine Ni (Sr (Mv (ptr b17 0) h6_1 (Ae (ptr b17 0) (Ae (IN 0) (Ni (WC.ret ?_))))))
   have B100 := (n56.blk.mod ms98 (by omega)).mod ms99 (by omega)
   have O101 := ((n52.blk.own.ext n56.ext).mod ms98 (fun g hg e => (fun e => by have h : b52 = b17 := Option.some.inj e; omega) (hg.trans (congrArg some e)))).mod ms99 (fun g hg e => (fun e => by have h : b52 = b17 := Option.some.inj e; omega) (hg.trans (congrArg some e)))
   have O102 := (((n54.blk.own.ext n52.ext).ext n56.ext).mod ms98 (fun g hg e => (fun e => by have h : b54 = b17 := Option.some.inj e; omega) (hg.trans (congrArg some e)))).mod ms99 (fun g hg e => (fun e => by have h : b54 = b17 := Option.some.inj e; omega) (hg.trans (congrArg some e)))
   have O103 := (((((hO.ext ed_10).ext n54.ext).ext n52.ext).ext n56.ext).mod ms98 (fun g hg e => (fun e => by have := (hB b17 e).1; omega) (hg.trans (congrArg some e)))).mod ms99 (fun g hg e => (fun e => by have := (hB b17 e).1; omega) (hg.trans (congrArg some e)))
   have O104 := (((((hIV.ext ed_10).ext n54.ext).ext n52.ext).ext n56.ext).mod ms98 (fun g hg e => (fun e => by have := hivb b17 e; omega) (hg.trans (congrArg some e)))).mod ms99 (fun g hg e => (fun e => by have := hivb b17 e; omega) (hg.trans (congrArg some e)))
   obtain ⟨T, hT1, hT2⟩ := new_mr (n0 := w.heap.size) bs99 B100 O101 O102 (by rw [← hi]; have h := O103; rw [hi] at h ⊢; rw [List.take_length] at h; exact h) O104 hivb (fun g hg => (hB g hg).1) hk52 hk54 hl52 hl54 hx52 hz56 hbb hivF h6 (by omega)
   exact ⟨_, Rp G G G, T, b17, G, hT1, hT2, E99⟩
end Go.Proofs.S
end
section
namespace Go.Ux
open Go
def pairT (P : Program) (t : Nat) : Bool :=
 match P.underlying t with
 | some (.struct fs) => match fs.toList with
  | [a, b] => a.name != "_" && b.name != "_" && a.offset == 0 && b.offset == 1 && (match P.underlying a.type with | some (.int _) => true | _ => false) && (match P.underlying b.type with | some (.int _) => true | _ => false) && isAggT P a.type == some false && isAggT P b.type == some false && !P.stoodInHeld t
  | _ => false
 | _ => false
theorem equal_pair {P : Program} {t : Nat} (h : pairT P t = true) (k1 k2 : IntKind) (a b x y : Int) (w : World) : (Op.equal t (.agg #[.int k1 a, .int k2 x]) (.agg #[.int k1 b, .int k2 y])).run P w = .ok (a == b && x == y) w := by
 unfold pairT at h
 split at h <;> try cases h
 rename_i fs hu
 split at h <;> try cases h
 rename_i fa fb hl
 simp only [Bool.and_eq_true, bne_iff_ne, beq_iff_eq, Bool.not_eq_true'] at h
 obtain ⟨⟨⟨⟨⟨⟨⟨⟨h1, h2⟩, h3⟩, h4⟩, h5⟩, h6⟩, h7⟩, h8⟩, h9⟩ := h
 split at h5 <;> try cases h5
 rename_i ka hia
 split at h6 <;> try cases h6
 rename_i kb hib
 have hf : P.fieldsOf t = fs := by simp [Program.fieldsOf, hu]
 show (Op.equalIn (9999 + 1) t _ _).run P w = _
 rw [run_equalIn_struct (P := P) w 9999 t _ _ (by rw [hf]; exact hu) h9, hf, hl]
 have e1 : ∀ w, (Op.equalIn 9999 fa.type (.int k1 a) (.int k1 b)).run P w = .ok (a == b) w := fun w => by
  show (Op.equalIn (9998 + 1) fa.type (.int k1 a) (.int k1 b)).run P w = _
  unfold Op.equalIn
  simp [run_underlying hia, Result.andThen]
 have e2 : ∀ w, (Op.equalIn 9999 fb.type (.int k2 x) (.int k2 y)).run P w = .ok (x == y) w := fun w => by
  show (Op.equalIn (9998 + 1) fb.type (.int k2 x) (.int k2 y)).run P w = _
  unfold Op.equalIn
  simp [run_underlying hib, Result.andThen]
 simp only [Op.eqFields, h1, h2, h3, h4, ne_eq, not_false_eq_true, if_true]
 have p1 : ∀ (u v : Value) (w : World), (part fa.type #[u, v] 0).run P w = .ok u w := fun u v w => by simp [part, isAggT_run h7, Result.andThen]
 have p2 : ∀ (u v : Value) (w : World), (part fb.type #[u, v] 1).run P w = .ok v w := fun u v w => by simp [part, isAggT_run h8, Result.andThen]
 simp only [Sem.run_bind, p1, e1, Result.andThen]
 generalize (a == b) = p at *
 generalize (x == y) = q at *
 cases p <;> cases q <;> simp [p2, e2, Result.andThen]
theorem beqInt {n : Nat} (x y : BitVec n) : (x.toInt == y.toInt) = (x == y) := by
 rw [Bool.eq_iff_iff]
 simp only [beq_iff_eq]
 exact ⟨BitVec.eq_of_toInt_eq, fun h => by rw [h]⟩
theorem BinR.eqlEv {P : Program} {t : Nat} (h : pairT P t = true) (hg : P.eqGuardType P.depth t = false) {a b : BitVec 8} {x y : BitVec 64} : BinR P .eql t (.agg #[U8 a, I64 x]) (.agg #[U8 b, I64 y]) (.bool (a == b && x == y)) := fun o o' w => by
 have e := equal_pair h .u8 .i64 a.toNat b.toNat x.toInt y.toInt w
 rw [beqNat, beqInt] at e
 simp only [eqGuard, binOp, Sem.run_bind, Sem.run_pure, Result.andThen]; simp [e, hg]
theorem BinR.neqEv {P : Program} {t : Nat} (h : pairT P t = true) (hg : P.eqGuardType P.depth t = false) {a b : BitVec 8} {x y : BitVec 64} : BinR P .neq t (.agg #[U8 a, I64 x]) (.agg #[U8 b, I64 y]) (.bool !(a == b && x == y)) := fun o o' w => by
 have e := equal_pair h .u8 .i64 a.toNat b.toNat x.toInt y.toInt w
 rw [beqNat, beqInt] at e
 simp only [eqGuard, binOp, Sem.run_bind, Sem.run_pure, Result.andThen]; simp [e, hg]
end Go.Ux
end
section
set_option linter.unusedSimpArgs false
set_option linter.unusedVariables false
namespace Go.Proofs.S
open Go Go.Ux Go.Ux.Mach Go.Proofs
open Tryz
theorem zt25 : zeroT prog 25 = some #[.int .i64 0, .slice none 0 0, .slice none 0 0] := by kernel_rfl
theorem bls20_7  : ∀ w : World, (Instr.buildSlice 22 1 #[(0, .agg #[St [115, 116, 97, 114, 116], IN 0])]).run prog w = .ok (Sv w.heap.size 1 1) (w.alloc (.cells #[St [115, 116, 97, 114, 116], IN 0] 98)) := fun _ => by kernel_rfl
theorem bld20_9 (x : Int) (p : Nat) (a : Option Addr) (n c : Nat) : ∀ w : World, (Instr.build 25 #[(0, .int .i64 x), (1, Sv p 1 1), (2, .slice a n c)]).run prog w = .ok (.agg #[.int .i64 x, Sv p 1 1, .slice a n c]) w := fun _ => by kernel_rfl
theorem bls9_6  : ∀ w : World, (Instr.buildSlice 23 5 #[(0, U32 7341331#32), (1, U32 2099347#32), (2, U32 115#32), (3, U32 3147923#32), (4, U32 115#32)]).run prog w = .ok (Sv w.heap.size 5 5) (w.alloc (.cells #[U32 7341331#32, U32 2099347#32, U32 115#32, U32 3147923#32, U32 115#32] 50)) := fun _ => by kernel_rfl
theorem el34 : elemT prog 34 = some 38 := by kernel_rfl
theorem sz38 : sizeT prog 38 = some 2 := by kernel_rfl
theorem ag38 : isAggT prog 38 = some true := by kernel_rfl
open Go.Proofs.M (instV Glob findRow decodeAt decReg rowIs findRow_lt)
open Go.Ux.Image
theorem glob_size {w : World} (h : Glob w) : 6 ≤ w.heap.size := by
 have := World.block_lt_of_cell? w _ (h.f7 0 _ rfl)
 exact this
theorem findRow_pos {x : BitVec 32} {i : Nat} (h : findRow x tableD = some i) : 1 ≤ i := by
 rcases Nat.eq_zero_or_pos i with h0 | h0
 ·subst h0
  unfold findRow at h
  rw [List.findIdx?_eq_some_iff_getElem] at h
  obtain ⟨hl, h1, _⟩ := h
  exact absurd h1 (by show ¬ rowIs zeroRow x = true; unfold rowIs; simp [zeroRow, RvRow.form, formOf, zeroForm])
 ·exact h0
theorem decReg_lt (has : Bool) (k : Nat) (x : BitVec 32) : (decReg has (k, 5) x).toNat < 32 := by
 unfold decReg
 split
 ·have h1 : ((1#32 <<< 5) - 1#32 : BitVec 32) = 31#32 := by decide
  simp only [bitsOf, h1, BitVec.toNat_setWidth, BitVec.toNat_and]
  have : (x >>> k).toNat &&& (31#32 : BitVec 32).toNat ≤ 31 := Nat.and_le_right
  omega
 ·decide
theorem decI_ok {x : BitVec 32} (h : (decW x).2 = true) : 1 ≤ (decI x).op.toNat ∧ (decI x).op.toNat < 66 ∧ ((decI x).rs1).toNat < 32 ∧ ((decI x).rs2).toNat < 32 ∧ ((decI x).rd).toNat < 32 := by
 have h0 : (((decE x : Nat) : Int) == (0 : Int)) = true := by
  rcases Bool.eq_false_or_eq_true (((decE x : Nat) : Int) == (0 : Int)) with h1 | h1
  ·exact h1
  ·rw [decW_F h1] at h; cases h
 unfold decE at h0
 unfold decI
 rcases hf : findRow x tableD with _ | i
 ·rw [hf] at h0; cases h0
 ·have h1 := findRow_pos hf
  have h2 : i < 66 := findRow_lt hf
  have e : (BitVec.ofNat 8 i).toNat = i := by rw [BitVec.toNat_ofNat]; omega
  refine ⟨?_, ?_, decReg_lt _ _ _, decReg_lt _ _ _, decReg_lt _ _ _⟩
  ·show 1 ≤ (BitVec.ofNat 8 i).toNat; omega
  ·show (BitVec.ofNat 8 i).toNat < 66; omega
theorem newM_code {I : Img} {inp : List (BitVec 64)} (h : I.words.length ≤ 262144) : CodeOk (newM I inp).code := by
 refine ⟨by show (I.words.map decW).length ≤ _; rw [List.length_map]; omega, fun p hp h2 => ?_⟩
 obtain ⟨x, _, rfl⟩ := List.mem_map.1 hp
 exact decI_ok h2
theorem pair38 : pairT prog 38 = true := by kernel_rfl
theorem pairg38 : prog.eqGuardType prog.depth 38 = false := by kernel_rfl
def workI : Img := ⟨0, [([115, 116, 97, 114, 116], 0)], [7341331#32, 2099347#32, 115#32, 3147923#32, 115#32]⟩
theorem work_right : rightB workI = true := by kernel_rfl
theorem work_n : (runN 100 (newM workI [])).1 = 5 := by kernel_rfl
theorem work_ev : (runN 100 (newM workI [])).2.events = [(2#8, 7#64), (3#8, 7#64)] := by kernel_rfl
theorem work_fin : (runN 100 (newM workI [])).2.fin = some false := by kernel_rfl
theorem whole_spec (a : Option Addr) (n c : Nat) (dat : Int) (w : World) : CallsR prog 20 #[.slice a n c, .int .i64 dat] w (fun v w' => ∃ p, v = .agg #[.int .i64 dat, Sv p 1 1, .slice a n c] ∧ Sl w' (Sv p 1 1) 2 1 (symCells [([115, 116, 97, 114, 116], 0)]) ∧ Ext w w') := by
 refine Co func20 G G ?_
 refine Sr (WL.alloc zt25 G ?_)
 intro b4 w4 n4
 have E1 : Ext w w4 := n4.ext
 refine Ni (Sr (Me (.int .i64 dat) (Bl (.agg #[St [115, 116, 97, 114, 116], IN 0]) [(0, St [115, 116, 97, 114, 116])] (WL.buildSlice (vs := [(0, .agg #[St [115, 116, 97, 114, 116], IN 0])]) G bls20_7 G ?_))))
 intro b7 w7 n7
 have E2 := Mt E1 n7.ext
 refine Me (.slice a n c) (WL.build (v := .agg #[.int .i64 dat, Sv b7 1 1, .slice a n c]) (vs := [(0, .int .i64 dat), (1, Sv b7 1 1), (2, .slice a n c)]) G (bld20_9 dat b7 a n c) G ?_)
 have B3 := n4.blk.ext n7.ext
 refine WL.storeS (v := .agg #[.int .i64 dat, Sv b7 1 1, .slice a n c]) G G B3 G sz25 G G ?_
 intro ws4 ms4 bs4 zs4
 have E4 : Ext w ws4 := Mod.own (Mod.refl _ _) n4 E2 ms4
 refine Ni (WC.ret ?_)
 have B5 := n7.blk.mod ms4 (Ne.symm (n4.blk.ne n7))
 exact ⟨_, Res.cell G G (loadVar_agg [.int .i64 dat, Sv b7 1 1, .slice a n c] ag25 sz25 G (bs4.sub (o := 0) G)), b7, G, (Sl.of1 B5.cells G), E4⟩
theorem works_spec (w : World) (hG : Glob w) (hX : HX w) : Cx 9 #[] w (.bool true) := by
 refine Co func9 G G ?_
 refine Sr (Ae (.bool false) (Ni (Sr (WL.buildSlice (vs := [(0, U32 7341331#32), (1, U32 2099347#32), (2, U32 115#32), (3, U32 3147923#32), (4, U32 115#32)]) G bls9_6 G ?_))))
 intro b6 w6 n6
 have E1 : Ext w w6 := n6.ext
 refine Ca (whole_spec (some ⟨b6, 0, none⟩) 5 5 0 _) ?_
 rintro _ wwh ⟨p, rfl, hsy, ewh⟩
 have E2 := Mt E1 ewh
 have B3 := n6.blk.ext ewh
 have hRW : Rep wwh (Sv p 1 1) (Sv b6 5 5) workI := ⟨hsy, Go.Proofs.M.Sl.ofCells (n := 5) B3.cells rfl, by decide, by decide⟩
 refine Ca (new_ok workI _ _ (.slice none 0 0) [] _ hRW (by decide) (hG.ext E2) (glob_size (hG.ext E2)) (Sl.nil _ _ _) (.inl G) (by decide) work_right) ?_
 rintro _ wne ⟨T, b, rfl, hM, hT, ene⟩
 have hTw : ∀ k, T k ≠ 0 → w.heap.size ≤ k := fun k h => Nat.le_trans (Mod.size E2) (hT k h)
 have E4 := Mt E2 ene
 refine Me (.tuple #[ptr b 0, IN 0]) (Et G G (Et G G (Ae (ptr b 0) (Ae (IN 0) (Ni (Sr (Me (ptr b 0) (Ca (run_spec T b (newM workI []) _ hM 100 (by decide) (newM_code (by decide)) (hG.ext E4) (Mod.cell E4 hX (fun h => h)) (by decide)) ?_))))))))
 rintro v12 wru ⟨hv12, T1, hM1, m1, hs1⟩
 obtain rfl : v12 = IN 5 := hv12.trans (congrArg (fun n : Nat => IN n) work_n)
 have EM5 : Ext w wru := Mod.then E4 m1 (fun i hi e => absurd (hTw i e) (Nat.not_le_of_lt hi))
 refine Ae (IN 5) (Ni (Sr (Me (ptr b 0) ?_)))
 have hle : (runN (100 : Int).toNat (newM workI [])).2.events = [(2#8, 7#64), (3#8, 7#64)] := work_ev
 refine Ca (events_spec T1 b _ _ hM1 (by rw [hle]; decide)) ?_
 rintro v14 wev ⟨hc1, hc2, hc3⟩
 rw [hle] at hc1
 have E6 := Mt EM5 hc3
 refine Ae v14 (Ni (Sr (Me (IN 0) (Bt G G BinR.eql G (Me (.bool true) (Gr (Me (IN 5) (Gr (Bt G G BinR.eql G (Pt G (Me (.bool true) (Gr (Me v14 (Gr (WL.lenSl (sz := 2) (m := 2) (xs := evV [(2#8, 7#64), (3#8, 7#64)]) el34 G hc1.sl G (Gr (Bt G G BinR.eql G (Pt G (Me (.bool true) (Gr (Me v14 (Gr ?_))))))))))))))))))))))
 refine WL.indexSl (sz := 2) (m := 2) (xs := evV [(2#8, 7#64), (3#8, 7#64)]) (i := 0) el34 sz38 G G (by omega) hc1.sl G ?_
 intro b28 o28 hb28 hc28
 refine Gr (WL.loadS [U8 2#8, I64 7#64] G ag38 sz38 G (cells2 (i := 0) hc28 G G) G (Gr (Bl (.agg #[.int .u8 2, I64 7#64]) [(0, .int .u8 2), (1, I64 7#64)] (Gr (Bt (vx := .agg #[U8 2#8, I64 7#64]) (vy := .agg #[U8 2#8, I64 7#64]) G G (BinR.eqlEv pair38 pairg38) (by decide) (Pt G (Me (.bool true) (Gr (Me v14 (Gr (WL.indexSl (sz := 2) (m := 2) (xs := evV [(2#8, 7#64), (3#8, 7#64)]) (i := 1) el34 sz38 G G (by omega) hc1.sl G ?_)))))))))))
 intro b35 o35 hb35 hc35
 refine Gr (WL.loadS [U8 3#8, I64 7#64] G ag38 sz38 G (cells2 (i := 1) hc35 G G) G (Gr (Bl (.agg #[.int .u8 3, I64 7#64]) [(0, .int .u8 3), (1, I64 7#64)] (Gr (Bt (vx := .agg #[U8 3#8, I64 7#64]) (vy := .agg #[U8 3#8, I64 7#64]) G G (BinR.eqlEv pair38 pairg38) (by decide) (Pt G (Me (.bool true) (Gr (Me (ptr b 0) (Gr (Ca (ended_spec T1 b _ _ (hM1.ext hc3)) ?_)))))))))))
 rintro _ we ⟨rfl, ee⟩
 rw [show (runN (100 : Int).toNat (newM workI [])).2.fin = some false from work_fin]
 have E7 := Mt E6 ee
 refine Pt G (Me (.bool true) (Gr (Me (ptr b 0) (Gr (Ca (trapped_m T1 b _ _ (hM1.ext (hc3.trans ee)) (Mod.cell E7 hX (fun h => h))) ?_)))))
 rintro _ wt ⟨rfl, et⟩
 rw [show (runN (100 : Int).toNat (newM workI [])).2.fin = some false from work_fin]
 have E8 := Mt E7 et
 refine Gr (WL.un G G UnR.not (Pt G (Ae (.bool true) (Ni (WC.ret ?_)))))
 exact ⟨_, Ro G G, G, E8⟩
end Go.Proofs.S
end
section
set_option linter.unusedSimpArgs false
set_option linter.unusedVariables false
namespace Go.Proofs.S
open Go Go.Ux Go.Ux.Mach Go.Proofs
open Tryz
theorem fo25_1 : fieldOff prog 25 1 = some 1 := by kernel_rfl
theorem el22 : elemT prog 22 = some 98 := by kernel_rfl
open Go.Proofs.M (instV Glob)
open Go.Ux.Image
theorem runN_keeps : ∀ (k : Nat) (M : MS), (runN k M).2.code = M.code ∧ (runN k M).2.events.length ≤ M.events.length + k ∧ (runN k M).1 ≤ k
 | 0, M => ⟨rfl, Nat.le_refl _, Nat.le_refl _⟩
 | k + 1, M => by
  rcases hf : M.fin with _ | t
  ·rw [runN_go hf]
   obtain ⟨h1, h2, h3⟩ := runN_keeps k (stepM M)
   obtain ⟨h4, h5⟩ := stepM_keeps M
   exact ⟨h1.trans h4, by show (runN k (stepM M)).2.events.length ≤ _; omega, by show (runN k (stepM M)).1 + 1 ≤ _; omega⟩
  ·rw [runN_end (by rw [hf]; rfl)]
   exact ⟨G, by show M.events.length ≤ _; omega, Nat.zero_le _⟩
theorem runN_add : ∀ (a b : Nat) (M : MS), runN (a + b) M = ((runN a M).1 + (runN b (runN a M).2).1, (runN b (runN a M).2).2)
 | 0, b, M => by rw [Nat.zero_add]; show _ = (0 + (runN b M).1, (runN b M).2); rw [Nat.zero_add]
 | a + 1, b, M => by
  rcases hf : M.fin with _ | t
  ·rw [show a + 1 + b = (a + b) + 1 by omega, runN_go hf, runN_go hf, runN_add a b (stepM M)]
   refine Prod.ext ?_ G
   show (runN a (stepM M)).1 + (runN b (runN a (stepM M)).2).1 + 1 = (runN a (stepM M)).1 + 1 + (runN b (runN a (stepM M)).2).1
   omega
  ·have h : M.fin.isSome = true := by rw [hf]; rfl
   rw [runN_end h (a + 1 + b), runN_end h (a + 1)]
   show (0, M) = (0 + (runN b M).1, (runN b M).2)
   rw [runN_end h b]; rfl
theorem run_specN (T : Nat → Nat) (b : Nat) (M : MS) (w : World) (h : MR T w b M) (n : Nat) (hn : n ≤ 1000000) (hc : CodeOk M.code) (hG : Glob w) (hX : HX w) (hev : M.events.length ≤ 1000000) :
  CallsR prog 11 #[ptr b 0, IN n] w (fun v w' => v = IN (runN n M).1 ∧ Turn T w b (runN n M).2 w') :=
 run_spec T b M w h (n : Int) (by omega) hc hG hX (by rw [Int.toNat_natCast]; omega)
def Sep (Ta Tb : Nat → Nat) : Prop := ∀ k, Ta k ≠ 0 → Tb k = 0
theorem Sep.symm {Ta Tb : Nat → Nat} (h : Sep Ta Tb) : Sep Tb Ta := fun k hb => by
 rcases Nat.eq_zero_or_pos (Ta k) with h0 | h0
 ·exact h0
 ·exact absurd (h k (by omega)) hb
theorem Sep.turn {Ta Ta' Tb : Nat → Nat} {w : World} {b : Nat} {M : MS} (h : Sep Ta Tb) (hs : ∀ k, Ta' k ≠ 0 → Ta k ≠ 0 ∨ w.heap.size ≤ k) (hb : MR Tb w b M) : Sep Ta' Tb := fun k hk => by
 rcases hs k hk with h1 | h1
 ·exact h k h1
 ·rcases Nat.eq_zero_or_pos (Tb k) with h0 | h0
  ·exact h0
  ·have := (hb.lt k (by omega)).1; omega
theorem Sep.new {Ta Tb : Nat → Nat} {w : World} {b : Nat} {M : MS} (ha : MR Ta w b M) (hb : ∀ k, Tb k ≠ 0 → w.heap.size ≤ k) : Sep Ta Tb := fun k hk => by
 have := (ha.lt k hk).1
 rcases Nat.eq_zero_or_pos (Tb k) with h0 | h0
 ·exact h0
 ·have := hb k (by omega); omega
theorem MR.far {Ta Tb : Nat → Nat} {w w' : World} {b : Nat} {M : MS} (h : MR Tb w b M) (m : Mod (Fp Ta) w w') (hs : Sep Ta Tb) : MR Tb w' b M := h.mod m fun k hk e => hk (hs k e)
theorem floor_turn {T T' : Nat → Nat} {w w1 : World} (h : ∀ k, T k ≠ 0 → w.heap.size ≤ k) (hs : ∀ k, T' k ≠ 0 → T k ≠ 0 ∨ w1.heap.size ≤ k) (hw : w.heap.size ≤ w1.heap.size) : ∀ k, T' k ≠ 0 → w.heap.size ≤ k := fun k hk => by
 rcases hs k hk with h1 | h1
 ·exact h k h1
 ·omega
end Go.Proofs.S
end
section
set_option linter.unusedSimpArgs false
set_option linter.unusedVariables false
namespace Go.Proofs.S
open Go Go.Ux Go.Ux.Mach Go.Proofs
open Tryz
theorem el49 : elemT prog 49 = some 48 := by kernel_rfl
theorem bls19_25 (z : Int) : ∀ w : World, (Instr.buildSlice 23 1 #[(0, .int .u32 z)]).run prog w = .ok (Sv w.heap.size 1 1) (w.alloc (.cells #[.int .u32 z] 50)) := fun _ => by kernel_rfl
theorem ap23 : appT prog 23 = some (50, 1, 4, #[.int .u32 0]) := by kernel_rfl
open Go.Proofs.M (instV Glob)
open Go.Ux.Image
def instCells (l : List RvInst) : List Value := l.flatMap fun a => [U8 a.op, U8 a.rd, U8 a.rs1, U8 a.rs2, I64 a.imm]
theorem instCells_get (l : List RvInst) (i : Nat) (h : i < l.length) (j : Nat) (hj : j < 5) : (instCells l)[i * 5 + j]? = [U8 l[i].op, U8 l[i].rd, U8 l[i].rs1, U8 l[i].rs2, I64 l[i].imm][j]? := by
 induction l generalizing i with
 | nil => simp at h
 | cons a r ih =>
  cases i with
  | zero =>
   simp only [instCells, List.flatMap_cons, Nat.zero_mul, Nat.zero_add, List.getElem_cons_zero]
   rw [List.getElem?_append_left (by simpa using hj)]
  | succ i =>
   have := ih i (by simpa using h)
   simp only [List.getElem_cons_succ]
   rw [← this]
   simp only [instCells, List.flatMap_cons]
   rw [List.getElem?_append_right (by simp; omega)]
   congr 1
   simp; omega
theorem inst_at {w : World} {b o : Nat} {l : List RvInst} (h : Cells w b o (instCells l)) {i : Nat} (hi : i < l.length) : Cells w b (o + i * 5) [U8 l[i].op, U8 l[i].rd, U8 l[i].rs1, U8 l[i].rs2, I64 l[i].imm] := by
 intro j u hj
 have hj5 : j < 5 := by have := (List.getElem?_eq_some_iff.1 hj).1; simpa using this
 rw [Nat.add_assoc]
 exact h (i * 5 + j) u (by rw [instCells_get l i hi j hj5]; exact hj)
def codeW (l : List RvInst) : List (BitVec 32) := l.filterMap fun a => if (encodeR a).2 = 0 then some (encodeR a).1 else none
theorem codeW_take (l : List RvInst) (i : Nat) (h : i < l.length) : codeW (l.take (i + 1)) = codeW (l.take i) ++ (if (encodeR l[i]).2 = 0 then [(encodeR l[i]).1] else []) := by
 unfold codeW
 rw [List.take_add_one, List.filterMap_append, List.getElem?_eq_getElem h]
 congr 1
 simp only [Option.toList, List.filterMap_cons, List.filterMap_nil]
 split
 ·rename_i h2; split at h2
  ·cases h2
  ·rename_i h3; rw [if_neg h3]
 ·rename_i h2; split at h2
  ·rename_i h3; cases h2; rw [if_pos h3]
  ·cases h2
theorem codeW_le (l : List RvInst) : (codeW l).length ≤ l.length := List.length_filterMap_le _ _
theorem code_spec (lv : Value) (l : List RvInst) (w : World) (hG : Glob w) (hS : Sl w lv 5 l.length (instCells l)) (hl : l.length ≤ 100000) : CallsR prog 19 #[lv] w (fun v w' => Ux.Own w' 1 v (codeW l).length (wordCells (codeW l)) ∧ From w.heap.size v ∧ Ext w w') := by
 refine Co func19 G G ?_
 refine Sr (Ae (.slice none 0 0) (Ni (Sr (Ae (.slice none 0 0) (Ni (Sq (Sr (Ae (IN 0) (Ni (Bk ?_))))))))))
 refine WC.loop (fun k f w_ => ∃ i v, (k + i = l.length) ∧ f 0 = lv ∧ f 3 = v ∧ f 4 = IN i ∧ (Ext w w_) ∧ (Ux.Own w_ 1 v (codeW (l.take i)).length (wordCells (codeW (l.take i)))) ∧ (From w.heap.size v)) l.length ?_ ?_
 ·exact ⟨0, (.slice none 0 0), by omega, G, G, G, Mod.refl _ _, Ux.Own.nil _ 1, fun g hg => by cases hg⟩
 rintro ka f1 wr ⟨i, v, hk1, h0_1, h3_1, h4_1, hE, hO, hF⟩
 refine Sq (Sr (Mv (IN i) h4_1 (Mv lv h0_1 (WL.lenSl (sz := 5) (m := l.length) (xs := instCells l) el49 G (hS.ext' hE) G (Bn G G BinR.lss (Ni ?_))))))
 refine WC.cond G (fun hc10 => ?_) (fun hc10 => ?_)
 ·have hi : i < l.length := by have := of_decide_eq_true hc10; omega
  obtain ⟨bl, ol, cl, el, hcl⟩ := hS.at (by omega)
  have hle := codeW_le (l.take i)
  have hle2 : (l.take i).length ≤ l.length := by rw [List.length_take]; omega
  refine WC.skip (Sq (Bk (Sr (Mv lv h0_1 (Mv (IN i) h4_1 (WL.indexAddr (i := i) (b := bl) (o := ol) el49 sz48 (Eq.trans G el) G (by omega) G (WL.loadS [U8 ((l[i]).op), U8 ((l[i]).rd), U8 ((l[i]).rs1), U8 ((l[i]).rs2), I64 ((l[i]).imm)] G ag48 sz48 G (inst_at (hcl.ext hE) hi) G (Ca (encode_spec (l[i]) _ (hG.ext hE)) ?_))))))))
  rintro _ wc18 ⟨rfl, ec18⟩
  have E2 := Mt hE ec18
  refine Me (.tuple #[U32 (encodeR (l[i])).1, IN (encodeR (l[i])).2]) (Et G G (Et G G (Ae (U32 ((encodeR (l[i])).1)) (Ae (IN ((encodeR (l[i])).2)) (Ni (Sr (Me (IN ((encodeR (l[i])).2)) (Bn G G BinR.eql (Ni ?_)))))))))
  refine WC.cond G (fun hc22 => ?_) (fun hc22 => ?_)
  ·have hz : (encodeR (l[i])).2 = 0 := by simpa using hc22
   refine Rg (Mv v h3_1 (Me (U32 ((encodeR (l[i])).1)) (WL.buildSlice (vs := [(0, U32 ((encodeR (l[i])).1))]) G (bls19_25 (((encodeR (l[i])).1).toNat : Int)) G ?_)))
   intro b25 w25 n25
   have E4 := Mt E2 n25.ext
   have O5 := (hO.ext ec18).ext n25.ext
   refine WL.append (k := (codeW (l.take i)).length) (m := 1) (xs := wordCells (codeW (l.take i))) (news := [U32 (encodeR (l[i])).1]) ap23 G G G O5 ((Sl.of1 n25.blk.cells G).src y23 (List.all_eq_true.1 G)) (by omega) (by omega) G ?_
   intro v26 w26 o26 m26 l26
   have o26b : Ux.Own w26 1 v26 ((codeW (l.take (i + 1))).length) (wordCells (codeW (l.take (i + 1)))) := by rw [codeW_take l i hi, if_pos hz, List.length_append]; unfold wordCells; rw [List.map_append]; exact o26
   have F6 : From w.heap.size v26 := LocV.from l26 (Mod.size E4) hF
   have E7 : Ext w w26 := Mod.from E4 m26 hF
   refine Ae v26 (Ni (Rg (Mv (IN i) h4_1 (Bn G G (BinR.succN (by omega)) (Ae (IN (i + 1)) (Ni ?_))))))
   exact ⟨ka - 1, by omega, (i + 1), v26, by omega, h0_1, G, G, E7, o26b, F6⟩
  ·have hz : ¬ (encodeR (l[i])).2 = 0 := by simpa using hc22
   refine WC.skip (Rg (Mv (IN i) h4_1 (Bn G G (BinR.succN (by omega)) (Ae (IN (i + 1)) (Ni ?_)))))
   have O8 := hO.ext ec18
   have hO2 : Ux.Own wc18 1 v (codeW (l.take (i + 1))).length (wordCells (codeW (l.take (i + 1)))) := by rw [codeW_take l i hi, if_neg hz, List.append_nil]; exact O8
   exact ⟨ka - 1, by omega, (i + 1), v, by omega, h0_1, h3_1, G, E2, hO2, hF⟩
 ·have hi2 : l.length ≤ i := by have := of_decide_eq_false hc10; omega
  refine WC.exit (Sr (Mv v h3_1 (Ae v (Ni (WC.ret ?_)))))
  exact ⟨_, Res.one (v := v) rfl rfl, (by have h := hO; rw [show l.take i = l from List.take_of_length_le hi2] at h; exact h), hF, hE⟩
end Go.Proofs.S
end
section
namespace Go.Ux
open Go
def tstOf {α : Type} (K : Value → Option α) (x d n : Nat) : List Oper → Option (Nat × α)
 | [⟨some t, .binOp .eql _ (.tmp x') (.const s) _, _, _, _, none⟩, ⟨some d', .assign (.tmp t'), _, _, _, none⟩] =>
  if x' = x ∧ d' = d ∧ t' = t ∧ t ≠ d ∧ t ≠ x ∧ d ≠ x ∧ t < n ∧ d < n then (K s).map fun a => (t, a) else none
 | _ => none
def orOf {α : Type} (K : Value → Option α) (x d n : Nat) : Code → Option (List α × List Nat)
 | .region _ ops false => (tstOf K x d n ops.toList).map fun p => ([p.2], [p.1])
 | .seq (.region _ ops false) (.cond (.tmp d') .skip rest) => match tstOf K x d n ops.toList, orOf K x d n rest with
  | some p, some q => if d' = d then some (p.2 :: q.1, p.1 :: q.2) else none
  | _, _ => none
 | _ => none
theorem tstOf_eq {α : Type} {K : Value → Option α} {x d n : Nat} {l : List Oper} {p : Nat × α} (h : tstOf K x d n l = some p) : ∃ v ty u ty1 pos1 a1 ty2 pos2 a2, K v = some p.2 ∧ l = [(⟨some p.1, .binOp .eql ty (.tmp x) (.const v) u, ty1, pos1, a1, none⟩ : Oper), ⟨some d, .assign (.tmp p.1), ty2, pos2, a2, none⟩] ∧ p.1 ≠ d ∧ p.1 ≠ x ∧ d ≠ x ∧ p.1 < n ∧ d < n := by
 unfold tstOf at h
 split at h
 ·split at h
  ·rename_i t ty x' s u ty1 pos1 a1 d' t' ty2 pos2 a2 hc
   obtain ⟨rfl, rfl, rfl, h1, h2, h3, h4, h5⟩ := hc
   rcases hk : K s with _ | a
   ·rw [hk] at h; cases h
   ·rw [hk] at h; cases h
    exact ⟨s, ty, u, ty1, pos1, a1, ty2, pos2, a2, hk, G, h1, h2, h3, h4, h5⟩
  ·cases h
 ·cases h
variable {P : Program} {n : Nat} {w : World} {Q : Exit → Fr → World → Prop} {α : Type} {K : Value → Option α} {X : Value} {E : α → Bool}
theorem WC.tst (r : ∀ ty v a, K v = some a → BinR P .eql ty X v (.bool (E a))) {id x d : Nat} {f : Fr} {ops : Array Oper} {p : Nat × α} (h : tstOf K x d n ops.toList = some p) (hx : f x = X) (k : Q .normal (upd (upd f p.1 (.bool (E p.2))) d (.bool (E p.2))) w) : WC P (.region id ops false) n f w Q := by
 obtain ⟨vc, ty, u, ty1, pos1, a1, ty2, pos2, a2, hkv, e, h1, h2, h3, h4, h5⟩ := tstOf_eq h
 obtain rfl : ops = [(⟨some p.1, .binOp .eql ty (.tmp x) (.const vc) u, ty1, pos1, a1, none⟩ : Oper), ⟨some d, .assign (.tmp p.1), ty2, pos2, a2, none⟩].toArray := by rw [← e, Array.toArray_toList]
 exact Rg (WL.bin (v := .bool (E p.2)) hx G (decide_eq_true h4) (r ty vc p.2 hkv) (WL.assign (v := .bool (E p.2)) (upd_same _ _ _) (decide_eq_true h5) (Ni k)))
theorem WC.orN (r : ∀ ty v a, K v = some a → BinR P .eql ty X v (.bool (E a))) {x d : Nat} : ∀ (m : Nat) (c : Code) {f : Fr} {cs : List α} {ts : List Nat}, SizeOf.sizeOf c ≤ m → orOf K x d n c = some (cs, ts) → f x = X →
  (∀ f' : Fr, (∀ j, j ≠ d → ts.contains j = false → f' j = f j) → f' d = .bool (cs.any E) → Q .normal f' w) → WC P c n f w Q
 | 0, c, f, cs, ts, hm, h, hx, k => by cases c <;> simp at hm
 | m + 1, c, f, cs, ts, hm, h, hx, k => by
  unfold orOf at h
  split at h
  ·rename_i id ops
   rcases hp : tstOf K x d n ops.toList with _ | p
   ·rw [hp] at h; cases h
   ·rw [hp] at h; cases h
    refine WC.tst r hp hx (k _ (fun j h1 h2 => ?_) ?_)
    ·have : j ≠ p.1 := by simpa using h2
     rw [upd_other _ _ _ _ h1, upd_other _ _ _ _ this]
    ·rw [upd_same]; simp
  ·rename_i id ops d' rest
   rcases hp : tstOf K x d n ops.toList with _ | p
   ·rw [hp] at h; cases h
   rcases hq : orOf K x d n rest with _ | q
   ·rw [hp, hq] at h; cases h
   rw [hp, hq] at h
   dsimp only at h
   split at h
   ·rename_i hd; subst hd
    cases h
    obtain ⟨vc, ty, u, ty1, pos1, a1, ty2, pos2, a2, hkv, e, h1, h2, h3, h4, h5⟩ := tstOf_eq hp
    refine Sq (WC.tst r hp hx ?_)
    refine WC.cond (t := E p.2) (upd_same _ _ _) (fun ht => WC.skip (k _ (fun j g1 g2 => ?_) ?_)) (fun hf => WC.orN r m rest (by simp at hm; omega) hq ?_ fun f' g1 g2 => k f' (fun j g3 g4 => ?_) ?_)
    ·have : j ≠ p.1 := by intro e; subst e; simp at g2
     rw [upd_other _ _ _ _ g1, upd_other _ _ _ _ this]
    ·rw [upd_same, List.any_cons, ht]; rfl
    ·rw [upd_other _ _ _ _ (Ne.symm h3), upd_other _ _ _ _ (Ne.symm h2)]; exact hx
    ·have g5 : j ≠ p.1 ∧ q.2.contains j = false := by
      rw [List.contains_cons, Bool.or_eq_false_iff] at g4
      exact ⟨by simpa using g4.1, g4.2⟩
     rw [g1 j g3 g5.2, upd_other _ _ _ _ g3, upd_other _ _ _ _ g5.1]
    ·rw [g2, List.any_cons, hf]; rfl
   ·cases h
  ·cases h
def mixF (ts : List Nat) (g f : Fr) : Fr := fun j => if ts.contains j then g j else f j
theorem mix_eq {f f' : Fr} {d : Nat} {ts : List Nat} {v : Value} (h : ∀ j, j ≠ d → ts.contains j = false → f' j = f j) (hd : f' d = v) : f' = upd (mixF ts f' f) d v := by
 funext j
 by_cases e : j = d
 ·subst e; rw [upd_same]; exact hd
 ·rw [upd_other _ _ _ _ e]
  unfold mixF
  rcases ht : ts.contains j with _ | _
  ·rw [if_neg (by decide)]; exact h j e ht
  ·rw [if_pos rfl]
def kStr : Value → Option (List UInt8)
 | .string s => some s.data.toList
 | _ => none
def kU8 : Value → Option (BitVec 8)
 | .int .u8 k => if 0 ≤ k ∧ k < 256 then some (BitVec.ofNat 8 k.toNat) else none
 | _ => none
theorem WC.orS {s : List UInt8} {x d : Nat} {c : Code} {f : Fr} {cs : List (List UInt8)} {ts : List Nat} (h : orOf kStr x d n c = some (cs, ts)) (hx : f x = St s)
  (k : ∀ g : Fr, Q .normal (upd (mixF ts g f) d (.bool (cs.any fun c => s == c))) w) : WC P c n f w Q :=
 WC.orN (K := kStr) (X := St s) (E := fun c => s == c) (fun ty v a hv => by
  cases v <;> try cases hv
  rename_i b
  have : (Value.string b) = St b.data.toList := by cases b; simp [St]
  rw [this]; exact BinR.eqlS) _ c (Nat.le_refl _) h hx fun f' h1 h2 => by rw [mix_eq h1 h2]; exact k f'
theorem WC.orU {s : BitVec 8} {x d : Nat} {c : Code} {f : Fr} {cs : List (BitVec 8)} {ts : List Nat} (h : orOf kU8 x d n c = some (cs, ts)) (hx : f x = U8 s)
  (k : ∀ g : Fr, Q .normal (upd (mixF ts g f) d (.bool (cs.any fun c => s == c))) w) : WC P c n f w Q :=
 WC.orN (K := kU8) (X := U8 s) (E := fun c => s == c) (fun ty v a hv => by
  unfold kU8 at hv
  split at hv
  ·split at hv
   ·rename_i kk hk
    cases hv
    have e : (Value.int .u8 kk) = U8 (BitVec.ofNat 8 kk.toNat) := by
     show _ = Value.int .u8 (((BitVec.ofNat 8 kk.toNat).toNat : Nat) : Int)
     rw [BitVec.toNat_ofNat]; congr 1; omega
    rw [e]; exact BinR.eqlU8
   ·cases hv
  ·cases hv) _ c (Nat.le_refl _) h hx fun f' h1 h2 => by rw [mix_eq h1 h2]; exact k f'
end Go.Ux
end
section
set_option linter.unusedSimpArgs false
set_option linter.unusedVariables false
namespace Go.Proofs.S
open Go Go.Ux Go.Ux.Mach Go.Proofs
def sizeQ (s : List UInt8) : Nat := bif ([[108, 98], [108, 98, 117], [115, 98]].any fun c => s == c) then 1 else bif ([[108, 104], [108, 104, 117], [115, 104]].any fun c => s == c) then 2 else bif ([[108, 119], [108, 119, 117], [115, 119]].any fun c => s == c) then 4 else bif ([[108, 100], [115, 100]].any fun c => s == c) then 8 else 0
theorem size_q (s : List UInt8) (w : World) : Cx 43 #[St s] w (IN (sizeQ s)) := by
 refine Co Tryz.func43 G G ?_
 refine Sr (Ae (IN 0) (Ni (Sq (Sr (Me (St s) (Ni (Bk (Sq ?_))))))))
 refine WC.orS (x := 3) (d := 4) (s := s) (cs := [[108, 98], [108, 98, 117], [115, 98]]) (ts := [5, 6, 7]) (by kernel_rfl) G (fun g1 => ?_)
 refine WC.cond G (fun hc4 => ?_) (fun hc4 => ?_)
 ·refine Sr (Ae (IN 1) (Ni (WC.ret ?_)))
  have hfin : sizeQ s = 1 := by unfold sizeQ; rw [hc4]; try rfl
  exact ⟨_, Ro G G, congrArg IN hfin.symm, Mod.refl _ _⟩
 ·refine Sq ?_
  refine WC.orS (x := 3) (d := 8) (s := s) (cs := [[108, 104], [108, 104, 117], [115, 104]]) (ts := [9, 10, 11]) (by kernel_rfl) G (fun g2 => ?_)
  refine WC.cond G (fun hc8 => ?_) (fun hc8 => ?_)
  ·refine Sr (Ae (IN 2) (Ni (WC.ret ?_)))
   have hfin : sizeQ s = 2 := by unfold sizeQ; rw [hc4, hc8]; try rfl
   exact ⟨_, Ro G G, congrArg IN hfin.symm, Mod.refl _ _⟩
  ·refine Sq ?_
   refine WC.orS (x := 3) (d := 12) (s := s) (cs := [[108, 119], [108, 119, 117], [115, 119]]) (ts := [13, 14, 15]) (by kernel_rfl) G (fun g3 => ?_)
   refine WC.cond G (fun hc12 => ?_) (fun hc12 => ?_)
   ·refine Sr (Ae (IN 4) (Ni (WC.ret ?_)))
    have hfin : sizeQ s = 4 := by unfold sizeQ; rw [hc4, hc8, hc12]; try rfl
    exact ⟨_, Ro G G, congrArg IN hfin.symm, Mod.refl _ _⟩
   ·refine Sq ?_
    refine WC.orS (x := 3) (d := 16) (s := s) (cs := [[108, 100], [115, 100]]) (ts := [17, 18]) (by kernel_rfl) G (fun g4 => ?_)
    refine WC.cond G (fun hc16 => ?_) (fun hc16 => ?_)
    ·refine Sr (Ae (IN 8) (Ni (WC.ret ?_)))
     have hfin : sizeQ s = 8 := by unfold sizeQ; rw [hc4, hc8, hc12, hc16]; try rfl
     exact ⟨_, Ro G G, congrArg IN hfin.symm, Mod.refl _ _⟩
    ·refine WC.skip (Sr (Ae (IN 0) (Ni (WC.ret ?_))))
     have hfin : sizeQ s = 0 := by unfold sizeQ; rw [hc4, hc8, hc12, hc16]; try rfl
     exact ⟨_, Ro G G, congrArg IN hfin.symm, Mod.refl _ _⟩
def hasQ (s : BitVec 8) : Bool × Bool × Bool := bif ([82#8].any fun c => s == c) then (true, true, true) else bif ([73#8, 72#8, 87#8].any fun c => s == c) then (true, true, false) else bif ([83#8, 66#8].any fun c => s == c) then (false, true, true) else bif ([85#8, 74#8].any fun c => s == c) then (true, false, false) else (false, false, false)
theorem has_q (s : BitVec 8) (w : World) : Cx 78 #[U8 s] w (.tuple #[.bool (hasQ s).1, .bool (hasQ s).2.1, .bool (hasQ s).2.2]) := by
 refine Co Tryz.func78 G G ?_
 refine Sr (Ae (.bool false) (Ae (.bool false) (Ae (.bool false) (Ni (Sq (Sr (Me (U8 s) (Ni (Bk (Sq ?_))))))))))
 refine WC.orU (x := 5) (d := 6) (s := s) (cs := [82#8]) (ts := [7]) (by kernel_rfl) G (fun g1 => ?_)
 refine WC.cond G (fun hc6 => ?_) (fun hc6 => ?_)
 ·refine Sr (Ae (.bool true) (Ae (.bool true) (Ae (.bool true) (Ni (WC.ret ?_)))))
  have hfin : hasQ s = (true, true, true) := by unfold hasQ; rw [hc6]; rfl
  exact ⟨_, Res.three G G G G, by rw [hfin]; rfl, Mod.refl _ _⟩
 ·refine Sq ?_
  refine WC.orU (x := 5) (d := 8) (s := s) (cs := [73#8, 72#8, 87#8]) (ts := [9, 10, 11]) (by kernel_rfl) G (fun g2 => ?_)
  refine WC.cond G (fun hc8 => ?_) (fun hc8 => ?_)
  ·refine Sr (Ae (.bool true) (Ae (.bool true) (Ae (.bool false) (Ni (WC.ret ?_)))))
   have hfin : hasQ s = (true, true, false) := by unfold hasQ; rw [hc6, hc8]; rfl
   exact ⟨_, Res.three G G G G, by rw [hfin]; rfl, Mod.refl _ _⟩
  ·refine Sq ?_
   refine WC.orU (x := 5) (d := 12) (s := s) (cs := [83#8, 66#8]) (ts := [13, 14]) (by kernel_rfl) G (fun g3 => ?_)
   refine WC.cond G (fun hc12 => ?_) (fun hc12 => ?_)
   ·refine Sr (Ae (.bool false) (Ae (.bool true) (Ae (.bool true) (Ni (WC.ret ?_)))))
    have hfin : hasQ s = (false, true, true) := by unfold hasQ; rw [hc6, hc8, hc12]; rfl
    exact ⟨_, Res.three G G G G, by rw [hfin]; rfl, Mod.refl _ _⟩
   ·refine Sq ?_
    refine WC.orU (x := 5) (d := 15) (s := s) (cs := [85#8, 74#8]) (ts := [16, 17]) (by kernel_rfl) G (fun g4 => ?_)
    refine WC.cond G (fun hc15 => ?_) (fun hc15 => ?_)
    ·refine Sr (Ae (.bool true) (Ae (.bool false) (Ae (.bool false) (Ni (WC.ret ?_)))))
     have hfin : hasQ s = (true, false, false) := by unfold hasQ; rw [hc6, hc8, hc12, hc15]; rfl
     exact ⟨_, Res.three G G G G, by rw [hfin]; rfl, Mod.refl _ _⟩
    ·refine WC.skip (Sr (Ae (.bool false) (Ae (.bool false) (Ae (.bool false) (Ni (WC.ret ?_))))))
     have hfin : hasQ s = (false, false, false) := by unfold hasQ; rw [hc6, hc8, hc12, hc15]; rfl
     exact ⟨_, Res.three G G G G, by rw [hfin]; rfl, Mod.refl _ _⟩
def fieldQ (x : BitVec 32) (a b : Nat) : BitVec 32 := x >>> a &&& ((1#32 <<< b) - 1#32)
theorem fieldQ_eq (x : BitVec 32) (a b : Nat) : fieldQ x a b = bitsOf (a, b) x := rfl
theorem field_q (x : BitVec 32) (a b : Nat) (w : World) : Cx 79 #[U32 x, IN a, IN b] w (U32 (fieldQ x a b)) := by
 refine Co Tryz.func79 G G ?_
 refine Sr (Ae (U32 0#32) (Ni (Sq (WC.draw (fun w_ => Ext w w_) 8 G mixed ?_))))
 intro wd_1 ed_1
 have R1 : Ext w wd_1 := ed_1
 have E2 : Ext w wd_1 := ed_1
 refine Tm 0 (U32 x) G G R1 (Tm 1 (IN a) G G R1 (Tp 2 (U32 (x >>> a)) G G (Bn G G (BinR.shrU32 (s := a)) Ok) R1 (Tm 3 (IN b) G G R1 (Tp 4 (U32 (1#32 <<< b)) G G (Bn (vx := U32 1#32) G G (BinR.shlU32 (s := b)) Ok) R1 (Tp 5 (U32 ((1#32 <<< b - 1#32))) G G (Bn (vy := U32 1#32) G G BinR.subU32 Ok) R1 (Tp 6 (U32 ((x >>> a &&& (1#32 <<< b - 1#32)))) G G (Bn G G BinR.andU32 Ok) R1 (Tm 7 (U32 ((x >>> a &&& (1#32 <<< b - 1#32)))) G G R1 (WA.done (by kernel_rfl) (WC.ret ?_)))))))))
 exact ⟨_, Ro G G, G, E2⟩
def signedQ (x : BitVec 64) (b : Nat) : BitVec 64 := bif BitVec.sle (1#64 <<< (b - 1)) x then x - 1#64 <<< b else x
theorem signed_q (x : BitVec 64) (b : Nat) (w : World) (h0 : 0 < b) (hb : b ≤ 64) : Cx 98 #[I64 x, IN b] w (I64 (signedQ x b)) := by
 refine Co Tryz.func98 G G ?_
 refine Sr (Ae (I64 0#64) (Ni (Sq (Sr (Me (I64 x) (Me (IN b) (Bn G G (BinR.subN (b := 1) (by omega) (by omega)) (Bn (vx := I64 1#64) G G (BinR.shl64 (s := b - 1)) (Bn G G BinR.geq64 (Ni ?_))))))))))
 refine WC.cond G (fun hc9 => ?_) (fun hc9 => ?_)
 ·refine Sr (Me (I64 x) (Me (IN b) (Bn (vx := I64 1#64) G G (BinR.shl64 (s := b)) (Bn G G BinR.sub64 (Ae (I64 ((x - 1#64 <<< b))) (Ni (WC.ret ?_)))))))
  have hfin : ((I64 ((x - 1#64 <<< b))) : Value) = I64 (signedQ x b) := by unfold signedQ; rw [hc9]; rfl
  exact ⟨_, Ro G G, hfin, Mod.refl _ _⟩
 ·refine WC.skip (Sr (Me (I64 x) (Ae (I64 x) (Ni (WC.ret ?_)))))
  have hfin : ((I64 x) : Value) = I64 (signedQ x b) := by unfold signedQ; rw [hc9]; rfl
  exact ⟨_, Ro G G, hfin, Mod.refl _ _⟩
end Go.Proofs.S
end
section
namespace Go.Ux
open Go
section
variable {P : Program} {t s u : TypeId}
theorem BinR.remU8n {x m : BitVec 8} (h : m ≠ 0#8) : BinR P .rem t (U8 x) (U8 m) (U8 (x % m)) := by
 have hm : (m.toNat : Int) ≠ 0 := fun e => h (BitVec.eq_of_toNat_eq (by simpa using e))
 have h := BinR.remK (P := P) (t := t) (k := .u8) (a := (x.toNat : Int)) (b := (m.toNat : Int)) (by omega) hm
 have e : (U8 (x % m) : Value) = .int .u8 ((x.toNat : Int) % (m.toNat : Int)) := by
  show Value.int .u8 (((x % m).toNat : Nat) : Int) = _
  rw [BitVec.toNat_umod]; rfl
 rw [e]; exact h
theorem BinR.quoN {a b : Nat} (hb : 0 < b) (ha : a ≤ 9223372036854775807) : BinR P .quo t (IN a) (IN b) (IN (a / b)) := by
 have := BinR.quoI (P := P) (t := t) (a := (a : Int)) (b := (b : Int)) (by omega) (by omega) (by omega)
 show BinR P .quo t (.int .i64 (a : Int)) (.int .i64 (b : Int)) (.int .i64 ((a / b : Nat) : Int))
 rw [Int.natCast_ediv]; exact this
theorem wrap_i32_bv (n : Int) : IntKind.i32.wrap n = (BitVec.ofInt 32 n).toInt := by
 rw [BitVec.toInt_ofInt]
 simp only [IntKind.wrap, IntKind.bits, IntKind.signed, Int.bmod]
 simp
 split <;> split <;> omega
variable {td : TypeDesc} (h1 : P.underlying s = some td)
include h1
theorem ConvR.u32i32 (h2 : P.underlying u = some (.int .i32)) {x : BitVec 32} : ConvR P s u (U32 x) (.int .i32 x.toInt) := by
 have h := ConvR.int (P := P) (k := .u32) (a := x.toNat) h1 h2
 rwa [wrap_i32_bv, ofInt_toNat_id] at h
theorem ConvR.i64i32 (h2 : P.underlying u = some (.int .i32)) {x : BitVec 64} : ConvR P s u (I64 x) (.int .i32 (x.setWidth 32).toInt) := by
 have h := ConvR.int (P := P) (k := .i64) (a := x.toInt) h1 h2
 rw [wrap_i32_bv] at h
 have e : BitVec.ofInt 32 x.toInt = x.setWidth 32 := by
  apply BitVec.eq_of_toNat_eq
  rw [BitVec.toNat_ofInt, BitVec.toNat_setWidth, BitVec.toInt_eq_toNat_cond]
  have := x.isLt
  split <;> omega
 rwa [e] at h
theorem ConvR.i32i64 (h2 : P.underlying u = some (.int .i64)) {x : BitVec 32} : ConvR P s u (.int .i32 x.toInt) (I64 (x.signExtend 64)) := by
 have hx : -2147483648 ≤ x.toInt ∧ x.toInt ≤ 2147483647 := by
  have := x.isLt
  rw [BitVec.toInt_eq_toNat_cond]; split <;> omega
 have h := ConvR.toI (P := P) (k := .i32) (a := x.toInt) h1 h2 (by omega)
 have e : I64 (x.signExtend 64) = Value.int .i64 x.toInt := congrArg (Value.int .i64) (BitVec.toInt_signExtend_of_le (by decide))
 rw [e]; exact h
theorem ConvR.u64u32 (h2 : P.underlying u = some (.int .u32)) {x : BitVec 64} : ConvR P s u (U64 x) (U32 (x.setWidth 32)) := by
 have h := ConvR.int (P := P) (k := .u64) (a := x.toNat) h1 h2
 rw [wrap_u32_bv] at h
 have e : BitVec.ofInt 32 (x.toNat : Int) = x.setWidth 32 := by
  apply BitVec.eq_of_toNat_eq
  rw [BitVec.toNat_ofInt, BitVec.toNat_setWidth]; omega
 rwa [e] at h
end
end Go.Ux
end
section
set_option linter.unusedSimpArgs false
set_option linter.unusedVariables false
namespace Go.Proofs.S
open Go Go.Ux Go.Ux.Mach Go.Proofs
open Tryz
theorem fo163_0 : fieldOff prog 163 0 = some 0 := by kernel_rfl
theorem fo163_2 : fieldOff prog 163 2 = some 2 := by kernel_rfl
theorem fo163_1 : fieldOff prog 163 1 = some 1 := by kernel_rfl
theorem ag9 : isAggT prog 9 = some false := by kernel_rfl
theorem fo163_3 : fieldOff prog 163 3 = some 3 := by kernel_rfl
theorem fo163_4 : fieldOff prog 163 4 = some 4 := by kernel_rfl
def numberQ (x : BitVec 32) (s : BitVec 8) : BitVec 64 := bif ([73#8].any fun c => s == c) then (signedQ ((fieldQ (x) 20 12).setWidth 64) 12) else bif ([72#8].any fun c => s == c) then (fieldQ (x) 20 6).setWidth 64 else bif ([87#8].any fun c => s == c) then (fieldQ (x) 20 5).setWidth 64 else bif ([83#8].any fun c => s == c) then (signedQ (((fieldQ (x) 25 7) <<< 5 ||| (fieldQ (x) 7 5)).setWidth 64) 12) else bif ([66#8].any fun c => s == c) then (signedQ (((fieldQ (x) 31 1) <<< 12 ||| (fieldQ (x) 7 1) <<< 11 ||| (fieldQ (x) 25 6) <<< 5 ||| (fieldQ (x) 8 4) <<< 1).setWidth 64) 13) else bif ([85#8].any fun c => s == c) then (signedQ (((fieldQ (x) 12 20).setWidth 64) <<< 12) 32) else bif ([74#8].any fun c => s == c) then (signedQ (((fieldQ (x) 31 1) <<< 20 ||| (fieldQ (x) 12 8) <<< 12 ||| (fieldQ (x) 20 1) <<< 11 ||| (fieldQ (x) 21 10) <<< 1).setWidth 64) 21) else 0#64
theorem number_q (x : BitVec 32) (s : BitVec 8) (w : World) : Cx 77 #[U32 x, U8 s] w (I64 (numberQ x s)) := by
 refine Co func77 G G ?_
 refine Sr (Ae (I64 0#64) (Ni (Sq (Sr (Me (U8 s) (Ni (Bk (Sq ?_))))))))
 refine WC.orU (x := 5) (d := 6) (s := s) (cs := [73#8]) (ts := [7]) (by kernel_rfl) G (fun g1 => ?_)
 refine WC.cond G (fun hc6 => ?_) (fun hc6 => ?_)
 ·refine Sr (Me (U32 x) (Ca (field_q x 20 12 _) ?_))
  rintro _ wc9 ⟨rfl, ec9⟩
  have E2 : Ext w wc9 := ec9
  refine Cv G (ConvR.u32i64 y50 y2) (Ca (signed_q ((fieldQ x 20 12).setWidth 64) 12 _ (by decide) (by decide)) ?_)
  rintro _ wc11 ⟨rfl, ec11⟩
  have E3 := Mt E2 ec11
  refine Ae (I64 ((signedQ ((fieldQ x 20 12).setWidth 64) 12))) (Ni (WC.ret ?_))
  have hfin : numberQ x s = (signedQ ((fieldQ x 20 12).setWidth 64) 12) := by unfold numberQ; rw [hc6]; try rfl
  exact ⟨_, Ro G G, congrArg I64 hfin.symm, E3⟩
 ·refine Sq ?_
  refine WC.orU (x := 5) (d := 12) (s := s) (cs := [72#8]) (ts := [13]) (by kernel_rfl) G (fun g4 => ?_)
  refine WC.cond G (fun hc12 => ?_) (fun hc12 => ?_)
  ·refine Sr (Me (U32 x) (Ca (field_q x 20 6 _) ?_))
   rintro _ wc15 ⟨rfl, ec15⟩
   have E5 : Ext w wc15 := ec15
   refine Cv G (ConvR.u32i64 y50 y2) (Ae (I64 ((fieldQ x 20 6).setWidth 64)) (Ni (WC.ret ?_)))
   have hfin : numberQ x s = (fieldQ x 20 6).setWidth 64 := by unfold numberQ; rw [hc6, hc12]; try rfl
   exact ⟨_, Ro G G, congrArg I64 hfin.symm, E5⟩
  ·refine Sq ?_
   refine WC.orU (x := 5) (d := 17) (s := s) (cs := [87#8]) (ts := [18]) (by kernel_rfl) G (fun g6 => ?_)
   refine WC.cond G (fun hc17 => ?_) (fun hc17 => ?_)
   ·refine Sr (Me (U32 x) (Ca (field_q x 20 5 _) ?_))
    rintro _ wc20 ⟨rfl, ec20⟩
    have E7 : Ext w wc20 := ec20
    refine Cv G (ConvR.u32i64 y50 y2) (Ae (I64 ((fieldQ x 20 5).setWidth 64)) (Ni (WC.ret ?_)))
    have hfin : numberQ x s = (fieldQ x 20 5).setWidth 64 := by unfold numberQ; rw [hc6, hc12, hc17]; try rfl
    exact ⟨_, Ro G G, congrArg I64 hfin.symm, E7⟩
   ·refine Sq ?_
    refine WC.orU (x := 5) (d := 22) (s := s) (cs := [83#8]) (ts := [23]) (by kernel_rfl) G (fun g8 => ?_)
    refine WC.cond G (fun hc22 => ?_) (fun hc22 => ?_)
    ·refine Sr (Me (U32 x) (Ca (field_q x 25 7 _) ?_))
     rintro _ wc25 ⟨rfl, ec25⟩
     have E9 : Ext w wc25 := ec25
     refine Bn (vy := .int .u64 ((5 : Nat) : Int)) G G BinR.shlU32 (Me (U32 x) (Ca (field_q x 7 5 _) ?_))
     rintro _ wc28 ⟨rfl, ec28⟩
     have E10 := Mt E9 ec28
     refine Bn G G BinR.orU32 (Cv G (ConvR.u32i64 y50 y2) (Ca (signed_q (((((fieldQ x 25 7) <<< 5) ||| (fieldQ x 7 5))).setWidth 64) 12 _ (by decide) (by decide)) ?_))
     rintro _ wc31 ⟨rfl, ec31⟩
     have E11 := Mt E10 ec31
     refine Ae (I64 ((signedQ (((((fieldQ x 25 7) <<< 5) ||| (fieldQ x 7 5))).setWidth 64) 12))) (Ni (WC.ret ?_))
     have hfin : numberQ x s = (signedQ (((((fieldQ x 25 7) <<< 5) ||| (fieldQ x 7 5))).setWidth 64) 12) := by unfold numberQ; rw [hc6, hc12, hc17, hc22]; try rfl
     exact ⟨_, Ro G G, congrArg I64 hfin.symm, E11⟩
    ·refine Sq ?_
     refine WC.orU (x := 5) (d := 32) (s := s) (cs := [66#8]) (ts := [33]) (by kernel_rfl) G (fun g12 => ?_)
     refine WC.cond G (fun hc32 => ?_) (fun hc32 => ?_)
     ·refine Sr (Me (U32 x) (Ca (field_q x 31 1 _) ?_))
      rintro _ wc35 ⟨rfl, ec35⟩
      have E13 : Ext w wc35 := ec35
      refine Bn (vy := .int .u64 ((12 : Nat) : Int)) G G BinR.shlU32 (Me (U32 x) (Ca (field_q x 7 1 _) ?_))
      rintro _ wc38 ⟨rfl, ec38⟩
      have E14 := Mt E13 ec38
      refine Bn (vy := .int .u64 ((11 : Nat) : Int)) G G BinR.shlU32 (Bn G G BinR.orU32 (Me (U32 x) (Ca (field_q x 25 6 _) ?_)))
      rintro _ wc42 ⟨rfl, ec42⟩
      have E15 := Mt E14 ec42
      refine Bn (vy := .int .u64 ((5 : Nat) : Int)) G G BinR.shlU32 (Bn G G BinR.orU32 (Me (U32 x) (Ca (field_q x 8 4 _) ?_)))
      rintro _ wc46 ⟨rfl, ec46⟩
      have E16 := Mt E15 ec46
      refine Bn (vy := .int .u64 ((1 : Nat) : Int)) G G BinR.shlU32 (Bn G G BinR.orU32 (Cv G (ConvR.u32i64 y50 y2) (Ca (signed_q (((((((fieldQ x 31 1) <<< 12) ||| ((fieldQ x 7 1) <<< 11)) ||| ((fieldQ x 25 6) <<< 5)) ||| ((fieldQ x 8 4) <<< 1))).setWidth 64) 13 _ (by decide) (by decide)) ?_)))
      rintro _ wc50 ⟨rfl, ec50⟩
      have E17 := Mt E16 ec50
      refine Ae (I64 ((signedQ (((((((fieldQ x 31 1) <<< 12) ||| ((fieldQ x 7 1) <<< 11)) ||| ((fieldQ x 25 6) <<< 5)) ||| ((fieldQ x 8 4) <<< 1))).setWidth 64) 13))) (Ni (WC.ret ?_))
      have hfin : numberQ x s = (signedQ (((((((fieldQ x 31 1) <<< 12) ||| ((fieldQ x 7 1) <<< 11)) ||| ((fieldQ x 25 6) <<< 5)) ||| ((fieldQ x 8 4) <<< 1))).setWidth 64) 13) := by unfold numberQ; rw [hc6, hc12, hc17, hc22, hc32]; try rfl
      exact ⟨_, Ro G G, congrArg I64 hfin.symm, E17⟩
     ·refine Sq ?_
      refine WC.orU (x := 5) (d := 51) (s := s) (cs := [85#8]) (ts := [52]) (by kernel_rfl) G (fun g18 => ?_)
      refine WC.cond G (fun hc51 => ?_) (fun hc51 => ?_)
      ·refine Sr (Me (U32 x) (Ca (field_q x 12 20 _) ?_))
       rintro _ wc54 ⟨rfl, ec54⟩
       have E19 : Ext w wc54 := ec54
       refine Cv G (ConvR.u32i64 y50 y2) (Bn (vy := .int .u64 ((12 : Nat) : Int)) G G BinR.shl64 (Ca (signed_q (((fieldQ x 12 20).setWidth 64 <<< 12)) 32 _ (by decide) (by decide)) ?_))
       rintro _ wc57 ⟨rfl, ec57⟩
       have E20 := Mt E19 ec57
       refine Ae (I64 ((signedQ (((fieldQ x 12 20).setWidth 64 <<< 12)) 32))) (Ni (WC.ret ?_))
       have hfin : numberQ x s = (signedQ (((fieldQ x 12 20).setWidth 64 <<< 12)) 32) := by unfold numberQ; rw [hc6, hc12, hc17, hc22, hc32, hc51]; try rfl
       exact ⟨_, Ro G G, congrArg I64 hfin.symm, E20⟩
      ·refine Sq ?_
       refine WC.orU (x := 5) (d := 58) (s := s) (cs := [74#8]) (ts := [59]) (by kernel_rfl) G (fun g21 => ?_)
       refine WC.cond G (fun hc58 => ?_) (fun hc58 => ?_)
       ·refine Sr (Me (U32 x) (Ca (field_q x 31 1 _) ?_))
        rintro _ wc61 ⟨rfl, ec61⟩
        have E22 : Ext w wc61 := ec61
        refine Bn (vy := .int .u64 ((20 : Nat) : Int)) G G BinR.shlU32 (Me (U32 x) (Ca (field_q x 12 8 _) ?_))
        rintro _ wc64 ⟨rfl, ec64⟩
        have E23 := Mt E22 ec64
        refine Bn (vy := .int .u64 ((12 : Nat) : Int)) G G BinR.shlU32 (Bn G G BinR.orU32 (Me (U32 x) (Ca (field_q x 20 1 _) ?_)))
        rintro _ wc68 ⟨rfl, ec68⟩
        have E24 := Mt E23 ec68
        refine Bn (vy := .int .u64 ((11 : Nat) : Int)) G G BinR.shlU32 (Bn G G BinR.orU32 (Me (U32 x) (Ca (field_q x 21 10 _) ?_)))
        rintro _ wc72 ⟨rfl, ec72⟩
        have E25 := Mt E24 ec72
        refine Bn (vy := .int .u64 ((1 : Nat) : Int)) G G BinR.shlU32 (Bn G G BinR.orU32 (Cv G (ConvR.u32i64 y50 y2) (Ca (signed_q (((((((fieldQ x 31 1) <<< 20) ||| ((fieldQ x 12 8) <<< 12)) ||| ((fieldQ x 20 1) <<< 11)) ||| ((fieldQ x 21 10) <<< 1))).setWidth 64) 21 _ (by decide) (by decide)) ?_)))
        rintro _ wc76 ⟨rfl, ec76⟩
        have E26 := Mt E25 ec76
        refine Ae (I64 ((signedQ (((((((fieldQ x 31 1) <<< 20) ||| ((fieldQ x 12 8) <<< 12)) ||| ((fieldQ x 20 1) <<< 11)) ||| ((fieldQ x 21 10) <<< 1))).setWidth 64) 21))) (Ni (WC.ret ?_))
        have hfin : numberQ x s = (signedQ (((((((fieldQ x 31 1) <<< 20) ||| ((fieldQ x 12 8) <<< 12)) ||| ((fieldQ x 20 1) <<< 11)) ||| ((fieldQ x 21 10) <<< 1))).setWidth 64) 21) := by unfold numberQ; rw [hc6, hc12, hc17, hc22, hc32, hc51, hc58]; try rfl
        exact ⟨_, Ro G G, congrArg I64 hfin.symm, E26⟩
       ·refine WC.skip (Sr (Ae (I64 0#64) (Ni (WC.ret ?_))))
        have hfin : numberQ x s = 0#64 := by unfold numberQ; rw [hc6, hc12, hc17, hc22, hc32, hc51, hc58]; try rfl
        exact ⟨_, Ro G G, congrArg I64 hfin.symm, Mod.refl _ _⟩
def isQ (x : BitVec 32) (s : BitVec 8) (nm : List UInt8) (c f3 f7 : BitVec 32) : Bool := bif ([69#8].any fun c => s == c) then ((x == c && nm == [101, 99, 97, 108, 108]) || (x == 1048691#32 && nm == [101, 98, 114, 101, 97, 107])) else bif ([85#8, 74#8].any fun c => s == c) then ((fieldQ (x) 0 7) == c) else bif ([72#8].any fun c => s == c) then (((fieldQ (x) 0 7) == c && (fieldQ (x) 12 3) == f3) && (fieldQ (x) 26 6) == f7 >>> 1) else bif ([82#8, 87#8].any fun c => s == c) then (((fieldQ (x) 0 7) == c && (fieldQ (x) 12 3) == f3) && (fieldQ (x) 25 7) == f7) else ((fieldQ (x) 0 7) == c && (fieldQ (x) 12 3) == f3)
theorem is_q (x : BitVec 32) (s : BitVec 8) (nm : List UInt8) (c f3 f7 : BitVec 32) (w : World) : Cx 76 #[U32 x, .agg #[U8 s, St nm, U32 c, U32 f3, U32 f7]] w (.bool (isQ x s nm c f3 f7)) := by
 refine Co func76 G G ?_
 refine Sr (WL.box (v := .agg #[U8 s, St nm, U32 c, U32 f3, U32 f7]) G G ?_)
 intro b3 w3 n3
 have E1 : Ext w w3 := n3.ext
 refine Ae (.bool false) (Ni (Sq (Sr (Fa G fo163_0 (Le (n3.blk.cell (j := 0) G) (Ni (Bk (Sq ?_))))))))
 refine WC.orU (x := 6) (d := 7) (s := s) (cs := [69#8]) (ts := [8]) (by kernel_rfl) G (fun g2 => ?_)
 refine WC.cond G (fun hc7 => ?_) (fun hc7 => ?_)
 ·refine Sr (Me (U32 x) (Fa G fo163_2 (Le (n3.blk.cell (j := 2) G) (Bn G G BinR.eqlU32 (Me (.bool ((x == c))) ?_)))))
  rcases Bool.eq_false_or_eq_true ((x == c)) with hg13 | hg13
  ·refine Gy hg13 (Fa G fo163_1 (Gy hg13 (Le (n3.blk.cell (j := 1) G) (Gy hg13 (Bn (vy := St [101, 99, 97, 108, 108]) G G BinR.eqlS (Qt hg13 G (Me (.bool ((nm == [101, 99, 97, 108, 108]))) ?_)))))))
   rcases Bool.eq_false_or_eq_true ((nm == [101, 99, 97, 108, 108])) with hg18 | hg18
   ·refine Gz hg18 (Gz hg18 (Gz hg18 (WL.guardU G G (WL.guardU G G (WL.guardU G G (Gz hg18 (Qt hg18 G (Ae (.bool true) (Ni (WC.ret ?_))))))))))
    have hfin : isQ x s nm c f3 f7 = true := by unfold isQ; rw [hc7]; simp only [*, cond_true, cond_false, Bool.true_or, Bool.or_true, Bool.false_or, Bool.or_false, Bool.true_and, Bool.and_true, Bool.false_and, Bool.and_false]
    exact ⟨_, Ro G G, congrArg Value.bool hfin.symm, E1⟩
   ·refine Gy hg18 (Me (U32 x) (Gy hg18 (Bn (vy := U32 1048691#32) G G BinR.eqlU32 (Gy hg18 (Me (.bool ((x == 1048691#32))) ?_)))))
    rcases Bool.eq_false_or_eq_true ((x == 1048691#32)) with hg21 | hg21
    ·refine Gy hg21 (Fa G fo163_1 (Gy hg21 (Le (n3.blk.cell (j := 1) G) (Gy hg21 (Bn (vy := St [101, 98, 114, 101, 97, 107]) G G BinR.eqlS (Gy hg18 (Qt hg21 G (Qf hg18 G (Ae (.bool ((nm == [101, 98, 114, 101, 97, 107]))) (Ni (WC.ret ?_)))))))))))
     have hfin : isQ x s nm c f3 f7 = (nm == [101, 98, 114, 101, 97, 107]) := by unfold isQ; rw [hc7]; simp only [*, cond_true, cond_false, Bool.true_or, Bool.or_true, Bool.false_or, Bool.or_false, Bool.true_and, Bool.and_true, Bool.false_and, Bool.and_false]
     exact ⟨_, Ro G G, congrArg Value.bool hfin.symm, E1⟩
    ·refine Gz hg21 (Gz hg21 (Gz hg21 (Gy hg18 (Qf hg21 G (Qf hg18 G (Ae (.bool false) (Ni (WC.ret ?_))))))))
     have hfin : isQ x s nm c f3 f7 = false := by unfold isQ; rw [hc7]; simp only [*, cond_true, cond_false, Bool.true_or, Bool.or_true, Bool.false_or, Bool.or_false, Bool.true_and, Bool.and_true, Bool.false_and, Bool.and_false]
     exact ⟨_, Ro G G, congrArg Value.bool hfin.symm, E1⟩
  ·refine Gz hg13 (Gz hg13 (Gz hg13 (Qf hg13 G (Me (.bool false) (Gr (Me (U32 x) (Gr (Bn (vy := U32 1048691#32) G G BinR.eqlU32 (Gr (Me (.bool ((x == 1048691#32))) ?_))))))))))
   rcases Bool.eq_false_or_eq_true ((x == 1048691#32)) with hg21 | hg21
   ·refine Gy hg21 (Fa G fo163_1 (Gy hg21 (Le (n3.blk.cell (j := 1) G) (Gy hg21 (Bn (vy := St [101, 98, 114, 101, 97, 107]) G G BinR.eqlS (Gr (Qt hg21 G (Pf G (Ae (.bool ((nm == [101, 98, 114, 101, 97, 107]))) (Ni (WC.ret ?_)))))))))))
    have hfin : isQ x s nm c f3 f7 = (nm == [101, 98, 114, 101, 97, 107]) := by unfold isQ; rw [hc7]; simp only [*, cond_true, cond_false, Bool.true_or, Bool.or_true, Bool.false_or, Bool.or_false, Bool.true_and, Bool.and_true, Bool.false_and, Bool.and_false]
    exact ⟨_, Ro G G, congrArg Value.bool hfin.symm, E1⟩
   ·refine Gz hg21 (Gz hg21 (Gz hg21 (Gr (Qf hg21 G (Pf G (Ae (.bool false) (Ni (WC.ret ?_))))))))
    have hfin : isQ x s nm c f3 f7 = false := by unfold isQ; rw [hc7]; simp only [*, cond_true, cond_false, Bool.true_or, Bool.or_true, Bool.false_or, Bool.or_false, Bool.true_and, Bool.and_true, Bool.false_and, Bool.and_false]
    exact ⟨_, Ro G G, congrArg Value.bool hfin.symm, E1⟩
 ·refine Sq ?_
  refine WC.orU (x := 6) (d := 27) (s := s) (cs := [85#8, 74#8]) (ts := [28, 29]) (by kernel_rfl) G (fun g3 => ?_)
  refine WC.cond G (fun hc27 => ?_) (fun hc27 => ?_)
  ·refine Sq (WC.draw (fun w_ => Ext w3 w_) 6 G mixed ?_)
   intro wd_6 ed_6
   have R4 : Ext w3 wd_6 := ed_6
   have E5 := Mt E1 ed_6
   refine Tm 0 (U32 x) G G R4 (Tp 2 (ptr b3 2) G G (Fa G fo163_2 Ok) R4 (Tk 3 (U32 c) G G (fun _ hS => Le ((n3.blk.ext hS).cell (j := 2) G) Ok) R4 (WA.one (i := 1) (m' := 15) (by kernel_rfl) G G (Ca (field_q x 0 7 _) ?_))))
   rintro _ wc31 ⟨rfl, ec31⟩
   have R10 := Mt R4 ec31
   have E11 := Mt E5 ec31
   refine WL.behind R10 (Tp 4 (.bool (((fieldQ x 0 7) == c))) G G (Bn G G BinR.eqlU32 Ok) R10 (Tm 5 (.bool (((fieldQ x 0 7) == c))) G G R10 (WA.done (by kernel_rfl) (WC.ret ?_))))
   have hfin : isQ x s nm c f3 f7 = ((fieldQ x 0 7) == c) := by unfold isQ; rw [hc7, hc27]; simp only [*, cond_true, cond_false, Bool.true_or, Bool.or_true, Bool.false_or, Bool.or_false, Bool.true_and, Bool.and_true, Bool.false_and, Bool.and_false]
   exact ⟨_, Ro G G, congrArg Value.bool hfin.symm, E11⟩
  ·refine Sq ?_
   refine WC.orU (x := 6) (d := 35) (s := s) (cs := [72#8]) (ts := [36]) (by kernel_rfl) G (fun g14 => ?_)
   refine WC.cond G (fun hc35 => ?_) (fun hc35 => ?_)
   ·refine Sq (WC.draw (fun w_ => Ext w3 w_) 21 G mixed ?_)
    intro wd_8 ed_8
    have R15 : Ext w3 wd_8 := ed_8
    have E16 := Mt E1 ed_8
    refine Tm 0 (U32 x) G G R15 (Tp 2 (ptr b3 2) G G (Fa G fo163_2 Ok) R15 (Tk 3 (U32 c) G G (fun _ hS => Le ((n3.blk.ext hS).cell (j := 2) G) Ok) R15 (WA.one (i := 1) (m' := 15) (by kernel_rfl) G G (Ca (field_q x 0 7 _) ?_))))
    rintro _ wc38 ⟨rfl, ec38⟩
    have R21 := Mt R15 ec38
    have E22 := Mt E16 ec38
    refine WL.behind R21 (Tp 4 (.bool (((fieldQ x 0 7) == c))) G G (Bn G G BinR.eqlU32 Ok) R21 (Tm 5 (.bool (((fieldQ x 0 7) == c))) G G R21 ?_))
    rcases Bool.eq_false_or_eq_true (((fieldQ x 0 7) == c)) with hd8_42 | hd8_42
    ·refine Tp 6 (U32 x) G G (Gy hd8_42 (Me _ Ok)) R21 (Tp 8 (ptr b3 3) G G (Gy hd8_42 (Fa G fo163_3 Ok)) R21 (Tk 9 (U32 f3) G G (fun _ hS => Gy hd8_42 (Le ((n3.blk.ext hS).cell (j := 3) G) Ok)) R21 (WA.one (i := 7) (m' := 1023) (by kernel_rfl) G G (Gy hd8_42 (Ca (field_q x 12 3 _) ?_)))))
     rintro _ wc44 ⟨rfl, ec44⟩
     have R29 := Mt R21 ec44
     have E30 := Mt E22 ec44
     refine WL.behind R29 (Tp 10 (.bool (((fieldQ x 12 3) == f3))) G G (Gy hd8_42 (Bn G G BinR.eqlU32 Ok)) R29 (Tp 11 (.bool (((fieldQ x 12 3) == f3))) G G (Qt hd8_42 G Ok) R29 (Tm 12 (.bool (((fieldQ x 12 3) == f3))) G G R29 ?_)))
     rcases Bool.eq_false_or_eq_true (((fieldQ x 12 3) == f3)) with hd8_49 | hd8_49
     ·refine Tp 13 (U32 x) G G (Gy hd8_49 (Me _ Ok)) R29 (Tp 15 (ptr b3 4) G G (Gy hd8_49 (Fa G fo163_4 Ok)) R29 (Tk 16 (U32 f7) G G (fun _ hS => Gy hd8_49 (Le ((n3.blk.ext hS).cell (j := 4) G) Ok)) R29 (Tp 17 (U32 ((f7 >>> 1))) G G (Gy hd8_49 (Bn (vy := .int .u64 ((1 : Nat) : Int)) G G BinR.shrU32 Ok)) R29 (WA.one (i := 14) (m' := 262143) (by kernel_rfl) G G (Gy hd8_49 (Ca (field_q x 26 6 _) ?_))))))
      rintro _ wc51 ⟨rfl, ec51⟩
      have R39 := Mt R29 ec51
      have E40 := Mt E30 ec51
      refine WL.behind R39 (Tp 18 (.bool (((fieldQ x 26 6) == (f7 >>> 1)))) G G (Gy hd8_49 (Bn G G BinR.eqlU32 Ok)) R39 (Tp 19 (.bool (((fieldQ x 26 6) == (f7 >>> 1)))) G G (Qt hd8_49 G Ok) R39 (Tm 20 (.bool (((fieldQ x 26 6) == (f7 >>> 1)))) G G R39 (WA.done (by kernel_rfl) (WC.ret ?_)))))
      have hfin : isQ x s nm c f3 f7 = ((fieldQ x 26 6) == (f7 >>> 1)) := by unfold isQ; rw [hc7, hc27, hc35]; simp only [*, cond_true, cond_false, Bool.true_or, Bool.or_true, Bool.false_or, Bool.or_false, Bool.true_and, Bool.and_true, Bool.false_and, Bool.and_false]
      exact ⟨_, Ro G G, congrArg Value.bool hfin.symm, E40⟩
     ·refine To 13 (some false) G G G (Yb G G hd8_49) R29 (To 14 (some false) G G G (Yb G G hd8_49) R29 (To 15 (some false) G G G (Yb G G hd8_49) R29 (To 16 (some false) G G G (Yb G G hd8_49) R29 (To 17 (some false) G G G (Yb G G hd8_49) R29 (To 18 (some false) G G G (Yb G G hd8_49) R29 (Tp 19 (.bool false) G G (Qf hd8_49 G Ok) R29 (Tm 20 (.bool false) G G R29 (WA.done (by kernel_rfl) (WC.ret ?_)))))))))
      have hfin : isQ x s nm c f3 f7 = false := by unfold isQ; rw [hc7, hc27, hc35]; simp only [*, cond_true, cond_false, Bool.true_or, Bool.or_true, Bool.false_or, Bool.or_false, Bool.true_and, Bool.and_true, Bool.false_and, Bool.and_false]
      exact ⟨_, Ro G G, congrArg Value.bool hfin.symm, E30⟩
    ·refine To 6 (some false) G G G (Yb G G hd8_42) R21 (To 7 (some false) G G G (Yb G G hd8_42) R21 (To 8 (some false) G G G (Yb G G hd8_42) R21 (To 9 (some false) G G G (Yb G G hd8_42) R21 (To 10 (some false) G G G (Yb G G hd8_42) R21 (Tp 11 (.bool false) G G (Qf hd8_42 G Ok) R21 (Tm 12 (.bool false) G G R21 (To 13 (some false) G G G G R21 (To 14 (some false) G G G G R21 (To 15 (some false) G G G G R21 (To 16 (some false) G G G G R21 (To 17 (some false) G G G G R21 (To 18 (some false) G G G G R21 (Tp 19 (.bool false) G G (Pf G Ok) R21 (Tm 20 (.bool false) G G R21 (WA.done (by kernel_rfl) (WC.ret ?_))))))))))))))))
     have hfin : isQ x s nm c f3 f7 = false := by unfold isQ; rw [hc7, hc27, hc35]; simp only [*, cond_true, cond_false, Bool.true_or, Bool.or_true, Bool.false_or, Bool.or_false, Bool.true_and, Bool.and_true, Bool.false_and, Bool.and_false]
     exact ⟨_, Ro G G, congrArg Value.bool hfin.symm, E22⟩
   ·refine Sq ?_
    refine WC.orU (x := 6) (d := 57) (s := s) (cs := [82#8, 87#8]) (ts := [58, 59]) (by kernel_rfl) G (fun g50 => ?_)
    refine WC.cond G (fun hc57 => ?_) (fun hc57 => ?_)
    ·refine Sq (WC.draw (fun w_ => Ext w3 w_) 20 G mixed ?_)
     intro wd_11 ed_11
     have R51 : Ext w3 wd_11 := ed_11
     have E52 := Mt E1 ed_11
     refine Tm 0 (U32 x) G G R51 (Tp 2 (ptr b3 2) G G (Fa G fo163_2 Ok) R51 (Tk 3 (U32 c) G G (fun _ hS => Le ((n3.blk.ext hS).cell (j := 2) G) Ok) R51 (WA.one (i := 1) (m' := 15) (by kernel_rfl) G G (Ca (field_q x 0 7 _) ?_))))
     rintro _ wc61 ⟨rfl, ec61⟩
     have R57 := Mt R51 ec61
     have E58 := Mt E52 ec61
     refine WL.behind R57 (Tp 4 (.bool (((fieldQ x 0 7) == c))) G G (Bn G G BinR.eqlU32 Ok) R57 (Tm 5 (.bool (((fieldQ x 0 7) == c))) G G R57 ?_))
     rcases Bool.eq_false_or_eq_true (((fieldQ x 0 7) == c)) with hd11_65 | hd11_65
     ·refine Tp 6 (U32 x) G G (Gy hd11_65 (Me _ Ok)) R57 (Tp 8 (ptr b3 3) G G (Gy hd11_65 (Fa G fo163_3 Ok)) R57 (Tk 9 (U32 f3) G G (fun _ hS => Gy hd11_65 (Le ((n3.blk.ext hS).cell (j := 3) G) Ok)) R57 (WA.one (i := 7) (m' := 1023) (by kernel_rfl) G G (Gy hd11_65 (Ca (field_q x 12 3 _) ?_)))))
      rintro _ wc67 ⟨rfl, ec67⟩
      have R65 := Mt R57 ec67
      have E66 := Mt E58 ec67
      refine WL.behind R65 (Tp 10 (.bool (((fieldQ x 12 3) == f3))) G G (Gy hd11_65 (Bn G G BinR.eqlU32 Ok)) R65 (Tp 11 (.bool (((fieldQ x 12 3) == f3))) G G (Qt hd11_65 G Ok) R65 (Tm 12 (.bool (((fieldQ x 12 3) == f3))) G G R65 ?_)))
      rcases Bool.eq_false_or_eq_true (((fieldQ x 12 3) == f3)) with hd11_72 | hd11_72
      ·refine Tp 13 (U32 x) G G (Gy hd11_72 (Me _ Ok)) R65 (Tp 15 (ptr b3 4) G G (Gy hd11_72 (Fa G fo163_4 Ok)) R65 (Tk 16 (U32 f7) G G (fun _ hS => Gy hd11_72 (Le ((n3.blk.ext hS).cell (j := 4) G) Ok)) R65 (WA.one (i := 14) (m' := 131071) (by kernel_rfl) G G (Gy hd11_72 (Ca (field_q x 25 7 _) ?_)))))
       rintro _ wc74 ⟨rfl, ec74⟩
       have R74 := Mt R65 ec74
       have E75 := Mt E66 ec74
       refine WL.behind R74 (Tp 17 (.bool (((fieldQ x 25 7) == f7))) G G (Gy hd11_72 (Bn G G BinR.eqlU32 Ok)) R74 (Tp 18 (.bool (((fieldQ x 25 7) == f7))) G G (Qt hd11_72 G Ok) R74 (Tm 19 (.bool (((fieldQ x 25 7) == f7))) G G R74 (WA.done (by kernel_rfl) (WC.ret ?_)))))
       have hfin : isQ x s nm c f3 f7 = ((fieldQ x 25 7) == f7) := by unfold isQ; rw [hc7, hc27, hc35, hc57]; simp only [*, cond_true, cond_false, Bool.true_or, Bool.or_true, Bool.false_or, Bool.or_false, Bool.true_and, Bool.and_true, Bool.false_and, Bool.and_false]
       exact ⟨_, Ro G G, congrArg Value.bool hfin.symm, E75⟩
      ·refine To 13 (some false) G G G (Yb G G hd11_72) R65 (To 14 (some false) G G G (Yb G G hd11_72) R65 (To 15 (some false) G G G (Yb G G hd11_72) R65 (To 16 (some false) G G G (Yb G G hd11_72) R65 (To 17 (some false) G G G (Yb G G hd11_72) R65 (Tp 18 (.bool false) G G (Qf hd11_72 G Ok) R65 (Tm 19 (.bool false) G G R65 (WA.done (by kernel_rfl) (WC.ret ?_))))))))
       have hfin : isQ x s nm c f3 f7 = false := by unfold isQ; rw [hc7, hc27, hc35, hc57]; simp only [*, cond_true, cond_false, Bool.true_or, Bool.or_true, Bool.false_or, Bool.or_false, Bool.true_and, Bool.and_true, Bool.false_and, Bool.and_false]
       exact ⟨_, Ro G G, congrArg Value.bool hfin.symm, E66⟩
     ·refine To 6 (some false) G G G (Yb G G hd11_65) R57 (To 7 (some false) G G G (Yb G G hd11_65) R57 (To 8 (some false) G G G (Yb G G hd11_65) R57 (To 9 (some false) G G G (Yb G G hd11_65) R57 (To 10 (some false) G G G (Yb G G hd11_65) R57 (Tp 11 (.bool false) G G (Qf hd11_65 G Ok) R57 (Tm 12 (.bool false) G G R57 (To 13 (some false) G G G G R57 (To 14 (some false) G G G G R57 (To 15 (some false) G G G G R57 (To 16 (some false) G G G G R57 (To 17 (some false) G G G G R57 (Tp 18 (.bool false) G G (Pf G Ok) R57 (Tm 19 (.bool false) G G R57 (WA.done (by kernel_rfl) (WC.ret ?_)))))))))))))))
      have hfin : isQ x s nm c f3 f7 = false := by unfold isQ; rw [hc7, hc27, hc35, hc57]; simp only [*, cond_true, cond_false, Bool.true_or, Bool.or_true, Bool.false_or, Bool.or_false, Bool.true_and, Bool.and_true, Bool.false_and, Bool.and_false]
      exact ⟨_, Ro G G, congrArg Value.bool hfin.symm, E58⟩
    ·refine WC.skip (Sq (WC.draw (fun w_ => Ext w3 w_) 13 G mixed ?_))
     intro wd_12 ed_12
     have R85 : Ext w3 wd_12 := ed_12
     have E86 := Mt E1 ed_12
     refine Tm 0 (U32 x) G G R85 (Tp 2 (ptr b3 2) G G (Fa G fo163_2 Ok) R85 (Tk 3 (U32 c) G G (fun _ hS => Le ((n3.blk.ext hS).cell (j := 2) G) Ok) R85 (WA.one (i := 1) (m' := 15) (by kernel_rfl) G G (Ca (field_q x 0 7 _) ?_))))
     rintro _ wc80 ⟨rfl, ec80⟩
     have R91 := Mt R85 ec80
     have E92 := Mt E86 ec80
     refine WL.behind R91 (Tp 4 (.bool (((fieldQ x 0 7) == c))) G G (Bn G G BinR.eqlU32 Ok) R91 (Tm 5 (.bool (((fieldQ x 0 7) == c))) G G R91 ?_))
     rcases Bool.eq_false_or_eq_true (((fieldQ x 0 7) == c)) with hd12_84 | hd12_84
     ·refine Tp 6 (U32 x) G G (Gy hd12_84 (Me _ Ok)) R91 (Tp 8 (ptr b3 3) G G (Gy hd12_84 (Fa G fo163_3 Ok)) R91 (Tk 9 (U32 f3) G G (fun _ hS => Gy hd12_84 (Le ((n3.blk.ext hS).cell (j := 3) G) Ok)) R91 (WA.one (i := 7) (m' := 1023) (by kernel_rfl) G G (Gy hd12_84 (Ca (field_q x 12 3 _) ?_)))))
      rintro _ wc86 ⟨rfl, ec86⟩
      have R99 := Mt R91 ec86
      have E100 := Mt E92 ec86
      refine WL.behind R99 (Tp 10 (.bool (((fieldQ x 12 3) == f3))) G G (Gy hd12_84 (Bn G G BinR.eqlU32 Ok)) R99 (Tp 11 (.bool (((fieldQ x 12 3) == f3))) G G (Qt hd12_84 G Ok) R99 (Tm 12 (.bool (((fieldQ x 12 3) == f3))) G G R99 (WA.done (by kernel_rfl) (WC.ret ?_)))))
      have hfin : isQ x s nm c f3 f7 = ((fieldQ x 12 3) == f3) := by unfold isQ; rw [hc7, hc27, hc35, hc57]; simp only [*, cond_true, cond_false, Bool.true_or, Bool.or_true, Bool.false_or, Bool.or_false, Bool.true_and, Bool.and_true, Bool.false_and, Bool.and_false]
      exact ⟨_, Ro G G, congrArg Value.bool hfin.symm, E100⟩
     ·refine To 6 (some false) G G G (Yb G G hd12_84) R91 (To 7 (some false) G G G (Yb G G hd12_84) R91 (To 8 (some false) G G G (Yb G G hd12_84) R91 (To 9 (some false) G G G (Yb G G hd12_84) R91 (To 10 (some false) G G G (Yb G G hd12_84) R91 (Tp 11 (.bool false) G G (Qf hd12_84 G Ok) R91 (Tm 12 (.bool false) G G R91 (WA.done (by kernel_rfl) (WC.ret ?_))))))))
      have hfin : isQ x s nm c f3 f7 = false := by unfold isQ; rw [hc7, hc27, hc35, hc57]; simp only [*, cond_true, cond_false, Bool.true_or, Bool.or_true, Bool.false_or, Bool.or_false, Bool.true_and, Bool.and_true, Bool.false_and, Bool.and_false]
      exact ⟨_, Ro G G, congrArg Value.bool hfin.symm, E92⟩
end Go.Proofs.S
end
