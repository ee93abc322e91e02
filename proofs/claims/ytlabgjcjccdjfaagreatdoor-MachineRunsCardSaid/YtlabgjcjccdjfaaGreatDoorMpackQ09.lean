/- Steps of the proof, packed by program: MiX7 MiX8 McT7 UxEv McT8 McL1 McK1 UxOr McO1 UxI32. -/
import Derived.Test.YtlabgjcjccdjfaaGreatDoorRows
import Derived.Test.YtlabgjcjccdjfaaGreatDoorMpackQ01
import Derived.Test.YtlabgjcjccdjfaaGreatDoorMpackQ02
import Derived.Test.YtlabgjcjccdjfaaGreatDoorMpackQ03
import Derived.Test.YtlabgjcjccdjfaaGreatDoorMpackQ08
set_option linter.unusedVariables false
set_option linter.unusedSimpArgs false
set_option linter.unnecessarySimpa false
set_option maxRecDepth 100000
section
set_option linter.unusedSimpArgs false
set_option linter.unusedVariables false
namespace Go.Proofs.R
open Go Go.Ux Go.Ux.Image Go.Proofs
theorem ca89 : callable Tryz.prog 89 = true := by kernel_rfl
theorem ag129 : isAggT Tryz.prog 129 = some false := by kernel_rfl
theorem ca59 : callable Tryz.prog 59 = true := by kernel_rfl
theorem ca55 : callable Tryz.prog 55 = true := by kernel_rfl
theorem ca56 : callable Tryz.prog 56 = true := by kernel_rfl
theorem ca57 : callable Tryz.prog 57 = true := by kernel_rfl
theorem ca58 : callable Tryz.prog 58 = true := by kernel_rfl
theorem el131 : elemT Tryz.prog 131 = some 27 := by kernel_rfl
theorem sz27 : sizeT Tryz.prog 27 = some 1 := by kernel_rfl
theorem ag27 : isAggT Tryz.prog 27 = some false := by kernel_rfl
theorem ca61 : callable Tryz.prog 61 = true := by kernel_rfl
theorem ca90 : callable Tryz.prog 90 = true := by kernel_rfl
theorem contains_wrong (bn bl r bm : Nat) (sv wv : Value) (I : Img) (w : World) (hn : Blk w bn #[.map (some r)] 128) (hL : Blk w bl #[.int .i64 (-1)] 3) (hB : Blk w bm #[.int .i64 I.entry, sv, wv] 25) (hR : Rep w sv wv I) (hM : MapS w r []) (d1 : bn ≠ r) (d2 : bl ≠ r) (d3 : bm ≠ r) (d4 : bn ≠ bl) (d5 : bm ≠ bl) (ds : 0 < I.syms.length → ∀ g, sv.ownBlock = some g → g ≠ r ∧ g ≠ bl) (dw : 0 < I.words.length → ∀ g, wv.ownBlock = some g → g ≠ r ∧ g ≠ bl) (hN : ∀ s ∈ I.syms, True ∧ s.2 ≤ 9223372036854775807) : CallsR Tryz.prog 59 #[sv, .func (.func 54) #[] #[ptr bn 0, ptr bl 0, ptr bm 0]] w (fun v w' => v = .bool (!right5 I) ∧ Mod (fun k => k = r ∨ k = bl) w w') := by
 refine callsR_of Tryz.func59 G G G ?_
 refine Sr (An (.bool false) G (Ni (Sr (Mv sv G (Mv (.func (.func 54) #[] #[ptr bn 0, ptr bl 0, ptr bm 0]) G (WL.call ca89 G G (index_wrong bn bl r bm sv wv I _ hn hL hB hR hM d1 d2 d3 d4 d5 ds dw hN) ?_))))))
 rintro _ wd7 ⟨z7, rfl, hz7, md7⟩
 refine Bn G G BinR.geq (An (.bool (decide ((0 : Int) ≤ (z7 : Int)))) G (Ni (WC.ret ?_)))
 exact ⟨_, Res.one (v := .bool (decide ((0 : Int) ≤ (z7 : Int)))) G G, congrArg Value.bool hz7, md7⟩
theorem right5_spec (bn bl r bm : Nat) (sv wv : Value) (I : Img) (w : World) (hn : Blk w bn #[.map (some r)] 128) (hL : Blk w bl #[.int .i64 (-1)] 3) (hB : Blk w bm #[.int .i64 I.entry, sv, wv] 25) (hR : Rep w sv wv I) (hM : MapS w r []) (d1 : bn ≠ r) (d2 : bl ≠ r) (d3 : bm ≠ r) (d4 : bn ≠ bl) (d5 : bm ≠ bl) (ds : 0 < I.syms.length → ∀ g, sv.ownBlock = some g → g ≠ r ∧ g ≠ bl) (dw : 0 < I.words.length → ∀ g, wv.ownBlock = some g → g ≠ r ∧ g ≠ bl) (hN : ∀ s ∈ I.syms, True ∧ s.2 ≤ 9223372036854775807) (bw : Nat) (hW : Blk w bw #[.func (.func 54) #[] #[ptr bn 0, ptr bl 0, ptr bm 0]] 129) : CallsR Tryz.prog 58 #[ptr bm 0, ptr bw 0] w (fun v w' => v = .bool (right5 I) ∧ Mod (fun k => k = r ∨ k = bl) w w') := by
 refine callsR_of Tryz.func58 G G G ?_
 refine Sr (An (.bool false) G (Ni (Sr (Fa G fo25_1 (Lo G ag22 (hB.cell (j := 1) G) (Lo G ag129 (hW.cell (j := 0) G) (WL.call ca59 G G (contains_wrong bn bl r bm sv wv I _ hn hL hB hR hM d1 d2 d3 d4 d5 ds dw hN) ?_)))))))
 rintro _ wd6 ⟨rfl, md6⟩
 refine WL.un G G UnR.not (An (.bool (!(!right5 I))) G (Ni (WC.ret ?_)))
 exact ⟨_, Res.one (v := .bool (!(!right5 I))) G G, congrArg Value.bool (Bool.not_not _), md6⟩
theorem not_spec (g : Nat) (cs : Array Value) (b : Bool) (R : World → Prop) (w : World) (hcal : callable Tryz.prog g = true) (hcl : CallsR Tryz.prog g cs.toList.toArray w (fun v w' => v = .bool b ∧ R w')) : CallsR Tryz.prog 61 #[.func (.func g) #[] cs] w (fun v w' => v = .bool (!b) ∧ R w') := by
 refine callsR_of Tryz.func61 G G G ?_
 refine Sr (An (.bool false) G (Ni (Sr (Mv (.func (.func g) #[] cs) G (WL.callV (fs := #[]) (cs := cs) G hcal (by simp) G hcl ?_)))))
 rintro _ wd4 ⟨rfl, hR4⟩
 refine WL.un G G UnR.not (An (.bool (!b)) G (Ni (WC.ret ?_)))
 exact ⟨_, Res.one (v := .bool (!b)) G G, G, hR4⟩
def mustV (bm bw : Nat) : List Value := [.func (.func 55) #[] #[ptr bm 0], .func (.func 56) #[] #[ptr bm 0], .func (.func 57) #[] #[ptr bm 0], .func (.func 58) #[] #[ptr bm 0, ptr bw 0]]
def rights (I : Img) : List Bool := [right2 I, right3 I, right4 I, right5 I]
theorem must_calls (bn bl r bm : Nat) (sv wv : Value) (I : Img) (w : World) (hn : Blk w bn #[.map (some r)] 128) (hL : Blk w bl #[.int .i64 (-1)] 3) (hB : Blk w bm #[.int .i64 I.entry, sv, wv] 25) (hR : Rep w sv wv I) (hM : MapS w r []) (d1 : bn ≠ r) (d2 : bl ≠ r) (d3 : bm ≠ r) (d4 : bn ≠ bl) (d5 : bm ≠ bl) (ds : 0 < I.syms.length → ∀ g, sv.ownBlock = some g → g ≠ r ∧ g ≠ bl) (dw : 0 < I.words.length → ∀ g, wv.ownBlock = some g → g ≠ r ∧ g ≠ bl) (hN : ∀ s ∈ I.syms, True ∧ s.2 ≤ 9223372036854775807) (bw : Nat) (hW : Blk w bw #[.func (.func 54) #[] #[ptr bn 0, ptr bl 0, ptr bm 0]] 129) (j : Nat) (hj : j < 4) : ∃ g cs, (mustV bm bw)[j]? = some (.func (.func g) #[] cs) ∧ callable Tryz.prog g = true ∧
  CallsR Tryz.prog g cs.toList.toArray w (fun v w' => v = .bool ((rights I).getD j true) ∧ (Mod (fun k => k = r ∨ k = bl) w w' ∧ (j < 3 → w' = w))) := by
 match j, hj with
 | 0, _ => exact ⟨55, #[ptr bm 0], rfl, ca55, (right2_spec bm sv wv I w hR hB).mono fun v w' ⟨h1, h2⟩ => ⟨h1, h2 ▸ Mod.refl _ _, fun _ => h2.symm⟩⟩
 | 1, _ => exact ⟨56, #[ptr bm 0], rfl, ca56, (right3_spec bm sv wv I w hR hB).mono fun v w' ⟨h1, h2⟩ => ⟨h1, h2 ▸ Mod.refl _ _, fun _ => h2.symm⟩⟩
 | 2, _ => exact ⟨57, #[ptr bm 0], rfl, ca57, (right4_spec bm sv wv I w hR hB).mono fun v w' ⟨h1, h2⟩ => ⟨h1, h2 ▸ Mod.refl _ _, fun _ => h2.symm⟩⟩
 | 3, _ => exact ⟨58, #[ptr bm 0, ptr bw 0], rfl, ca58, (right5_spec bn bl r bm sv wv I w hn hL hB hR hM d1 d2 d3 d4 d5 ds dw hN bw hW).mono fun v w' ⟨h1, h2⟩ => ⟨h1, h2, fun h => absurd h (by decide)⟩⟩
theorem rightB_all (I : Img) (h : ∀ i, i < 4 → (rights I).getD i true = true) : rightB I = true := by
 have h0 := h 0 (by decide); have h1 := h 1 (by decide); have h2 := h 2 (by decide); have h3 := h 3 (by decide)
 simp [rights] at h0 h1 h2 h3
 simp [rightB, h0, h1, h2, h3]
theorem rightB_no (I : Img) (j : Nat) (hj : j < 4) (h : (rights I).getD j true = false) : rightB I = false := by
 match j, hj with
 | 0, _ => simp [rights] at h; simp [rightB, h]
 | 1, _ => simp [rights] at h; simp [rightB, h]
 | 2, _ => simp [rights] at h; simp [rightB, h]
 | 3, _ => simp [rights] at h; simp [rightB, h]
theorem index_must (bn bl r bm : Nat) (sv wv : Value) (I : Img) (w : World) (hn : Blk w bn #[.map (some r)] 128) (hL : Blk w bl #[.int .i64 (-1)] 3) (hB : Blk w bm #[.int .i64 I.entry, sv, wv] 25) (hR : Rep w sv wv I) (hM : MapS w r []) (d1 : bn ≠ r) (d2 : bl ≠ r) (d3 : bm ≠ r) (d4 : bn ≠ bl) (d5 : bm ≠ bl) (ds : 0 < I.syms.length → ∀ g, sv.ownBlock = some g → g ≠ r ∧ g ≠ bl) (dw : 0 < I.words.length → ∀ g, wv.ownBlock = some g → g ≠ r ∧ g ≠ bl) (hN : ∀ s ∈ I.syms, True ∧ s.2 ≤ 9223372036854775807) (bw : Nat) (hW : Blk w bw #[.func (.func 54) #[] #[ptr bn 0, ptr bl 0, ptr bm 0]] 129) (bq : Nat) (hq : Blk w bq (mustV bm bw).toArray 27) : CallsR Tryz.prog 90 #[.slice (some ⟨bq, 0, none⟩) 4 4, .func (.func 61) #[] #[]] w (fun v w' => ∃ z : Int, v = .int .i64 z ∧ decide (0 ≤ z) = (!rightB I) ∧ Mod (fun k => k = r ∨ k = bl) w w') := by
 refine callsR_of Tryz.func90 G G G ?_
 refine Sr (An (IN 0) G (Ni (Sq (Sr (Mv (.slice (some ⟨bq, 0, none⟩) 4 4) G (WL.lenS el131 G G (Mv (IN 0) G ?_)))))))
 refine Ni (Bk ?_)
 refine WC.loop (fun k f w_ => ∃ j, (k + j = 4) ∧ (∀ i, i < j → (rights I).getD i true = true) ∧ f 0 = .slice (some ⟨bq, 0, none⟩) 4 4 ∧ f 1 = .func (.func 61) #[] #[] ∧ f 6 = .slice (some ⟨bq, 0, none⟩) 4 4 ∧ f 7 = IN 4 ∧ f 8 = IN j ∧ (Mod (fun k => k = r ∨ k = bl) w w_) ∧ (j < 4 → w_ = w)) 4 ?_ ?_
 ·exact ⟨0, by omega, fun i hi => absurd hi (by omega), G, G, G, G, G, Mod.refl _ _, fun _ => G⟩
 rintro k f1 wr ⟨j, hk1, hall, h0_1, h1_1, h6_1, h7_1, h8_1, hE, hsame⟩
 refine Sr (Bn h8_1 h7_1 BinR.lss (Ni (Sq ?_)))
 refine WC.cond G (fun hc9 => ?_) (fun hc9 => ?_)
 ·have hj : j < 4 := by have := of_decide_eq_true hc9; omega
  obtain ⟨g, cs, hg, hcal, hcl0⟩ := must_calls bn bl r bm sv wv I w hn hL hB hR hM d1 d2 d3 d4 d5 ds dw hN bw hW j hj
  have hcl : CallsR Tryz.prog g cs.toList.toArray wr (fun v w' => v = .bool ((rights I).getD j true) ∧ (Mod (fun k => k = r ∨ k = bl) w w' ∧ (j < 3 → w' = w))) := by rw [hsame hj]; exact hcl0
  have hcell : wr.cell? ⟨bq, j, none⟩ = some (.func (.func g) #[] cs) := by rw [hsame hj]; exact hq.cell (by simpa using hg)
  refine WC.skip (Sq (Bk (Sr (Mv (IN j) h8_1 (An (IN j) G (Ni (Sr ?_)))))))
  refine Mv (.func (.func 61) #[] #[]) h1_1 (Mv (.slice (some ⟨bq, 0, none⟩) 4 4) h0_1 (Mv (IN j) G (WL.indexAddr1 (i := j) (b := bq) (o := 0) el131 sz27 G G (by omega) G ?_)))
  rw [Nat.zero_add]
  refine Lo G ag27 hcell (WL.callV (fs := #[]) (cs := #[]) G ca61 G G (not_spec g cs ((rights I).getD j true) (fun w_ => Mod (fun k => k = r ∨ k = bl) w w_ ∧ (j < 3 → w_ = w)) _ hcal hcl) ?_)
  rintro _ wd ⟨rfl, md, sd⟩
  refine Ni ?_
  refine WC.cond G (fun hc16 => ?_) (fun hc16 => ?_)
  ·have hres : decide ((0 : Int) ≤ ((j : Nat) : Int)) = (!rightB I) := by rw [rightB_no I j hj (by simpa using hc16)]; simp
   have hEE := md
   refine Sr (Mv (IN j) G (An (IN j) G (Ni (WC.ret ?_))))
   exact ⟨_, Res.one (v := IN j) G G, _, G, hres, hEE⟩
  ·have hok : (rights I).getD j true = true := by simpa using hc16
   refine WC.skip (Rg (Bn h8_1 G (BinR.succN (by omega)) (Mv (IN (j + 1)) G (Ni ?_))))
   exact ⟨k - 1, by omega, (j + 1), by omega, fun i hi => by by_cases e : i = j; (subst e; exact hok); exact hall i (by omega), h0_1, h1_1, h6_1, h7_1, rfl, md, fun h => sd (by omega)⟩
 ·have hj : 4 ≤ j := by have := of_decide_eq_false hc9; omega
  have hres : decide ((0 : Int) ≤ -1) = (!rightB I) := by rw [rightB_all I (fun i hi => hall i (by omega))]; rfl
  have hEE := hE
  refine WC.exit (Sr (An (.int .i64 (-1)) G (Ni (WC.ret ?_))))
  exact ⟨_, Res.one (v := .int .i64 (-1)) G G, _, G, hres, hEE⟩
theorem contains_must (bn bl r bm : Nat) (sv wv : Value) (I : Img) (w : World) (hn : Blk w bn #[.map (some r)] 128) (hL : Blk w bl #[.int .i64 (-1)] 3) (hB : Blk w bm #[.int .i64 I.entry, sv, wv] 25) (hR : Rep w sv wv I) (hM : MapS w r []) (d1 : bn ≠ r) (d2 : bl ≠ r) (d3 : bm ≠ r) (d4 : bn ≠ bl) (d5 : bm ≠ bl) (ds : 0 < I.syms.length → ∀ g, sv.ownBlock = some g → g ≠ r ∧ g ≠ bl) (dw : 0 < I.words.length → ∀ g, wv.ownBlock = some g → g ≠ r ∧ g ≠ bl) (hN : ∀ s ∈ I.syms, True ∧ s.2 ≤ 9223372036854775807) (bw : Nat) (hW : Blk w bw #[.func (.func 54) #[] #[ptr bn 0, ptr bl 0, ptr bm 0]] 129) (bq : Nat) (hq : Blk w bq (mustV bm bw).toArray 27) : CallsR Tryz.prog 60 #[.slice (some ⟨bq, 0, none⟩) 4 4, .func (.func 61) #[] #[]] w (fun v w' => v = .bool (!rightB I) ∧ Mod (fun k => k = r ∨ k = bl) w w') := by
 refine callsR_of Tryz.func60 G G G ?_
 refine Sr (An (.bool false) G (Ni (Sr (Mv (.slice (some ⟨bq, 0, none⟩) 4 4) G (Mv (.func (.func 61) #[] #[]) G (WL.call ca90 G G (index_must bn bl r bm sv wv I _ hn hL hB hR hM d1 d2 d3 d4 d5 ds dw hN bw hW bq hq) ?_))))))
 rintro _ wd7 ⟨z7, rfl, hz7, md7⟩
 refine Bn G G BinR.geq (An (.bool (decide ((0 : Int) ≤ (z7 : Int)))) G (Ni (WC.ret ?_)))
 exact ⟨_, Res.one (v := .bool (decide ((0 : Int) ≤ (z7 : Int)))) G G, congrArg Value.bool hz7, md7⟩
end Go.Proofs.R
end
section
set_option linter.unusedSimpArgs false
set_option linter.unusedVariables false
namespace Go.Proofs.R
open Go Go.Ux Go.Ux.Image Go.Proofs
theorem zt128 : zeroT Tryz.prog 128 = some #[.map none] := by kernel_rfl
theorem sz128 : sizeT Tryz.prog 128 = some 1 := by kernel_rfl
theorem zt3 : zeroT Tryz.prog 3 = some #[.int .i64 0] := by kernel_rfl
theorem zt129 : zeroT Tryz.prog 129 = some #[.nilFunc] := by kernel_rfl
theorem sz129 : sizeT Tryz.prog 129 = some 1 := by kernel_rfl
theorem bls30_13 (b1 b5 : Nat) : ∀ w : World, (Instr.buildSlice 131 4 #[(0, .func (.func 55) #[] #[ptr b1 0]), (1, .func (.func 56) #[] #[ptr b1 0]), (2, .func (.func 57) #[] #[ptr b1 0]), (3, .func (.func 58) #[] #[ptr b1 0, ptr b5 0])]).run Tryz.prog w = .ok (.slice (some ⟨w.heap.size, 0, none⟩) 4 4) (w.alloc (.cells #[.func (.func 55) #[] #[ptr b1 0], .func (.func 56) #[] #[ptr b1 0], .func (.func 57) #[] #[ptr b1 0], .func (.func 58) #[] #[ptr b1 0, ptr b5 0]] 27)) := fun _ => by kernel_rfl
theorem ca60 : callable Tryz.prog 60 = true := by kernel_rfl
theorem right_spec (sv wv : Value) (I : Img) (w : World) (hR : Rep w sv wv I) (hN : ∀ s ∈ I.syms, True ∧ s.2 ≤ 9223372036854775807) : CallsR Tryz.prog 30 #[.agg #[.int .i64 I.entry, sv, wv]] w (fun v w' => v = .bool (rightB I) ∧ Ext w w') := by
 refine callsR_of Tryz.func30 G G G ?_
 refine Sr (WL.box (v := .agg #[.int .i64 I.entry, sv, wv]) G G ?_)
 intro b1 w1 n1
 have E1 : Ext w w1 := n1.ext
 refine An (.bool false) G (Ni (Sr (WL.makeMap G ?_)))
 intro r wm hM e7 hr
 have E2 := Mt E1 e7
 refine WL.allocStore (v := .map (some r)) zt128 G sz128 G G G G ?_
 intro b3 w3 n3
 have R3 : Ext wm w3 := n3.ext
 have E4 := Mt E2 n3.ext
 refine Ni (Sr (WL.allocStore (v := .int .i64 (-1)) zt3 G sz3 G G G G ?_))
 intro b4 w4 n4
 have R5 := Mt R3 n4.ext
 have E6 := Mt E4 n4.ext
 refine Ni (Sr (WL.makeFunc (vs := []) (us := [ptr b3 0, ptr b4 0, ptr b1 0]) G G G (WL.allocStore (v := .func (.func 54) #[] #[ptr b3 0, ptr b4 0, ptr b1 0]) zt129 G sz129 G G G G ?_)))
 intro b5 w5 n5
 have R7 := Mt R5 n5.ext
 have E8 := Mt E6 n5.ext
 refine Ni (Sr (WL.makeFunc (vs := []) (us := [ptr b1 0]) G G G (WL.makeFunc (vs := []) (us := [ptr b1 0]) G G G (WL.makeFunc (vs := []) (us := [ptr b1 0]) G G G (WL.makeFunc (vs := []) (us := [ptr b1 0, ptr b5 0]) G G G (WL.buildSlice (vs := [(0, .func (.func 55) #[] #[ptr b1 0]), (1, .func (.func 56) #[] #[ptr b1 0]), (2, .func (.func 57) #[] #[ptr b1 0]), (3, .func (.func 58) #[] #[ptr b1 0, ptr b5 0])]) G (bls30_13 b1 b5) G ?_))))))
 intro b13 w13 n13
 have R9 := Mt R7 n13.ext
 have E10 := Mt E8 n13.ext
 refine An (.slice (some ⟨b13, 0, none⟩) 4 4) G (Ni (Sr (Mv (.slice (some ⟨b13, 0, none⟩) 4 4) G ?_)))
 have B11 := ((n3.blk.ext n4.ext).ext n5.ext).ext n13.ext
 have B12 := (n4.blk.ext n5.ext).ext n13.ext
 have B13 := ((((n1.blk.ext e7).ext n3.ext).ext n4.ext).ext n5.ext).ext n13.ext
 have B14 := n5.blk.ext n13.ext
 have hnum : b1 = w.heap.size ∧ r = w.heap.size + 1 ∧ w.heap.size + 2 ≤ b3 ∧ b4 = b3 + 1 := by have := n1.num; have := n1.size; have := hM.lt; have := n3.num; have := n3.size; have := n4.num; omega
 have hMc := hM.ext R9
 have hRc := hR.ext E10
 refine WL.call ca60 rfl rfl (contains_must b3 b4 r b1 sv wv I _ B11 B12 B13 hRc hMc (by omega) (by omega) (by omega) (by omega) (by omega) (fun h0 g hg => by have := hR.s.lt h0 (by decide) hg; omega) (fun h0 g hg => by have := hR.w.lt h0 (by decide) hg; omega) hN b5 B14 b13 n13.blk) ?_
 rintro _ wd ⟨rfl, md⟩
 have hEE := E10.then md (O := fun _ => False) (fun i hi e => by omega)
 refine WL.un G G UnR.not (An (.bool (!(!rightB I))) G (Ni (WC.ret ?_)))
 exact ⟨_, Res.one (v := .bool (!(!rightB I))) G G, congrArg Value.bool (Bool.not_not _), hEE⟩
end Go.Proofs.R
end
section
set_option linter.unusedSimpArgs false
set_option linter.unusedVariables false
namespace Go.Proofs.S
open Go Go.Ux Go.Ux.Mach Go.Proofs
theorem ag25 : isAggT Tryz.prog 25 = some true := by kernel_rfl
theorem sz25 : sizeT Tryz.prog 25 = some 3 := by kernel_rfl
theorem ca30 : callable Tryz.prog 30 = true := by kernel_rfl
theorem ca31 : callable Tryz.prog 31 = true := by kernel_rfl
theorem bld10_16 (a : Option Addr) (n c : Nat) : ∀ w : World, (Instr.build 85 #[(2, .slice a n c), (4, U64 (65536#64))]).run Tryz.prog w = .ok (.agg #[.slice none 0 0, .slice none 0 0, .slice a n c, .int .u64 0, .int .u64 0, .int .u64 0, .int .u64 0, .int .u64 0, .int .u64 0, .int .u64 0, .int .u64 0, .int .u64 0, .int .u64 0, .int .u64 0, .int .u64 0, .int .u64 0, .int .u64 0, .int .u64 0, .int .u64 0, .int .u64 0, .int .u64 0, .int .u64 0, .int .u64 0, .int .u64 0, .int .u64 0, .int .u64 0, .int .u64 0, .int .u64 0, .int .u64 0, .int .u64 0, .int .u64 0, .int .u64 0, .int .u64 0, .int .u64 0, .int .u64 0, U64 (65536#64), .slice none 0 0, .nilIface, IN 0]) w := fun _ => by kernel_rfl
theorem fo25_2 : fieldOff Tryz.prog 25 2 = some 2 := by kernel_rfl
theorem ag23 : isAggT Tryz.prog 23 = some false := by kernel_rfl
theorem el23 : elemT Tryz.prog 23 = some 50 := by kernel_rfl
theorem ca32 : callable Tryz.prog 32 = true := by kernel_rfl
theorem bld10_43 (p q r s : BitVec 8) (x : BitVec 64) (k : Bool) : ∀ w : World, (Instr.build 89 #[(0, .agg #[U8 p, U8 q, U8 r, U8 s, I64 x]), (1, .bool k)]).run Tryz.prog w = .ok (.agg #[U8 p, U8 q, U8 r, U8 s, I64 x, .bool k]) w := fun _ => by kernel_rfl
theorem bls10_44 (p q r s : BitVec 8) (x : BitVec 64) (k : Bool) : ∀ w : World, (Instr.buildSlice 81 1 #[(0, .agg #[U8 p, U8 q, U8 r, U8 s, I64 x, .bool k])]).run Tryz.prog w = .ok (.slice (some ⟨w.heap.size, 0, none⟩) 1 1) (w.alloc (.cells #[U8 p, U8 q, U8 r, U8 s, I64 x, .bool k] 89)) := fun _ => by kernel_rfl
theorem ap81 : appT Tryz.prog 81 = some (89, 6, 24, #[.int .u8 0, .int .u8 0, .int .u8 0, .int .u8 0, .int .i64 0, .bool false]) := by kernel_rfl
theorem sz81 : sizeT Tryz.prog 81 = some 1 := by kernel_rfl
theorem fo25_0 : fieldOff Tryz.prog 25 0 = some 0 := by kernel_rfl
theorem ap45 : appT Tryz.prog 45 = some (5, 1, 1, #[.int .u8 0]) := by kernel_rfl
theorem bld10_53 (b n : Nat) : ∀ w : World, (Instr.build 91 #[(0, U64 (4194304#64)), (1, .slice (some ⟨b, 0, none⟩) n n)]).run Tryz.prog w = .ok (.agg #[U64 (4194304#64), .slice (some ⟨b, 0, none⟩) n n]) w := fun _ => by kernel_rfl
theorem bld10_55 (b n : Nat) : ∀ w : World, (Instr.build 91 #[(0, U64 (8323072#64)), (1, .slice (some ⟨b, 0, none⟩) n n)]).run Tryz.prog w = .ok (.agg #[U64 (8323072#64), .slice (some ⟨b, 0, none⟩) n n]) w := fun _ => by kernel_rfl
theorem bls10_56 (a b n m : Nat) : ∀ w : World, (Instr.buildSlice 80 2 #[(0, .agg #[U64 (4194304#64), .slice (some ⟨a, 0, none⟩) n n]), (1, .agg #[U64 (8323072#64), .slice (some ⟨b, 0, none⟩) m m])]).run Tryz.prog w = .ok (.slice (some ⟨w.heap.size, 0, none⟩) 2 2) (w.alloc (.cells #[U64 (4194304#64), .slice (some ⟨a, 0, none⟩) n n, U64 (8323072#64), .slice (some ⟨b, 0, none⟩) m m] 91)) := fun _ => by kernel_rfl
theorem sz80 : sizeT Tryz.prog 80 = some 1 := by kernel_rfl
open Go.Proofs.M (instV Glob findRow decodeAt decode_no decode_ok)
open Go.Ux.Image
def decI (x : BitVec 32) : RvInst := match findRow x tableD with
 | some i => decodeAt i x
 | none => ⟨0, 0, 0, 0, 0⟩
def decE (x : BitVec 32) : Nat := match findRow x tableD with
 | some _ => 0
 | none => 100
theorem decode_spec (x : BitVec 32) (w : World) (hG : Glob w) : CallsR Tryz.prog 32 #[U32 x] w (fun v w' => v = .tuple #[instV (decI x), IN (decE x)] ∧ Ext w w') := by
 unfold decI decE
 rcases h : findRow x tableD with _ | i
 ·exact decode_no x w hG h
 ·exact decode_ok x w hG i h
def decW (x : BitVec 32) : RvInst × Bool := (decI x, (((decE x : Nat) : Int) == (0 : Int)) && ((decI x).op != 65#8))
theorem decW_T {x : BitVec 32} (h : (((decE x : Nat) : Int) == (0 : Int)) = true) : (decW x).2 = ((decI x).op != 65#8) := by unfold decW; rw [h]; rfl
theorem decW_F {x : BitVec 32} (h : (((decE x : Nat) : Int) == (0 : Int)) = false) : (decW x).2 = false := by unfold decW; rw [h]; rfl
theorem codeV_take (l : List (BitVec 32)) (i : Nat) (h : i < l.length) : codeV ((l.take (i + 1)).map decW) = codeV ((l.take i).map decW) ++ [U8 (decI l[i]).op, U8 (decI l[i]).rd, U8 (decI l[i]).rs1, U8 (decI l[i]).rs2, I64 (decI l[i]).imm, .bool (decW l[i]).2] := by
 rw [List.take_succ_eq_append_getElem h, List.map_append]
 exact codeV_snoc _ _
def newM (I : Img) (inp : List (BitVec 64)) : MS := { n := I.entry.toNat, d := fun _ => 0#8, s := fun _ => 0#8, code := I.words.map decW, input := inp, x := fun i => if i = 2 then 8388608#64 else 0#64, pc := 65536#64, events := [], fin := none, steps := 0#64 }
theorem word_get (l : List (BitVec 32)) (i : Nat) (h : i < l.length) : (wordCells l)[i]? = some (U32 l[i]) := by simp [wordCells, h]
theorem right_facts {I : Img} (h : rightB I = true) : 0 ≤ I.entry ∧ I.entry ≤ 524288 ∧ I.words.length ≤ 262144 := by
 simp only [rightB, right2, right3, Bool.and_eq_true, decide_eq_true_eq] at h
 exact ⟨h.1.1.1.1.1, h.1.1.1.1.2, h.1.1.2.2⟩
theorem ones_I64 (l : List (BitVec 64)) : ∀ u ∈ l.map I64, u.oneCell' = true := by
 intro u hu; obtain ⟨x, _, rfl⟩ := List.mem_map.1 hu; rfl
theorem new_no (I : Img) (sv wv iv0 : Value) (inp : List (BitVec 64)) (w : World) (hR : Rep w sv wv I) (hN : ∀ s ∈ I.syms, True ∧ s.2 ≤ 9223372036854775807) (hr : rightB I = false) : CallsR Tryz.prog 10 #[.agg #[.int .i64 I.entry, sv, wv], iv0] w (fun v w' => v = .tuple #[.pointer none, IN 2] ∧ Ext w w') := by
 refine callsR_of Tryz.func10 G G G ?_
 refine Sr (WL.box (v := .agg #[.int .i64 I.entry, sv, wv]) G G ?_)
 intro b2 w2 n2
 have E1 : Ext w w2 := n2.ext
 refine An (.pointer none) G (An (IN 0) G (Ni (Sq (Sr (Ls [.int .i64 I.entry, sv, wv] G ag25 sz25 n2.blk (WL.call ca30 G G (Go.Proofs.R.right_spec sv wv I _ (hR.ext E1) hN) ?_))))))
 rintro _ wri ⟨rfl, eri⟩
 rw [hr]
 have E2 := Mt E1 eri
 refine WL.un G G UnR.not (Ni (Ct G (Sr (An (.pointer none) G (An (IN 2) G (Ni (WC.ret ?_)))))))
 exact ⟨_, Res.two (v := .pointer none) (v' := IN 2) G G G, G, E2⟩
theorem locB {w : World} {v v' : Value} {b n : Nat} (h : LocV w v v') (hB : ∀ g, v.ownBlock = some g → b < g ∧ g < n) (hb : b < w.heap.size) : ∀ g, v'.ownBlock = some g → b < g := fun g hg => by
 rcases h with h | ⟨g', h, hg'⟩
 ·rw [h] at hg; exact (hB g hg).1
 ·rw [h] at hg; cases hg; omega
theorem new_mr {w' : World} {b17 b56 b52 b54 n0 : Nat} {cvv iv : Value} {I : Img} {inp : List (BitVec 64)}
  (hb : Blk w' b17 (machCells (.slice (some ⟨b56, 0, none⟩) 2 2) cvv iv (newM I inp).x 65536#64 (.slice none 0 0) .nilIface 0#64) 85)
  (hm : Blk w' b56 #[U64 4194304#64, .slice (some ⟨b52, 0, none⟩) I.entry.toNat I.entry.toNat, U64 8323072#64, .slice (some ⟨b54, 0, none⟩) 65536 65536] 91)
  (hd : Ux.Own w' 1 (.slice (some ⟨b52, 0, none⟩) I.entry.toNat I.entry.toNat) I.entry.toNat (List.replicate I.entry.toNat (.int .u8 0))) (hs : Ux.Own w' 1 (.slice (some ⟨b54, 0, none⟩) 65536 65536) 65536 (List.replicate 65536 (.int .u8 0)))
  (hc : Ux.Own w' 6 cvv I.words.length (codeV (I.words.map decW))) (hi : Ux.Own w' 1 iv inp.length (inp.map I64))
  (k1 : ∀ g, iv.ownBlock = some g → g < b17) (k2 : ∀ g, cvv.ownBlock = some g → b17 < g) (k2a : ∀ g, cvv.ownBlock = some g → g < b52) (k2b : ∀ g, cvv.ownBlock = some g → g < b54) (k3 : b17 < b52) (k4 : b17 < b54) (k5 : b52 ≠ b54) (k6 : b52 < b56 ∧ b54 < b56)
  (h0 : n0 ≤ b17) (hiF : From n0 iv) (h6 : 6 ≤ n0) (hmle : I.entry.toNat ≤ 524288) : ∃ T, MR T w' b17 (newM I inp) ∧ ∀ k, T k ≠ 0 → n0 ≤ k := by
 have hlb := hb.lt
 have hlm := hm.lt
 have hcl : (newM I inp).code.length = I.words.length := by simp [newM]
 have sd : ∀ g, (Value.slice (some ⟨b52, 0, none⟩) I.entry.toNat I.entry.toNat).ownBlock = some g → g = b52 := fun g e => (Option.some.inj e).symm
 have ss : ∀ g, (Value.slice (some ⟨b54, 0, none⟩) 65536 65536).ownBlock = some g → g = b54 := fun g e => (Option.some.inj e).symm
 refine ⟨fun k => if k = b17 then 1 else if k = b56 then 2 else if k = b52 then 3 else if k = b54 then 4 else if cvv.ownBlock = some k then 5 else if iv.ownBlock = some k then 6 else 0, ⟨b56, _, _, cvv, iv, _, _, hb, hm, ?_, ?_, ?_, hi.sl, Ux.Own.nil _ _, G, ?_, ?_, ?_, ?_, ?_, ?_, ?_, ?_, ?_, ?_⟩, ?_⟩
 ·have := bsV_zero I.entry.toNat; rw [this] at hd; exact hd
 ·have := bsV_zero 65536; rw [this] at hs; exact hs
 ·rw [hcl]; exact hc.sl
 ·exact if_pos G
 ·exact (if_neg (by omega)).trans (if_pos G)
 ·intro g e; have := sd g e; subst this; exact (if_neg (by omega)).trans ((if_neg (by omega)).trans (if_pos rfl))
 ·intro g e; have := ss g e; subst this; exact (if_neg (by omega)).trans ((if_neg (by omega)).trans ((if_neg (by omega)).trans (if_pos rfl)))
 ·intro g e; have h1 := k2 g e; have h2 := k2a g e; have h3 := k2b g e; exact (if_neg (by omega)).trans ((if_neg (by omega)).trans ((if_neg (by omega)).trans ((if_neg (by omega)).trans (if_pos e))))
 ·intro g e
  have h1 := k1 g e
  have hne : ¬ cvv.ownBlock = some g := fun e' => by have := k2 g e'; omega
  exact (if_neg (by omega)).trans ((if_neg (by omega)).trans ((if_neg (by omega)).trans ((if_neg (by omega)).trans ((if_neg hne).trans (if_pos e)))))
 ·intro g e; cases e
 ·intro g e; cases e
 ·intro k hk
  try dsimp only at hk
  split at hk; · omega
  split at hk; · omega
  split at hk; · omega
  split at hk; · omega
  split at hk
  ·rename_i e; have := k2 k e; have := k2a k e; omega
  split at hk
  ·rename_i e; have := k1 k e; have := hiF k e; omega
  ·exact absurd G hk
 ·show I.entry.toNat ≤ 140737488355328; omega
 ·intro k hk
  try dsimp only at hk
  split at hk; · omega
  split at hk; · omega
  split at hk; · omega
  split at hk; · omega
  split at hk
  ·rename_i e; have := k2 k e; omega
  split at hk
  ·rename_i e; exact hiF k e
  ·exact absurd G hk
set_option maxHeartbeats 1000000 in
theorem new_ok (I : Img) (sv wv iv0 : Value) (inp : List (BitVec 64)) (w : World) (hR : Rep w sv wv I) (hN : ∀ s ∈ I.syms, True ∧ s.2 ≤ 9223372036854775807) (hG : Glob w) (h6 : 6 ≤ w.heap.size) (hI : Sl w iv0 1 inp.length (inp.map I64)) (hIf : iv0 = .slice none 0 0 ∨ ∃ a c, iv0 = .slice (some a) inp.length c) (hIl : inp.length ≤ 8796093022208) (hr : rightB I = true) : CallsR Tryz.prog 10 #[.agg #[.int .i64 I.entry, sv, wv], iv0] w (fun v w' => ∃ T b, v = .tuple #[ptr b 0, IN 0] ∧ MR T w' b (newM I inp) ∧ (∀ k, T k ≠ 0 → w.heap.size ≤ k) ∧ Ext w w') := by
 obtain ⟨hr1, hr2, hr3⟩ := right_facts hr
 have hent : Value.int .i64 I.entry = IN I.entry.toNat := by show Value.int .i64 I.entry = Value.int .i64 ((I.entry.toNat : Nat) : Int); congr 1; omega
 refine callsR_of Tryz.func10 G G G ?_
 refine Sr (WL.box (v := .agg #[.int .i64 I.entry, sv, wv]) G G ?_)
 intro b2 w2 n2
 have E1 : Ext w w2 := n2.ext
 refine An (.pointer none) G (An (IN 0) G (Ni (Sq (Sr (Ls [.int .i64 I.entry, sv, wv] G ag25 sz25 n2.blk (WL.call ca30 G G (Go.Proofs.R.right_spec sv wv I _ (hR.ext E1) hN) ?_))))))
 rintro _ wri ⟨rfl, eri⟩
 rw [hr]
 have E2 := Mt E1 eri
 refine WL.un G G UnR.not (Ni (Cf G (WC.skip (Sr (Mv iv0 G (WL.call ca31 G G (clone31 iv0 inp.length (inp.map I64) _ (hI.ext E2) hIf (ones_I64 _) hIl) ?_))))))
 rintro _ wcl ⟨hc1, hc2, hc4, ecl⟩
 obtain ⟨ia, il, ic, rfl⟩ := hc1.sl.slc
 have hivF : From w.heap.size (.slice ia il ic) := fun g hg => Nat.le_trans (Mod.size E2) (hc2 g hg)
 have E3 := Mt E2 ecl
 refine WL.build (v := .agg #[.slice none 0 0, .slice none 0 0, .slice ia il ic, .int .u64 0, .int .u64 0, .int .u64 0, .int .u64 0, .int .u64 0, .int .u64 0, .int .u64 0, .int .u64 0, .int .u64 0, .int .u64 0, .int .u64 0, .int .u64 0, .int .u64 0, .int .u64 0, .int .u64 0, .int .u64 0, .int .u64 0, .int .u64 0, .int .u64 0, .int .u64 0, .int .u64 0, .int .u64 0, .int .u64 0, .int .u64 0, .int .u64 0, .int .u64 0, .int .u64 0, .int .u64 0, .int .u64 0, .int .u64 0, .int .u64 0, .int .u64 0, U64 (65536#64), .slice none 0 0, .nilIface, IN 0]) (vs := [(2, .slice ia il ic), (4, U64 (65536#64))]) G (bld10_16 ia il ic) G ?_
 have B4 := (n2.blk.ext eri).ext ecl
 refine WL.box (v := .agg #[.slice none 0 0, .slice none 0 0, .slice ia il ic, .int .u64 0, .int .u64 0, .int .u64 0, .int .u64 0, .int .u64 0, .int .u64 0, .int .u64 0, .int .u64 0, .int .u64 0, .int .u64 0, .int .u64 0, .int .u64 0, .int .u64 0, .int .u64 0, .int .u64 0, .int .u64 0, .int .u64 0, .int .u64 0, .int .u64 0, .int .u64 0, .int .u64 0, .int .u64 0, .int .u64 0, .int .u64 0, .int .u64 0, .int .u64 0, .int .u64 0, .int .u64 0, .int .u64 0, .int .u64 0, .int .u64 0, .int .u64 0, U64 (65536#64), .slice none 0 0, .nilIface, IN 0]) G G ?_
 intro b17 w17 n17
 have E5 := Mt E3 n17.ext
 have hbb : w.heap.size ≤ b17 := by have := n17.num; have := Mod.size E3; omega
 have hivb : ∀ g, (.slice ia il ic : Value).ownBlock = some g → g < b17 := fun g hg => by have := hc4 g hg; have := n17.num; omega
 have hb2 : b2 < b17 := by have := B4.lt; have := n17.num; omega
 refine An (ptr b17 0) G (Ni (Sq (Sr (Fa G fo25_2 ?_))))
 have B6 := B4.ext n17.ext
 refine Lo G ag23 (B6.cell (j := 2) G) (WL.lenSl (sz := 1) (m := I.words.length) (xs := wordCells I.words) el23 G (hR.w.ext' E5) G (Mv (IN 0) G (Ni ?_)))
 have O7 := hc1.ext n17.ext
 have hIV0 := O7
 refine Bk ?_
 refine WC.loop (fun k f w_ => ∃ i cvv, (k + i = I.words.length) ∧ f 0 = .agg #[.int .i64 I.entry, sv, wv] ∧ f 1 = iv0 ∧ f 2 = ptr b2 0 ∧ f 6 = ptr b17 0 ∧ f 19 = wv ∧ f 20 = IN I.words.length ∧ f 21 = IN i ∧ (Ux.Own w_ 1 (.slice ia il ic) inp.length (inp.map I64)) ∧ (Ux.Own w_ 6 cvv i (codeV ((I.words.take i).map decW))) ∧ (∀ g, cvv.ownBlock = some g → b17 < g ∧ g < w_.heap.size) ∧ (Blk w_ b17 #[.slice none 0 0, cvv, .slice ia il ic, U64 (0#64), U64 (0#64), U64 (0#64), U64 (0#64), U64 (0#64), U64 (0#64), U64 (0#64), U64 (0#64), U64 (0#64), U64 (0#64), U64 (0#64), U64 (0#64), U64 (0#64), U64 (0#64), U64 (0#64), U64 (0#64), U64 (0#64), U64 (0#64), U64 (0#64), U64 (0#64), U64 (0#64), U64 (0#64), U64 (0#64), U64 (0#64), U64 (0#64), U64 (0#64), U64 (0#64), U64 (0#64), U64 (0#64), U64 (0#64), U64 (0#64), U64 (0#64), U64 (65536#64), .slice none 0 0, .nilIface, .int .i64 0] 85) ∧ (Blk w_ b2 #[.int .i64 I.entry, sv, wv] 25) ∧ (Ext w w_)) I.words.length ?_ ?_
 ·exact ⟨0, (.slice none 0 0), by omega, G, G, G, G, G, G, G, hIV0, Ux.Own.nil _ _, (fun g hg => by cases hg), n17.blk, B6, E5⟩
 rintro ka f1 wr ⟨i, cvv, hk, h0_1, h1_1, h2_1, h6_1, h19_1, h20_1, h21_1, hIV, hO, hB, h17, h2, hE⟩
 refine Sr (Bn h21_1 h20_1 BinR.lss (Ni (Sq ?_)))
 refine WC.cond G (fun hc22 => ?_) (fun hc22 => ?_)
 ·have hi : i < I.words.length := by have := of_decide_eq_true hc22; omega
  refine WC.skip (Sq (Bk (Sr (WL.indexSl (sz := 1) (m := I.words.length) (xs := wordCells I.words) (i := i) el23 sz50 h19_1 h21_1 (by omega) (hR.w.ext' hE) G ?_))))
  intro b23 o23 hb23 hc23
  refine WL.load1 rfl ag50 (by rw [Nat.mul_one]; exact hc23 i _ (word_get I.words i hi)) rfl (WL.assign (v := U32 (I.words[i])) rfl rfl (WL.nil (WC.seq (WC.region (WL.move (v := U32 (I.words[i])) rfl rfl (WL.call ca32 rfl rfl (decode_spec I.words[i] _ (hG.ext hE)) ?_))))))
  rintro _ wde ⟨rfl, ede⟩
  have R8 : Ext wr wde := ede
  have E9 := Mt hE ede
  refine Mv (.tuple #[instV (decI I.words[i]), IN (decE I.words[i])]) G (Et G G (Et G G ?_))
  have B10 := h17.ext ede
  have B11 := h2.ext ede
  refine WL.allocStore (v := .agg #[U8 ((decI I.words[i]).op), U8 ((decI I.words[i]).rd), U8 ((decI I.words[i]).rs1), U8 ((decI I.words[i]).rs2), I64 ((decI I.words[i]).imm)]) zt48 G sz48 G G G G ?_
  intro b9 w9 n9
  have hl_b17_b9 : b17 < b9 := by have := B10.lt; have := n9.num; omega
  have hl_b2_b9 : b2 < b9 := by have := B11.lt; have := n9.num; omega
  have E13 := Mt E9 n9.ext
  refine An (IN ((decE I.words[i]))) G (Ni ?_)
  have N9 : cvv.ownBlock ≠ some b9 := fun e => by have := (hB b9 e).2; have := n9.num; have := Mod.size R8; omega
  have hl9 : b17 < b9 := by have := n9.num; have := Mod.size R8; have := h17.lt; omega
  rcases Bool.eq_false_or_eq_true (((((decE I.words[i]) : Nat) : Int) == (0 : Int))) with hd8_38 | hd8_38
  ·refine WC.drawL (fun w_ => Mod (At cvv) wr w_ ∧ Blk w_ b17 #[.slice none 0 0, cvv, .slice ia il ic, U64 (0#64), U64 (0#64), U64 (0#64), U64 (0#64), U64 (0#64), U64 (0#64), U64 (0#64), U64 (0#64), U64 (0#64), U64 (0#64), U64 (0#64), U64 (0#64), U64 (0#64), U64 (0#64), U64 (0#64), U64 (0#64), U64 (0#64), U64 (0#64), U64 (0#64), U64 (0#64), U64 (0#64), U64 (0#64), U64 (0#64), U64 (0#64), U64 (0#64), U64 (0#64), U64 (0#64), U64 (0#64), U64 (0#64), U64 (0#64), U64 (0#64), U64 (0#64), U64 (65536#64), .slice none 0 0, .nilIface, .int .i64 0] 85 ∧ Blk w_ b9 #[U8 ((decI I.words[i]).op), U8 ((decI I.words[i]).rd), U8 ((decI I.words[i]).rs1), U8 ((decI I.words[i]).rs2), I64 ((decI I.words[i]).imm)] 48) 18 19 G mixed ?_
   intro wd_8 ed_8
   have E15 := Mt E13 ed_8
   have B16 := (B10.ext n9.ext).ext ed_8
   have B17 := n9.blk.ext ed_8
   refine Tl 0 (ptr b17 0) G G (fun _ _ => Mv (ptr b17 0) h6_1 Ok) (⟨Mt (Mt (Mod.ext ede) (Mod.ext n9.ext)) (Mod.ext ed_8), B16, B17⟩) (Tl 1 (ptr b17 0) G G (fun _ _ => Mv (ptr b17 0) h6_1 Ok) (⟨Mt (Mt (Mod.ext ede) (Mod.ext n9.ext)) (Mod.ext ed_8), B16, B17⟩) (Tl 2 (ptr b17 0) G G (fun _ _ => WL.nilCheck G G Ok) (⟨Mt (Mt (Mod.ext ede) (Mod.ext n9.ext)) (Mod.ext ed_8), B16, B17⟩) (Tl 3 (ptr b17 1) G G (fun _ _ => Fa G fo85_1 Ok) (⟨Mt (Mt (Mod.ext ede) (Mod.ext n9.ext)) (Mod.ext ed_8), B16, B17⟩) (Tl 4 cvv G G (fun _ hS => Lo G ag81 (hS.2.1.cell (j := 1) G) Ok) (⟨Mt (Mt (Mod.ext ede) (Mod.ext n9.ext)) (Mod.ext ed_8), B16, B17⟩) (Tl 5 (.agg #[U8 ((decI I.words[i]).op), U8 ((decI I.words[i]).rd), U8 ((decI I.words[i]).rs1), U8 ((decI I.words[i]).rs2), I64 ((decI I.words[i]).imm)]) G G (fun _ hS => Ls _ G ag48 sz48 hS.2.2 Ok) (⟨Mt (Mt (Mod.ext ede) (Mod.ext n9.ext)) (Mod.ext ed_8), B16, B17⟩) (Tl 6 (IN ((decE I.words[i]))) G G (fun _ _ => Mv _ G Ok) (⟨Mt (Mt (Mod.ext ede) (Mod.ext n9.ext)) (Mod.ext ed_8), B16, B17⟩) (Tl 7 (.bool (((((decE I.words[i]) : Nat) : Int) == (0 : Int)))) G G (fun _ _ => Bn G G BinR.eql Ok) (⟨Mt (Mt (Mod.ext ede) (Mod.ext n9.ext)) (Mod.ext ed_8), B16, B17⟩) (Tl 8 (.bool (((((decE I.words[i]) : Nat) : Int) == (0 : Int)))) G G (fun _ _ => Mv _ G Ok) (⟨Mt (Mt (Mod.ext ede) (Mod.ext n9.ext)) (Mod.ext ed_8), B16, B17⟩) (Tl 9 (ptr b9 0) G G (fun _ _ => Gt (Yb G G hd8_38) (Fa G fo48_0 Ok)) (⟨Mt (Mt (Mod.ext ede) (Mod.ext n9.ext)) (Mod.ext ed_8), B16, B17⟩) ?_)))))))))
   refine Tl 10 (U8 ((decI I.words[i]).op)) G G (fun _ hS => Gt (Yb G G hd8_38) (Lo G ag5 (hS.2.2.cell (j := 0) G) Ok)) (⟨Mt (Mt (Mod.ext ede) (Mod.ext n9.ext)) (Mod.ext ed_8), B16, B17⟩) (Tl 11 (.bool (((decI I.words[i]).op != 65#8))) G G (fun _ _ => Gt (Yb G G hd8_38) (Bn (vy := U8 (65#8)) G G BinR.neqU8 Ok)) (⟨Mt (Mt (Mod.ext ede) (Mod.ext n9.ext)) (Mod.ext ed_8), B16, B17⟩) (Tl 12 (.bool (((decI I.words[i]).op != 65#8))) G G (fun _ _ => Pk (b := true) (congrArg Value.bool hd8_38) G Ok) (⟨Mt (Mt (Mod.ext ede) (Mod.ext n9.ext)) (Mod.ext ed_8), B16, B17⟩) (Tl 13 (.agg #[U8 ((decI I.words[i]).op), U8 ((decI I.words[i]).rd), U8 ((decI I.words[i]).rs1), U8 ((decI I.words[i]).rs2), I64 ((decI I.words[i]).imm), .bool (((decI I.words[i]).op != 65#8))]) G G (fun _ _ => WL.build (v := .agg #[U8 ((decI I.words[i]).op), U8 ((decI I.words[i]).rd), U8 ((decI I.words[i]).rs1), U8 ((decI I.words[i]).rs2), I64 ((decI I.words[i]).imm), .bool (((decI I.words[i]).op != 65#8))]) (vs := [(0, .agg #[U8 ((decI I.words[i]).op), U8 ((decI I.words[i]).rd), U8 ((decI I.words[i]).rs1), U8 ((decI I.words[i]).rs2), I64 ((decI I.words[i]).imm)]), (1, .bool (((decI I.words[i]).op != 65#8)))]) G (bld10_43 (decI I.words[i]).op (decI I.words[i]).rd (decI I.words[i]).rs1 (decI I.words[i]).rs2 (decI I.words[i]).imm (((decI I.words[i]).op != 65#8))) G Ok) (⟨Mt (Mt (Mod.ext ede) (Mod.ext n9.ext)) (Mod.ext ed_8), B16, B17⟩) (WAL.one (i := 14) (m' := 32767) (by kernel_rfl) G G (WL.buildSlice (vs := [(0, .agg #[U8 ((decI I.words[i]).op), U8 ((decI I.words[i]).rd), U8 ((decI I.words[i]).rs1), U8 ((decI I.words[i]).rs2), I64 ((decI I.words[i]).imm), .bool (((decI I.words[i]).op != 65#8))])]) G (bls10_44 (decI I.words[i]).op (decI I.words[i]).rd (decI I.words[i]).rs1 (decI I.words[i]).rs2 (decI I.words[i]).imm (((decI I.words[i]).op != 65#8))) G ?_)))))
   intro b44 w44 n44
   have E19 := Mt E15 n44.ext
   have B20 := B16.ext n44.ext
   have B21 := B17.ext n44.ext
   refine WL.behindS (⟨Mt (Mt (Mt (Mod.ext ede) (Mod.ext n9.ext)) (Mod.ext ed_8)) (Mod.ext n44.ext), B20, B21⟩) (WAL.one (i := 15) (m' := 65535) (by kernel_rfl) G G ?_)
   have hl44 : b17 < w44.heap.size := B20.lt
   have O22 := (((hO.ext ede).ext n9.ext).ext ed_8).ext n44.ext
   refine WL.append (k := i) (m := 1) (xs := codeV ((I.words.take i).map decW)) (news := [U8 ((decI I.words[i]).op), U8 ((decI I.words[i]).rd), U8 ((decI I.words[i]).rs1), U8 ((decI I.words[i]).rs2), I64 ((decI I.words[i]).imm), .bool (((decI I.words[i]).op != 65#8))]) ap81 G G G O22 ((Sl.of1 n44.blk.cells G).src Tryz.underlying81 (List.all_eq_true.1 G)) (by omega) (by omega) G ?_
   intro v45 w45 o45 m45 l45
   have F23 : From w.heap.size v45 := LocV.from l45 (Mod.size E19) ((fun g hg => by have := (hB g hg).1; omega))
   have N24 : v45.ownBlock ≠ some b17 := LocV.ne l45 B20.lt (fun e => by have := (hB b17 e).1; omega)
   have B26 := ((B11.ext n9.ext).ext ed_8).ext n44.ext
   have N25 : v45.ownBlock ≠ some b2 := LocV.ne l45 B26.lt (fun e => by have := (hB b2 e).1; omega)
   have N27 : v45.ownBlock ≠ some b9 := LocV.ne l45 B21.lt N9
   have E28 : Ext w w45 := Mod.from E19 m45 ((fun g hg => by have := (hB g hg).1; omega))
   have hB2 := locB l45 hB hl44
   have B29 := B20.mod m45 ((fun e => by have := (hB b17 e).1; omega))
   have B30 := B21.mod m45 N9
   refine WL.behindS (⟨Mt (Mt (Mt (Mt (Mod.ext ede) (Mod.ext n9.ext)) (Mod.ext ed_8)) (Mod.ext n44.ext)) m45, B29, B30⟩) (WAL.one (i := 16) (m' := 131071) (by kernel_rfl) G G (WL.nilCheck G G (WL.behindS (⟨Mt (Mt (Mt (Mt (Mod.ext ede) (Mod.ext n9.ext)) (Mod.ext ed_8)) (Mod.ext n44.ext)) m45, B29, B30⟩) (Tl 17 (ptr b17 1) G G (fun _ _ => Fa G fo85_1 Ok) (⟨Mt (Mt (Mt (Mt (Mod.ext ede) (Mod.ext n9.ext)) (Mod.ext ed_8)) (Mod.ext n44.ext)) m45, B29, B30⟩) (WAL.one (i := 18) (m' := 524287) (by kernel_rfl) G G (WL.storeB (v := v45) G G o45.one sz81 B29 (Nat.le_of_ble_eq_true G) ?_))))))
   intro ws31 ms31 bs31 zs31
   have E31 : Ext w ws31 := Mod.then E28 ms31 (fun i hi (e : i = b17) => absurd hi (by omega))
   refine WL.behindL (by kernel_rfl) (WAL.done (by kernel_rfl) (Rg (Bn h21_1 G (BinR.succN (by omega)) (Mv (IN (i + 1)) G (Ni ?_)))))
   have O32 := (((((hIV.ext ede).ext n9.ext).ext ed_8).ext n44.ext).mod m45 ((fun g hg e => by have h1 := hivb g hg; have h2 := (hB g e).1; omega))).mod ms31 (fun g hg e => (fun e => by have := hivb b17 e; omega) (hg.trans (congrArg some e)))
   have hIVe := O32
   have O33 := o45.mod ms31 (fun g hg e => N24 (hg.trans (congrArg some e)))
   have hOe : Ux.Own ws31 6 v45 (i + 1) (codeV ((I.words.take (i + 1)).map decW)) := by rw [codeV_take _ _ hi]; first | (rw [decW_T hd8_38]; exact O33) | (rw [decW_F hd8_38]; exact O33)
   have B34 := (B26.mod m45 ((fun e => by have := (hB b2 e).1; omega))).mod ms31 (by omega)
   exact ⟨ka - 1, by omega, (i + 1), v45, by omega, h0_1, h1_1, h2_1, h6_1, h19_1, h20_1, G, hIVe, hOe, (fun g hg => ⟨hB2 g hg, hOe.lt (by omega) (by decide) hg⟩), bs31, B34, E31⟩
  ·refine WC.drawL (fun w_ => Mod (At cvv) wr w_ ∧ Blk w_ b17 #[.slice none 0 0, cvv, .slice ia il ic, U64 (0#64), U64 (0#64), U64 (0#64), U64 (0#64), U64 (0#64), U64 (0#64), U64 (0#64), U64 (0#64), U64 (0#64), U64 (0#64), U64 (0#64), U64 (0#64), U64 (0#64), U64 (0#64), U64 (0#64), U64 (0#64), U64 (0#64), U64 (0#64), U64 (0#64), U64 (0#64), U64 (0#64), U64 (0#64), U64 (0#64), U64 (0#64), U64 (0#64), U64 (0#64), U64 (0#64), U64 (0#64), U64 (0#64), U64 (0#64), U64 (0#64), U64 (0#64), U64 (65536#64), .slice none 0 0, .nilIface, .int .i64 0] 85 ∧ Blk w_ b9 #[U8 ((decI I.words[i]).op), U8 ((decI I.words[i]).rd), U8 ((decI I.words[i]).rs1), U8 ((decI I.words[i]).rs2), I64 ((decI I.words[i]).imm)] 48) 18 19 G mixed ?_
   intro wd_8 ed_8
   have E36 := Mt E13 ed_8
   have B37 := (B10.ext n9.ext).ext ed_8
   have B38 := n9.blk.ext ed_8
   refine Tl 0 (ptr b17 0) G G (fun _ _ => Mv (ptr b17 0) h6_1 Ok) (⟨Mt (Mt (Mod.ext ede) (Mod.ext n9.ext)) (Mod.ext ed_8), B37, B38⟩) (Tl 1 (ptr b17 0) G G (fun _ _ => Mv (ptr b17 0) h6_1 Ok) (⟨Mt (Mt (Mod.ext ede) (Mod.ext n9.ext)) (Mod.ext ed_8), B37, B38⟩) (Tl 2 (ptr b17 0) G G (fun _ _ => WL.nilCheck G G Ok) (⟨Mt (Mt (Mod.ext ede) (Mod.ext n9.ext)) (Mod.ext ed_8), B37, B38⟩) (Tl 3 (ptr b17 1) G G (fun _ _ => Fa G fo85_1 Ok) (⟨Mt (Mt (Mod.ext ede) (Mod.ext n9.ext)) (Mod.ext ed_8), B37, B38⟩) (Tl 4 cvv G G (fun _ hS => Lo G ag81 (hS.2.1.cell (j := 1) G) Ok) (⟨Mt (Mt (Mod.ext ede) (Mod.ext n9.ext)) (Mod.ext ed_8), B37, B38⟩) (Tl 5 (.agg #[U8 ((decI I.words[i]).op), U8 ((decI I.words[i]).rd), U8 ((decI I.words[i]).rs1), U8 ((decI I.words[i]).rs2), I64 ((decI I.words[i]).imm)]) G G (fun _ hS => Ls _ G ag48 sz48 hS.2.2 Ok) (⟨Mt (Mt (Mod.ext ede) (Mod.ext n9.ext)) (Mod.ext ed_8), B37, B38⟩) (Tl 6 (IN ((decE I.words[i]))) G G (fun _ _ => Mv _ G Ok) (⟨Mt (Mt (Mod.ext ede) (Mod.ext n9.ext)) (Mod.ext ed_8), B37, B38⟩) (Tl 7 (.bool (((((decE I.words[i]) : Nat) : Int) == (0 : Int)))) G G (fun _ _ => Bn G G BinR.eql Ok) (⟨Mt (Mt (Mod.ext ede) (Mod.ext n9.ext)) (Mod.ext ed_8), B37, B38⟩) (Tl 8 (.bool (((((decE I.words[i]) : Nat) : Int) == (0 : Int)))) G G (fun _ _ => Mv _ G Ok) (⟨Mt (Mt (Mod.ext ede) (Mod.ext n9.ext)) (Mod.ext ed_8), B37, B38⟩) (WAL.off (i := 9) (m' := 1023) (y := some false) G G G G (by kernel_rfl) G (fun _ _ _ h => h) (Yb G G hd8_38) G (⟨Mt (Mt (Mod.ext ede) (Mod.ext n9.ext)) (Mod.ext ed_8), B37, B38⟩) ?_)))))))))
   refine WAL.off (i := 10) (m' := 2047) (y := some false) G G G G (by kernel_rfl) G (fun _ _ _ h => h) (Yb G G hd8_38) G (⟨Mt (Mt (Mod.ext ede) (Mod.ext n9.ext)) (Mod.ext ed_8), B37, B38⟩) (WAL.off (i := 11) (m' := 4095) (y := some false) G G G G (by kernel_rfl) G (fun _ _ _ h => h) (Yb G G hd8_38) G (⟨Mt (Mt (Mod.ext ede) (Mod.ext n9.ext)) (Mod.ext ed_8), B37, B38⟩) (Tl 12 (.bool false) G G (fun _ _ => Pk (b := false) (congrArg Value.bool hd8_38) G Ok) (⟨Mt (Mt (Mod.ext ede) (Mod.ext n9.ext)) (Mod.ext ed_8), B37, B38⟩) (Tl 13 (.agg #[U8 ((decI I.words[i]).op), U8 ((decI I.words[i]).rd), U8 ((decI I.words[i]).rs1), U8 ((decI I.words[i]).rs2), I64 ((decI I.words[i]).imm), .bool false]) G G (fun _ _ => WL.build (v := .agg #[U8 ((decI I.words[i]).op), U8 ((decI I.words[i]).rd), U8 ((decI I.words[i]).rs1), U8 ((decI I.words[i]).rs2), I64 ((decI I.words[i]).imm), .bool false]) (vs := [(0, .agg #[U8 ((decI I.words[i]).op), U8 ((decI I.words[i]).rd), U8 ((decI I.words[i]).rs1), U8 ((decI I.words[i]).rs2), I64 ((decI I.words[i]).imm)]), (1, .bool false)]) G (bld10_43 (decI I.words[i]).op (decI I.words[i]).rd (decI I.words[i]).rs1 (decI I.words[i]).rs2 (decI I.words[i]).imm false) G Ok) (⟨Mt (Mt (Mod.ext ede) (Mod.ext n9.ext)) (Mod.ext ed_8), B37, B38⟩) (WAL.one (i := 14) (m' := 32767) (by kernel_rfl) G G (WL.buildSlice (vs := [(0, .agg #[U8 ((decI I.words[i]).op), U8 ((decI I.words[i]).rd), U8 ((decI I.words[i]).rs1), U8 ((decI I.words[i]).rs2), I64 ((decI I.words[i]).imm), .bool false])]) G (bls10_44 (decI I.words[i]).op (decI I.words[i]).rd (decI I.words[i]).rs1 (decI I.words[i]).rs2 (decI I.words[i]).imm false) G ?_)))))
   intro b44 w44 n44
   have E40 := Mt E36 n44.ext
   have B41 := B37.ext n44.ext
   have B42 := B38.ext n44.ext
   refine WL.behindS (⟨Mt (Mt (Mt (Mod.ext ede) (Mod.ext n9.ext)) (Mod.ext ed_8)) (Mod.ext n44.ext), B41, B42⟩) (WAL.one (i := 15) (m' := 65535) (by kernel_rfl) G G ?_)
   have hl44 : b17 < w44.heap.size := B41.lt
   have O43 := (((hO.ext ede).ext n9.ext).ext ed_8).ext n44.ext
   refine WL.append (k := i) (m := 1) (xs := codeV ((I.words.take i).map decW)) (news := [U8 ((decI I.words[i]).op), U8 ((decI I.words[i]).rd), U8 ((decI I.words[i]).rs1), U8 ((decI I.words[i]).rs2), I64 ((decI I.words[i]).imm), .bool false]) ap81 G G G O43 ((Sl.of1 n44.blk.cells G).src Tryz.underlying81 (List.all_eq_true.1 G)) (by omega) (by omega) G ?_
   intro v45 w45 o45 m45 l45
   have F44 : From w.heap.size v45 := LocV.from l45 (Mod.size E40) ((fun g hg => by have := (hB g hg).1; omega))
   have N45 : v45.ownBlock ≠ some b17 := LocV.ne l45 B41.lt (fun e => by have := (hB b17 e).1; omega)
   have B47 := ((B11.ext n9.ext).ext ed_8).ext n44.ext
   have N46 : v45.ownBlock ≠ some b2 := LocV.ne l45 B47.lt (fun e => by have := (hB b2 e).1; omega)
   have N48 : v45.ownBlock ≠ some b9 := LocV.ne l45 B42.lt N9
   have E49 : Ext w w45 := Mod.from E40 m45 ((fun g hg => by have := (hB g hg).1; omega))
   have hB2 := locB l45 hB hl44
   have B50 := B41.mod m45 ((fun e => by have := (hB b17 e).1; omega))
   have B51 := B42.mod m45 N9
   refine WL.behindS (⟨Mt (Mt (Mt (Mt (Mod.ext ede) (Mod.ext n9.ext)) (Mod.ext ed_8)) (Mod.ext n44.ext)) m45, B50, B51⟩) (WAL.one (i := 16) (m' := 131071) (by kernel_rfl) G G (WL.nilCheck G G (WL.behindS (⟨Mt (Mt (Mt (Mt (Mod.ext ede) (Mod.ext n9.ext)) (Mod.ext ed_8)) (Mod.ext n44.ext)) m45, B50, B51⟩) (Tl 17 (ptr b17 1) G G (fun _ _ => Fa G fo85_1 Ok) (⟨Mt (Mt (Mt (Mt (Mod.ext ede) (Mod.ext n9.ext)) (Mod.ext ed_8)) (Mod.ext n44.ext)) m45, B50, B51⟩) (WAL.one (i := 18) (m' := 524287) (by kernel_rfl) G G (WL.storeB (v := v45) G G o45.one sz81 B50 (Nat.le_of_ble_eq_true G) ?_))))))
   intro ws52 ms52 bs52 zs52
   have E52 : Ext w ws52 := Mod.then E49 ms52 (fun i hi (e : i = b17) => absurd hi (by omega))
   refine WL.behindL (by kernel_rfl) (WAL.done (by kernel_rfl) (Rg (Bn h21_1 G (BinR.succN (by omega)) (Mv (IN (i + 1)) G (Ni ?_)))))
   have O53 := (((((hIV.ext ede).ext n9.ext).ext ed_8).ext n44.ext).mod m45 ((fun g hg e => by have h1 := hivb g hg; have h2 := (hB g e).1; omega))).mod ms52 (fun g hg e => (fun e => by have := hivb b17 e; omega) (hg.trans (congrArg some e)))
   have hIVe := O53
   have O54 := o45.mod ms52 (fun g hg e => N45 (hg.trans (congrArg some e)))
   have hOe : Ux.Own ws52 6 v45 (i + 1) (codeV ((I.words.take (i + 1)).map decW)) := by rw [codeV_take _ _ hi]; first | (rw [decW_T hd8_38]; exact O54) | (rw [decW_F hd8_38]; exact O54)
   have B55 := (B47.mod m45 ((fun e => by have := (hB b2 e).1; omega))).mod ms52 (by omega)
   exact ⟨ka - 1, by omega, (i + 1), v45, by omega, h0_1, h1_1, h2_1, h6_1, h19_1, h20_1, G, hIVe, hOe, (fun g hg => ⟨hB2 g hg, hOe.lt (by omega) (by decide) hg⟩), bs52, B55, E52⟩
 ·have hi : i = I.words.length := by have := of_decide_eq_false hc22; omega
  have hOc : Ux.Own wr 6 cvv I.words.length (codeV (I.words.map decW)) := by have h := hO; rw [hi, List.take_length] at h; exact h
  refine WC.exit (Sq (WC.drawL (fun w_ => Ext wr w_) 10 11 G mixed ?_))
  intro wd_10 ed_10
  have R56 : Ext wr wd_10 := ed_10
  have R57 : Ext wr wd_10 := ed_10
  have E58 := Mt hE ed_10
  refine Tl 0 (ptr b17 0) G G (fun _ _ => Mv (ptr b17 0) h6_1 Ok) R57 (Tl 1 (ptr b2 0) G G (fun _ _ => Fa h2_1 fo25_0 Ok) R57 (Tl 2 (.int .i64 I.entry) G G (fun _ hS => Lo G ag3 ((h2.ext hS).cell (j := 0) G) Ok) R57 ?_))
  refine WAL.two (i := 3) (j := 5) (mi := 15) (mj := 39) (by kernel_rfl) G G G G ?_ ?_
  ·have B63 := h17.ext ed_10
   refine WL.makeSliceB (m := I.entry.toNat) ap45 (Eq.trans G hent) (Eq.trans G hent) (by omega) (by omega) G ?_
   intro b52 w52 n52
   have hl52 : b17 < b52 := by have := B63.lt; have := n52.num; omega
   have hk52 : ∀ g, cvv.ownBlock = some g → g < b52 := fun g hg => by have := (hB g hg).2; have := n52.num; have := Mod.size R56; omega
   have R64 := Mt R56 n52.ext
   have R65 := Mt R57 n52.ext
   have E66 := Mt E58 n52.ext
   refine WL.behindS R65 (Tl 4 (.agg #[U64 (4194304#64), .slice (some ⟨b52, 0, none⟩) I.entry.toNat I.entry.toNat]) G G (fun _ _ => WL.build (v := .agg #[U64 (4194304#64), .slice (some ⟨b52, 0, none⟩) I.entry.toNat I.entry.toNat]) (vs := [(0, U64 (4194304#64)), (1, .slice (some ⟨b52, 0, none⟩) I.entry.toNat I.entry.toNat)]) G (bld10_53 b52 I.entry.toNat) G Ok) R65 (WAL.one (i := 5) (m' := 63) (by kernel_rfl) G G ?_))
   have B68 := B63.ext n52.ext
   refine WL.makeSliceB (m := 65536) ap45 G G (by omega) (by omega) G ?_
   intro b54 w54 n54
   have hl54 : b17 < b54 := by have := B68.lt; have := n54.num; omega
   have hk54 : ∀ g, cvv.ownBlock = some g → g < b54 := fun g hg => by have := (hB g hg).2; have := n54.num; have := Mod.size R64; omega
   have hx52 : b52 ≠ b54 := by have := n52.blk.lt; have := n54.num; omega
   have R70 := Mt R65 n54.ext
   have E71 := Mt E66 n54.ext
   refine WL.behindS R70 (Tl 6 (.agg #[U64 (8323072#64), .slice (some ⟨b54, 0, none⟩) 65536 65536]) G G (fun _ _ => WL.build (v := .agg #[U64 (8323072#64), .slice (some ⟨b54, 0, none⟩) 65536 65536]) (vs := [(0, U64 (8323072#64)), (1, .slice (some ⟨b54, 0, none⟩) 65536 65536)]) G (bld10_55 b54 65536) G Ok) R70 (WAL.one (i := 7) (m' := 255) (by kernel_rfl) G G ?_))
   have B73 := n52.blk.ext n54.ext
   refine WL.buildSlice (vs := [(0, .agg #[U64 (4194304#64), .slice (some ⟨b52, 0, none⟩) I.entry.toNat I.entry.toNat]), (1, .agg #[U64 (8323072#64), .slice (some ⟨b54, 0, none⟩) 65536 65536])]) G (bls10_56 b52 b54 I.entry.toNat 65536) G ?_
   intro b56 w56 n56
   have R75 := Mt R70 n56.ext
   have E76 := Mt E71 n56.ext
   have hz56 : b52 < b56 ∧ b54 < b56 := by have := n56.num; have h1 := B73.lt; have h2 := n54.blk.lt; omega
   refine WL.behindS R75 (WAL.one (i := 8) (m' := 511) (by kernel_rfl) G G (WL.nilCheck G G (WL.behindS R75 (Tl 9 (ptr b17 0) G G (fun _ _ => Fa G fo85_0 Ok) R75 (WAL.one (i := 10) (m' := 2047) (by kernel_rfl) G G ?_)))))
   have B78 := (B68.ext n54.ext).ext n56.ext
   refine WL.storeB (v := .slice (some ⟨b56, 0, none⟩) 2 2) G G G sz80 B78 (Nat.le_of_ble_eq_true G) ?_
   intro ws79 ms79 bs79 zs79
   have E79 : Ext w ws79 := Mod.then E76 ms79 (fun i hi (e : i = b17) => absurd hi (by omega))
   refine WL.behindL (by kernel_rfl) (WAL.done (by kernel_rfl) (Sr (Mv (ptr b17 0) h6_1 (WL.nilCheck G G (Fa G fo85_3 (WL.indexArr (i := 2) ar68 sz39 G G (by omega) G (WL.storeB (v := U64 (8388608#64)) G G G sz39 bs79 (Nat.le_of_ble_eq_true G) ?_)))))))
   intro ws80 ms80 bs80 zs80
   have E80 : Ext w ws80 := Mod.then E79 ms80 (fun i hi (e : i = b17) => absurd hi (by omega))
   refine Ni (Sr (Mv (ptr b17 0) h6_1 (An (ptr b17 0) G (An (IN 0) G (Ni (WC.ret ?_))))))
   have B81 := (n56.blk.mod ms79 (by omega)).mod ms80 (by omega)
   have O82 := (((n52.blk.own.ext n54.ext).ext n56.ext).mod ms79 (fun g hg e => (fun e => by have h : b52 = b17 := Option.some.inj e; omega) (hg.trans (congrArg some e)))).mod ms80 (fun g hg e => (fun e => by have h : b52 = b17 := Option.some.inj e; omega) (hg.trans (congrArg some e)))
   have O83 := ((n54.blk.own.ext n56.ext).mod ms79 (fun g hg e => (fun e => by have h : b54 = b17 := Option.some.inj e; omega) (hg.trans (congrArg some e)))).mod ms80 (fun g hg e => (fun e => by have h : b54 = b17 := Option.some.inj e; omega) (hg.trans (congrArg some e)))
   have O84 := (((((hO.ext ed_10).ext n52.ext).ext n54.ext).ext n56.ext).mod ms79 (fun g hg e => (fun e => by have := (hB b17 e).1; omega) (hg.trans (congrArg some e)))).mod ms80 (fun g hg e => (fun e => by have := (hB b17 e).1; omega) (hg.trans (congrArg some e)))
   have O85 := (((((hIV.ext ed_10).ext n52.ext).ext n54.ext).ext n56.ext).mod ms79 (fun g hg e => (fun e => by have := hivb b17 e; omega) (hg.trans (congrArg some e)))).mod ms80 (fun g hg e => (fun e => by have := hivb b17 e; omega) (hg.trans (congrArg some e)))
   obtain ⟨T, hT1, hT2⟩ := new_mr (n0 := w.heap.size) bs80 B81 O82 O83 (by rw [← hi]; have h := O84; rw [hi] at h ⊢; rw [List.take_length] at h; exact h) O85 hivb (fun g hg => (hB g hg).1) hk52 hk54 hl52 hl54 hx52 hz56 hbb hivF h6 (by omega)
   exact ⟨_, Res.two (v := ptr b17 0) (v' := IN 0) G G G, T, b17, G, hT1, hT2, E80⟩
  ·have B86 := h17.ext ed_10
   refine WL.makeSliceB (m := 65536) ap45 G G (by omega) (by omega) G ?_
   intro b54 w54 n54
   have hl54 : b17 < b54 := by have := B86.lt; have := n54.num; omega
   have hk54 : ∀ g, cvv.ownBlock = some g → g < b54 := fun g hg => by have := (hB g hg).2; have := n54.num; have := Mod.size R56; omega
   have R87 := Mt R56 n54.ext
   have R88 := Mt R57 n54.ext
   have E89 := Mt E58 n54.ext
   refine WL.behindS R88 (Tl 6 (.agg #[U64 (8323072#64), .slice (some ⟨b54, 0, none⟩) 65536 65536]) G G (fun _ _ => WL.build (v := .agg #[U64 (8323072#64), .slice (some ⟨b54, 0, none⟩) 65536 65536]) (vs := [(0, U64 (8323072#64)), (1, .slice (some ⟨b54, 0, none⟩) 65536 65536)]) G (bld10_55 b54 65536) G Ok) R88 (WAL.one (i := 3) (m' := 111) (by kernel_rfl) G G ?_))
   have B91 := B86.ext n54.ext
   refine WL.makeSliceB (m := I.entry.toNat) ap45 (Eq.trans G hent) (Eq.trans G hent) (by omega) (by omega) G ?_
   intro b52 w52 n52
   have hl52 : b17 < b52 := by have := B91.lt; have := n52.num; omega
   have hk52 : ∀ g, cvv.ownBlock = some g → g < b52 := fun g hg => by have := (hB g hg).2; have := n52.num; have := Mod.size R87; omega
   have hx52 : b52 ≠ b54 := by have := n54.blk.lt; have := n52.num; omega
   have R93 := Mt R88 n52.ext
   have E94 := Mt E89 n52.ext
   refine WL.behindS R93 (Tl 4 (.agg #[U64 (4194304#64), .slice (some ⟨b52, 0, none⟩) I.entry.toNat I.entry.toNat]) G G (fun _ _ => WL.build (v := .agg #[U64 (4194304#64), .slice (some ⟨b52, 0, none⟩) I.entry.toNat I.entry.toNat]) (vs := [(0, U64 (4194304#64)), (1, .slice (some ⟨b52, 0, none⟩) I.entry.toNat I.entry.toNat)]) G (bld10_53 b52 I.entry.toNat) G Ok) R93 (WAL.one (i := 7) (m' := 255) (by kernel_rfl) G G ?_))
   have B96 := n54.blk.ext n52.ext
   refine WL.buildSlice (vs := [(0, .agg #[U64 (4194304#64), .slice (some ⟨b52, 0, none⟩) I.entry.toNat I.entry.toNat]), (1, .agg #[U64 (8323072#64), .slice (some ⟨b54, 0, none⟩) 65536 65536])]) G (bls10_56 b52 b54 I.entry.toNat 65536) G ?_
   intro b56 w56 n56
   have R98 := Mt R93 n56.ext
   have E99 := Mt E94 n56.ext
   have hz56 : b52 < b56 ∧ b54 < b56 := by have := n56.num; have h1 := n52.blk.lt; have h2 := B96.lt; omega
   refine WL.behindS R98 (WAL.one (i := 8) (m' := 511) (by kernel_rfl) G G (WL.nilCheck G G (WL.behindS R98 (Tl 9 (ptr b17 0) G G (fun _ _ => Fa G fo85_0 Ok) R98 (WAL.one (i := 10) (m' := 2047) (by kernel_rfl) G G ?_)))))
   have B101 := (B91.ext n52.ext).ext n56.ext
   refine WL.storeB (v := .slice (some ⟨b56, 0, none⟩) 2 2) G G G sz80 B101 (Nat.le_of_ble_eq_true G) ?_
   intro ws102 ms102 bs102 zs102
   have E102 : Ext w ws102 := Mod.then E99 ms102 (fun i hi (e : i = b17) => absurd hi (by omega))
   refine WL.behindL (by kernel_rfl) (WAL.done (by kernel_rfl) (Sr (Mv (ptr b17 0) h6_1 (WL.nilCheck G G (Fa G fo85_3 (WL.indexArr (i := 2) ar68 sz39 G G (by omega) G (WL.storeB (v := U64 (8388608#64)) G G G sz39 bs102 (Nat.le_of_ble_eq_true G) ?_)))))))
   intro ws103 ms103 bs103 zs103
   have E103 : Ext w ws103 := Mod.then E102 ms103 (fun i hi (e : i = b17) => absurd hi (by omega))
   refine Ni (Sr (Mv (ptr b17 0) h6_1 (An (ptr b17 0) G (An (IN 0) G (Ni (WC.ret ?_))))))
   have B104 := (n56.blk.mod ms102 (by omega)).mod ms103 (by omega)
   have O105 := ((n52.blk.own.ext n56.ext).mod ms102 (fun g hg e => (fun e => by have h : b52 = b17 := Option.some.inj e; omega) (hg.trans (congrArg some e)))).mod ms103 (fun g hg e => (fun e => by have h : b52 = b17 := Option.some.inj e; omega) (hg.trans (congrArg some e)))
   have O106 := (((n54.blk.own.ext n52.ext).ext n56.ext).mod ms102 (fun g hg e => (fun e => by have h : b54 = b17 := Option.some.inj e; omega) (hg.trans (congrArg some e)))).mod ms103 (fun g hg e => (fun e => by have h : b54 = b17 := Option.some.inj e; omega) (hg.trans (congrArg some e)))
   have O107 := (((((hO.ext ed_10).ext n54.ext).ext n52.ext).ext n56.ext).mod ms102 (fun g hg e => (fun e => by have := (hB b17 e).1; omega) (hg.trans (congrArg some e)))).mod ms103 (fun g hg e => (fun e => by have := (hB b17 e).1; omega) (hg.trans (congrArg some e)))
   have O108 := (((((hIV.ext ed_10).ext n54.ext).ext n52.ext).ext n56.ext).mod ms102 (fun g hg e => (fun e => by have := hivb b17 e; omega) (hg.trans (congrArg some e)))).mod ms103 (fun g hg e => (fun e => by have := hivb b17 e; omega) (hg.trans (congrArg some e)))
   obtain ⟨T, hT1, hT2⟩ := new_mr (n0 := w.heap.size) bs103 B104 O105 O106 (by rw [← hi]; have h := O107; rw [hi] at h ⊢; rw [List.take_length] at h; exact h) O108 hivb (fun g hg => (hB g hg).1) hk52 hk54 hl52 hl54 hx52 hz56 hbb hivF h6 (by omega)
   exact ⟨_, Res.two (v := ptr b17 0) (v' := IN 0) G G G, T, b17, G, hT1, hT2, E103⟩
end Go.Proofs.S
end
section
namespace Go.Ux
open Go
def pairT (P : Program) (t : Nat) : Bool :=
 match P.underlying t with
 | some (.struct fs) => match fs.toList with
  | [a, b] => a.name != "_" && b.name != "_" && a.offset == 0 && b.offset == 1 && (match P.underlying a.type with | some (.int _) => true | _ => false) && (match P.underlying b.type with | some (.int _) => true | _ => false) && isAggT P a.type == some false && isAggT P b.type == some false && !P.stoodInHeld t
  | _ => false
 | _ => false
theorem equal_pair {P : Program} {t : Nat} (h : pairT P t = true) (k1 k2 : IntKind) (a b x y : Int) (w : World) : (Op.equal t (.agg #[.int k1 a, .int k2 x]) (.agg #[.int k1 b, .int k2 y])).run P w = .ok (a == b && x == y) w := by
 unfold pairT at h
 split at h <;> try cases h
 rename_i fs hu
 split at h <;> try cases h
 rename_i fa fb hl
 simp only [Bool.and_eq_true, bne_iff_ne, beq_iff_eq, Bool.not_eq_true'] at h
 obtain ⟨⟨⟨⟨⟨⟨⟨⟨h1, h2⟩, h3⟩, h4⟩, h5⟩, h6⟩, h7⟩, h8⟩, h9⟩ := h
 split at h5 <;> try cases h5
 rename_i ka hia
 split at h6 <;> try cases h6
 rename_i kb hib
 have hf : P.fieldsOf t = fs := by simp [Program.fieldsOf, hu]
 show (Op.equalIn (9999 + 1) t _ _).run P w = _
 rw [run_equalIn_struct (P := P) w 9999 t _ _ (by rw [hf]; exact hu) h9, hf, hl]
 have e1 : ∀ w, (Op.equalIn 9999 fa.type (.int k1 a) (.int k1 b)).run P w = .ok (a == b) w := fun w => by
  show (Op.equalIn (9998 + 1) fa.type (.int k1 a) (.int k1 b)).run P w = _
  unfold Op.equalIn
  simp [run_underlying hia, Result.andThen]
 have e2 : ∀ w, (Op.equalIn 9999 fb.type (.int k2 x) (.int k2 y)).run P w = .ok (x == y) w := fun w => by
  show (Op.equalIn (9998 + 1) fb.type (.int k2 x) (.int k2 y)).run P w = _
  unfold Op.equalIn
  simp [run_underlying hib, Result.andThen]
 simp only [Op.eqFields, h1, h2, h3, h4, ne_eq, not_false_eq_true, if_true]
 have p1 : ∀ (u v : Value) (w : World), (part fa.type #[u, v] 0).run P w = .ok u w := fun u v w => by simp [part, isAggT_run h7, Result.andThen]
 have p2 : ∀ (u v : Value) (w : World), (part fb.type #[u, v] 1).run P w = .ok v w := fun u v w => by simp [part, isAggT_run h8, Result.andThen]
 simp only [Sem.run_bind, p1, e1, Result.andThen]
 generalize (a == b) = p at *
 generalize (x == y) = q at *
 cases p <;> cases q <;> simp [p2, e2, Result.andThen]
theorem beqInt {n : Nat} (x y : BitVec n) : (x.toInt == y.toInt) = (x == y) := by
 rw [Bool.eq_iff_iff]
 simp only [beq_iff_eq]
 exact ⟨BitVec.eq_of_toInt_eq, fun h => by rw [h]⟩
theorem BinR.eqlEv {P : Program} {t : Nat} (h : pairT P t = true) (hg : P.eqGuardType P.depth t = false) {a b : BitVec 8} {x y : BitVec 64} : BinR P .eql t (.agg #[U8 a, I64 x]) (.agg #[U8 b, I64 y]) (.bool (a == b && x == y)) := fun o o' w => by
 have e := equal_pair h .u8 .i64 a.toNat b.toNat x.toInt y.toInt w
 rw [beqNat, beqInt] at e
 simp only [eqGuard, binOp, Sem.run_bind, Sem.run_pure, Result.andThen]; simp [e, hg]
theorem BinR.neqEv {P : Program} {t : Nat} (h : pairT P t = true) (hg : P.eqGuardType P.depth t = false) {a b : BitVec 8} {x y : BitVec 64} : BinR P .neq t (.agg #[U8 a, I64 x]) (.agg #[U8 b, I64 y]) (.bool !(a == b && x == y)) := fun o o' w => by
 have e := equal_pair h .u8 .i64 a.toNat b.toNat x.toInt y.toInt w
 rw [beqNat, beqInt] at e
 simp only [eqGuard, binOp, Sem.run_bind, Sem.run_pure, Result.andThen]; simp [e, hg]
end Go.Ux
end
section
set_option linter.unusedSimpArgs false
set_option linter.unusedVariables false
namespace Go.Proofs.S
open Go Go.Ux Go.Ux.Mach Go.Proofs
theorem zt25 : zeroT Tryz.prog 25 = some #[.int .i64 0, .slice none 0 0, .slice none 0 0] := by kernel_rfl
theorem bld20_6  : ∀ w : World, (Instr.build 98 #[(0, St [115, 116, 97, 114, 116])]).run Tryz.prog w = .ok (.agg #[St [115, 116, 97, 114, 116], IN 0]) w := fun _ => by kernel_rfl
theorem bls20_7  : ∀ w : World, (Instr.buildSlice 22 1 #[(0, .agg #[St [115, 116, 97, 114, 116], IN 0])]).run Tryz.prog w = .ok (.slice (some ⟨w.heap.size, 0, none⟩) 1 1) (w.alloc (.cells #[St [115, 116, 97, 114, 116], IN 0] 98)) := fun _ => by kernel_rfl
theorem bld20_9 (x : Int) (p : Nat) (a : Option Addr) (n c : Nat) : ∀ w : World, (Instr.build 25 #[(0, .int .i64 x), (1, .slice (some ⟨p, 0, none⟩) 1 1), (2, .slice a n c)]).run Tryz.prog w = .ok (.agg #[.int .i64 x, .slice (some ⟨p, 0, none⟩) 1 1, .slice a n c]) w := fun _ => by kernel_rfl
theorem bls9_6  : ∀ w : World, (Instr.buildSlice 23 5 #[(0, U32 (7341331#32)), (1, U32 (2099347#32)), (2, U32 (115#32)), (3, U32 (3147923#32)), (4, U32 (115#32))]).run Tryz.prog w = .ok (.slice (some ⟨w.heap.size, 0, none⟩) 5 5) (w.alloc (.cells #[U32 (7341331#32), U32 (2099347#32), U32 (115#32), U32 (3147923#32), U32 (115#32)] 50)) := fun _ => by kernel_rfl
theorem ca20 : callable Tryz.prog 20 = true := by kernel_rfl
theorem ca10 : callable Tryz.prog 10 = true := by kernel_rfl
theorem ca11 : callable Tryz.prog 11 = true := by kernel_rfl
theorem ca14 : callable Tryz.prog 14 = true := by kernel_rfl
theorem el34 : elemT Tryz.prog 34 = some 38 := by kernel_rfl
theorem sz38 : sizeT Tryz.prog 38 = some 2 := by kernel_rfl
theorem ag38 : isAggT Tryz.prog 38 = some true := by kernel_rfl
theorem bld9_30  : ∀ w : World, (Instr.build 38 #[(0, .int .u8 2), (1, I64 (7#64))]).run Tryz.prog w = .ok (.agg #[.int .u8 2, I64 (7#64)]) w := fun _ => by kernel_rfl
theorem bld9_37  : ∀ w : World, (Instr.build 38 #[(0, .int .u8 3), (1, I64 (7#64))]).run Tryz.prog w = .ok (.agg #[.int .u8 3, I64 (7#64)]) w := fun _ => by kernel_rfl
theorem ca13 : callable Tryz.prog 13 = true := by kernel_rfl
theorem ca16 : callable Tryz.prog 16 = true := by kernel_rfl
open Go.Proofs.M (instV Glob findRow decodeAt decReg rowIs findRow_lt)
open Go.Ux.Image
theorem glob_size {w : World} (h : Glob w) : 6 ≤ w.heap.size := by
 have := World.block_lt_of_cell? w _ (h.f7 0 _ rfl)
 exact this
theorem findRow_pos {x : BitVec 32} {i : Nat} (h : findRow x tableD = some i) : 1 ≤ i := by
 rcases Nat.eq_zero_or_pos i with h0 | h0
 ·subst h0
  unfold findRow at h
  rw [List.findIdx?_eq_some_iff_getElem] at h
  obtain ⟨hl, h1, _⟩ := h
  exact absurd h1 (by show ¬ rowIs zeroRow x = true; unfold rowIs; simp [zeroRow, RvRow.form, formOf, zeroForm])
 ·exact h0
theorem decReg_lt (has : Bool) (k : Nat) (x : BitVec 32) : (decReg has (k, 5) x).toNat < 32 := by
 unfold decReg
 split
 ·have h1 : ((1#32 <<< 5) - 1#32 : BitVec 32) = 31#32 := by decide
  simp only [bitsOf, h1, BitVec.toNat_setWidth, BitVec.toNat_and]
  have : (x >>> k).toNat &&& (31#32 : BitVec 32).toNat ≤ 31 := Nat.and_le_right
  omega
 ·decide
theorem decI_ok {x : BitVec 32} (h : (decW x).2 = true) : 1 ≤ (decI x).op.toNat ∧ (decI x).op.toNat < 66 ∧ ((decI x).rs1).toNat < 32 ∧ ((decI x).rs2).toNat < 32 ∧ ((decI x).rd).toNat < 32 := by
 have h0 : (((decE x : Nat) : Int) == (0 : Int)) = true := by
  rcases Bool.eq_false_or_eq_true (((decE x : Nat) : Int) == (0 : Int)) with h1 | h1
  ·exact h1
  ·rw [decW_F h1] at h; cases h
 unfold decE at h0
 unfold decI
 rcases hf : findRow x tableD with _ | i
 ·rw [hf] at h0; cases h0
 ·have h1 := findRow_pos hf
  have h2 : i < 66 := findRow_lt hf
  have e : (BitVec.ofNat 8 i).toNat = i := by rw [BitVec.toNat_ofNat]; omega
  refine ⟨?_, ?_, decReg_lt _ _ _, decReg_lt _ _ _, decReg_lt _ _ _⟩
  ·show 1 ≤ (BitVec.ofNat 8 i).toNat; omega
  ·show (BitVec.ofNat 8 i).toNat < 66; omega
theorem newM_code {I : Img} {inp : List (BitVec 64)} (h : I.words.length ≤ 262144) : CodeOk (newM I inp).code := by
 refine ⟨by show (I.words.map decW).length ≤ _; rw [List.length_map]; omega, fun p hp h2 => ?_⟩
 obtain ⟨x, _, rfl⟩ := List.mem_map.1 hp
 exact decI_ok h2
theorem pair38 : pairT Tryz.prog 38 = true := by kernel_rfl
theorem pairg38 : Tryz.prog.eqGuardType Tryz.prog.depth 38 = false := by kernel_rfl
def workI : Img := ⟨0, [([115, 116, 97, 114, 116], 0)], [7341331#32, 2099347#32, 115#32, 3147923#32, 115#32]⟩
theorem work_right : rightB workI = true := by kernel_rfl
theorem work_n : (runN 100 (newM workI [])).1 = 5 := by kernel_rfl
theorem work_ev : (runN 100 (newM workI [])).2.events = [(2#8, 7#64), (3#8, 7#64)] := by kernel_rfl
theorem work_fin : (runN 100 (newM workI [])).2.fin = some false := by kernel_rfl
theorem whole_spec (a : Option Addr) (n c : Nat) (dat : Int) (w : World) : CallsR Tryz.prog 20 #[.slice a n c, .int .i64 dat] w (fun v w' => ∃ p, v = .agg #[.int .i64 dat, .slice (some ⟨p, 0, none⟩) 1 1, .slice a n c] ∧ Sl w' (.slice (some ⟨p, 0, none⟩) 1 1) 2 1 (symCells [([115, 116, 97, 114, 116], 0)]) ∧ Ext w w') := by
 refine callsR_of Tryz.func20 G G G ?_
 refine Sr (WL.alloc zt25 G ?_)
 intro b4 w4 n4
 have E1 : Ext w w4 := n4.ext
 refine Ni (Sr (Mv (.int .i64 dat) G (WL.build (v := .agg #[St [115, 116, 97, 114, 116], IN 0]) (vs := [(0, St [115, 116, 97, 114, 116])]) G bld20_6 G (WL.buildSlice (vs := [(0, .agg #[St [115, 116, 97, 114, 116], IN 0])]) G bls20_7 G ?_))))
 intro b7 w7 n7
 have E2 := Mt E1 n7.ext
 refine Mv (.slice a n c) G (WL.build (v := .agg #[.int .i64 dat, .slice (some ⟨b7, 0, none⟩) 1 1, .slice a n c]) (vs := [(0, .int .i64 dat), (1, .slice (some ⟨b7, 0, none⟩) 1 1), (2, .slice a n c)]) G (bld20_9 dat b7 a n c) G ?_)
 have B3 := n4.blk.ext n7.ext
 refine WL.storeS (v := .agg #[.int .i64 dat, .slice (some ⟨b7, 0, none⟩) 1 1, .slice a n c]) G G B3 G sz25 G G ?_
 intro ws4 ms4 bs4 zs4
 have E4 : Ext w ws4 := Mod.own (Mod.refl _ _) n4 E2 ms4
 refine Ni (WC.ret ?_)
 have B5 := n7.blk.mod ms4 (Ne.symm (n4.blk.ne n7))
 exact ⟨_, Res.cell G G (loadVar_agg [.int .i64 dat, .slice (some ⟨b7, 0, none⟩) 1 1, .slice a n c] ag25 sz25 G (bs4.sub (o := 0) G)), b7, G, (Sl.of1 B5.cells G), E4⟩
theorem works_spec (w : World) (hG : Glob w) (hX : w.cell? ⟨3, 0, none⟩ = some (.iface 206 (.agg #[.pointer (some ⟨6, 83, none⟩)]))) : CallsR Tryz.prog 9 #[] w (fun v w' => v = .bool true ∧ Ext w w') := by
 refine callsR_of Tryz.func9 G G G ?_
 refine Sr (An (.bool false) G (Ni (Sr (WL.buildSlice (vs := [(0, U32 (7341331#32)), (1, U32 (2099347#32)), (2, U32 (115#32)), (3, U32 (3147923#32)), (4, U32 (115#32))]) G bls9_6 G ?_))))
 intro b6 w6 n6
 have E1 : Ext w w6 := n6.ext
 refine WL.call ca20 G G (whole_spec (some ⟨b6, 0, none⟩) 5 5 0 _) ?_
 rintro _ wwh ⟨p, rfl, hsy, ewh⟩
 have E2 := Mt E1 ewh
 have B3 := n6.blk.ext ewh
 have hRW : Rep wwh (.slice (some ⟨p, 0, none⟩) 1 1) (.slice (some ⟨b6, 0, none⟩) 5 5) workI := ⟨hsy, Go.Proofs.M.Sl.ofCells (n := 5) B3.cells rfl, by decide, by decide⟩
 refine WL.call ca10 G G (new_ok workI _ _ (.slice none 0 0) [] _ hRW (by decide) (hG.ext E2) (glob_size (hG.ext E2)) (Sl.nil _ _ _) (.inl G) (by decide) work_right) ?_
 rintro _ wne ⟨T, b, rfl, hM, hT, ene⟩
 have hTw : ∀ k, T k ≠ 0 → w.heap.size ≤ k := fun k h => Nat.le_trans (Mod.size E2) (hT k h)
 have E4 := Mt E2 ene
 refine Mv (.tuple #[ptr b 0, IN 0]) G (Et G G (Et G G (An (ptr b 0) G (An (IN 0) G (Ni (Sr (Mv (ptr b 0) G (WL.call ca11 G G (run_spec T b (newM workI []) _ hM 100 (by decide) (newM_code (by decide)) (hG.ext E4) (Mod.cell E4 hX (fun h => h)) (by decide)) ?_))))))))
 rintro v12 wru ⟨hv12, T1, hM1, m1, hs1⟩
 obtain rfl : v12 = IN 5 := hv12.trans (congrArg (fun n : Nat => IN n) work_n)
 have EM5 : Ext w wru := Mod.then E4 m1 (fun i hi e => absurd (hTw i e) (Nat.not_le_of_lt hi))
 refine An (IN 5) G (Ni (Sr (Mv (ptr b 0) G ?_)))
 have hle : (runN (100 : Int).toNat (newM workI [])).2.events = [(2#8, 7#64), (3#8, 7#64)] := work_ev
 refine WL.call ca14 G G (events_spec T1 b _ _ hM1 (by rw [hle]; decide)) ?_
 rintro v14 wev ⟨hc1, hc2, hc3⟩
 rw [hle] at hc1
 have E6 := Mt EM5 hc3
 refine An v14 G (Ni (Sr (Mv (IN 0) G (Bn (v := .bool true) G G (BinR.toB BinR.eql G) (Mv (.bool true) G (Gt G (Mv (IN 5) G (Gt G ?_))))))))
 refine Bn (v := .bool true) G G (BinR.toB BinR.eql G) (Pk (b := true) G G (Mv (.bool true) G (Gt G (Mv v14 G (Gt G (WL.lenSl (sz := 2) (m := 2) (xs := evV [(2#8, 7#64), (3#8, 7#64)]) el34 G hc1.sl G (Gt G (Bn (v := .bool true) G G (BinR.toB BinR.eql G) (Pk (b := true) G G ?_)))))))))
 refine Mv (.bool true) G (Gt G (Mv v14 G (Gt G (WL.indexSl (sz := 2) (m := 2) (xs := evV [(2#8, 7#64), (3#8, 7#64)]) (i := 0) el34 sz38 G G (by omega) hc1.sl G ?_))))
 intro b28 o28 hb28 hc28
 refine Gt G (WL.loadS [U8 2#8, I64 7#64] G ag38 sz38 G (cells2 (i := 0) hc28 G G) G (Gt G (WL.build (v := .agg #[.int .u8 2, I64 (7#64)]) (vs := [(0, .int .u8 2), (1, I64 (7#64))]) G bld9_30 G (Gt G (Bn (vx := .agg #[U8 2#8, I64 7#64]) (vy := .agg #[U8 2#8, I64 7#64]) (v := .bool true) G G (BinR.toB (BinR.eqlEv pair38 pairg38) (by decide)) (Pk (b := true) G G (Mv (.bool true) G (Gt G (Mv v14 G ?_)))))))))
 refine Gt G (WL.indexSl (sz := 2) (m := 2) (xs := evV [(2#8, 7#64), (3#8, 7#64)]) (i := 1) el34 sz38 G G (by omega) hc1.sl G ?_)
 intro b35 o35 hb35 hc35
 refine Gt G (WL.loadS [U8 3#8, I64 7#64] G ag38 sz38 G (cells2 (i := 1) hc35 G G) G (Gt G (WL.build (v := .agg #[.int .u8 3, I64 (7#64)]) (vs := [(0, .int .u8 3), (1, I64 (7#64))]) G bld9_37 G (Gt G (Bn (vx := .agg #[U8 3#8, I64 7#64]) (vy := .agg #[U8 3#8, I64 7#64]) (v := .bool true) G G (BinR.toB (BinR.eqlEv pair38 pairg38) (by decide)) (Pk (b := true) G G (Mv (.bool true) G (Gt G (Mv (ptr b 0) G ?_)))))))))
 refine Gt G (WL.call ca13 G G (ended_spec T1 b _ _ (hM1.ext hc3)) ?_)
 rintro _ we ⟨rfl, ee⟩
 rw [show (runN (100 : Int).toNat (newM workI [])).2.fin = some false from work_fin]
 have E7 := Mt E6 ee
 refine Pk (b := true) G G (Mv (.bool true) G (Gt G (Mv (ptr b 0) G (Gt G (WL.call ca16 G G (trapped_m T1 b _ _ (hM1.ext (hc3.trans ee)) (Mod.cell E7 hX (fun h => h))) ?_)))))
 rintro _ wt ⟨rfl, et⟩
 rw [show (runN (100 : Int).toNat (newM workI [])).2.fin = some false from work_fin]
 have E8 := Mt E7 et
 refine Gt G (WL.un G G UnR.not (Pk (b := true) G G (An (.bool true) G (Ni (WC.ret ?_)))))
 exact ⟨_, Res.one (v := .bool true) G G, G, E8⟩
end Go.Proofs.S
end
section
set_option linter.unusedSimpArgs false
set_option linter.unusedVariables false
namespace Go.Proofs.S
open Go Go.Ux Go.Ux.Mach Go.Proofs
theorem ca9 : callable Tryz.prog 9 = true := by kernel_rfl
theorem fo25_1 : fieldOff Tryz.prog 25 1 = some 1 := by kernel_rfl
theorem ag22 : isAggT Tryz.prog 22 = some false := by kernel_rfl
theorem el22 : elemT Tryz.prog 22 = some 98 := by kernel_rfl
theorem ca15 : callable Tryz.prog 15 = true := by kernel_rfl
theorem ca17 : callable Tryz.prog 17 = true := by kernel_rfl
open Go.Proofs.M (instV Glob)
open Go.Ux.Image
end Go.Proofs.S
end
section
set_option linter.unusedSimpArgs false
set_option linter.unusedVariables false
namespace Go.Proofs.S
open Go Go.Ux Go.Ux.Mach Go.Proofs
theorem ap23 : appT Tryz.prog 23 = some (50, 1, 4, #[.int .u32 0]) := by kernel_rfl
open Go.Proofs.M (instV Glob)
open Go.Ux.Image
end Go.Proofs.S
end
section
namespace Go.Ux
open Go
def tstOf {α : Type} (K : Value → Option α) (x d n : Nat) : List Oper → Option (Nat × α)
 | [⟨some t, .binOp .eql _ (.tmp x') (.const s) _, _, _, _, none⟩, ⟨some d', .assign (.tmp t'), _, _, _, none⟩] =>
  if x' = x ∧ d' = d ∧ t' = t ∧ t ≠ d ∧ t ≠ x ∧ d ≠ x ∧ t < n ∧ d < n then (K s).map fun a => (t, a) else none
 | _ => none
def orOf {α : Type} (K : Value → Option α) (x d n : Nat) : Code → Option (List α × List Nat)
 | .region _ ops false => (tstOf K x d n ops.toList).map fun p => ([p.2], [p.1])
 | .seq (.region _ ops false) (.cond (.tmp d') .skip rest) => match tstOf K x d n ops.toList, orOf K x d n rest with
  | some p, some q => if d' = d then some (p.2 :: q.1, p.1 :: q.2) else none
  | _, _ => none
 | _ => none
theorem tstOf_eq {α : Type} {K : Value → Option α} {x d n : Nat} {l : List Oper} {p : Nat × α} (h : tstOf K x d n l = some p) : ∃ v ty u ty1 pos1 a1 ty2 pos2 a2, K v = some p.2 ∧ l = [(⟨some p.1, .binOp .eql ty (.tmp x) (.const v) u, ty1, pos1, a1, none⟩ : Oper), ⟨some d, .assign (.tmp p.1), ty2, pos2, a2, none⟩] ∧ p.1 ≠ d ∧ p.1 ≠ x ∧ d ≠ x ∧ p.1 < n ∧ d < n := by
 unfold tstOf at h
 split at h
 ·split at h
  ·rename_i t ty x' s u ty1 pos1 a1 d' t' ty2 pos2 a2 hc
   obtain ⟨rfl, rfl, rfl, h1, h2, h3, h4, h5⟩ := hc
   rcases hk : K s with _ | a
   ·rw [hk] at h; cases h
   ·rw [hk] at h; cases h
    exact ⟨s, ty, u, ty1, pos1, a1, ty2, pos2, a2, hk, G, h1, h2, h3, h4, h5⟩
  ·cases h
 ·cases h
variable {P : Program} {n : Nat} {w : World} {Q : Exit → Fr → World → Prop} {α : Type} {K : Value → Option α} {X : Value} {E : α → Bool}
theorem WC.tst (r : ∀ ty v a, K v = some a → BinR P .eql ty X v (.bool (E a))) {id x d : Nat} {f : Fr} {ops : Array Oper} {p : Nat × α} (h : tstOf K x d n ops.toList = some p) (hx : f x = X) (k : Q .normal (upd (upd f p.1 (.bool (E p.2))) d (.bool (E p.2))) w) : WC P (.region id ops false) n f w Q := by
 obtain ⟨vc, ty, u, ty1, pos1, a1, ty2, pos2, a2, hkv, e, h1, h2, h3, h4, h5⟩ := tstOf_eq h
 obtain rfl : ops = [(⟨some p.1, .binOp .eql ty (.tmp x) (.const vc) u, ty1, pos1, a1, none⟩ : Oper), ⟨some d, .assign (.tmp p.1), ty2, pos2, a2, none⟩].toArray := by rw [← e, Array.toArray_toList]
 exact Rg (WL.bin (v := .bool (E p.2)) hx G (decide_eq_true h4) (r ty vc p.2 hkv) (WL.assign (v := .bool (E p.2)) (upd_same _ _ _) (decide_eq_true h5) (Ni k)))
theorem WC.orN (r : ∀ ty v a, K v = some a → BinR P .eql ty X v (.bool (E a))) {x d : Nat} : ∀ (m : Nat) (c : Code) {f : Fr} {cs : List α} {ts : List Nat}, SizeOf.sizeOf c ≤ m → orOf K x d n c = some (cs, ts) → f x = X →
  (∀ f' : Fr, (∀ j, j ≠ d → ts.contains j = false → f' j = f j) → f' d = .bool (cs.any E) → Q .normal f' w) → WC P c n f w Q
 | 0, c, f, cs, ts, hm, h, hx, k => by cases c <;> simp at hm
 | m + 1, c, f, cs, ts, hm, h, hx, k => by
  unfold orOf at h
  split at h
  ·rename_i id ops
   rcases hp : tstOf K x d n ops.toList with _ | p
   ·rw [hp] at h; cases h
   ·rw [hp] at h; cases h
    refine WC.tst r hp hx (k _ (fun j h1 h2 => ?_) ?_)
    ·have : j ≠ p.1 := by simpa using h2
     rw [upd_other _ _ _ _ h1, upd_other _ _ _ _ this]
    ·rw [upd_same]; simp
  ·rename_i id ops d' rest
   rcases hp : tstOf K x d n ops.toList with _ | p
   ·rw [hp] at h; cases h
   rcases hq : orOf K x d n rest with _ | q
   ·rw [hp, hq] at h; cases h
   rw [hp, hq] at h
   dsimp only at h
   split at h
   ·rename_i hd; subst hd
    cases h
    obtain ⟨vc, ty, u, ty1, pos1, a1, ty2, pos2, a2, hkv, e, h1, h2, h3, h4, h5⟩ := tstOf_eq hp
    refine Sq (WC.tst r hp hx ?_)
    refine WC.cond (t := E p.2) (upd_same _ _ _) (fun ht => WC.skip (k _ (fun j g1 g2 => ?_) ?_)) (fun hf => WC.orN r m rest (by simp at hm; omega) hq ?_ fun f' g1 g2 => k f' (fun j g3 g4 => ?_) ?_)
    ·have : j ≠ p.1 := by intro e; subst e; simp at g2
     rw [upd_other _ _ _ _ g1, upd_other _ _ _ _ this]
    ·rw [upd_same, List.any_cons, ht]; rfl
    ·rw [upd_other _ _ _ _ (Ne.symm h3), upd_other _ _ _ _ (Ne.symm h2)]; exact hx
    ·have g5 : j ≠ p.1 ∧ q.2.contains j = false := by
      rw [List.contains_cons, Bool.or_eq_false_iff] at g4
      exact ⟨by simpa using g4.1, g4.2⟩
     rw [g1 j g3 g5.2, upd_other _ _ _ _ g3, upd_other _ _ _ _ g5.1]
    ·rw [g2, List.any_cons, hf]; rfl
   ·cases h
  ·cases h
def mixF (ts : List Nat) (g f : Fr) : Fr := fun j => if ts.contains j then g j else f j
theorem mix_eq {f f' : Fr} {d : Nat} {ts : List Nat} {v : Value} (h : ∀ j, j ≠ d → ts.contains j = false → f' j = f j) (hd : f' d = v) : f' = upd (mixF ts f' f) d v := by
 funext j
 by_cases e : j = d
 ·subst e; rw [upd_same]; exact hd
 ·rw [upd_other _ _ _ _ e]
  unfold mixF
  rcases ht : ts.contains j with _ | _
  ·rw [if_neg (by decide)]; exact h j e ht
  ·rw [if_pos rfl]
def kStr : Value → Option (List UInt8)
 | .string s => some s.data.toList
 | _ => none
def kU8 : Value → Option (BitVec 8)
 | .int .u8 k => if 0 ≤ k ∧ k < 256 then some (BitVec.ofNat 8 k.toNat) else none
 | _ => none
theorem WC.orS {s : List UInt8} {x d : Nat} {c : Code} {f : Fr} {cs : List (List UInt8)} {ts : List Nat} (h : orOf kStr x d n c = some (cs, ts)) (hx : f x = St s)
  (k : ∀ g : Fr, Q .normal (upd (mixF ts g f) d (.bool (cs.any fun c => s == c))) w) : WC P c n f w Q :=
 WC.orN (K := kStr) (X := St s) (E := fun c => s == c) (fun ty v a hv => by
  cases v <;> try cases hv
  rename_i b
  have : (Value.string b) = St b.data.toList := by cases b; simp [St]
  rw [this]; exact BinR.eqlS) _ c (Nat.le_refl _) h hx fun f' h1 h2 => by rw [mix_eq h1 h2]; exact k f'
theorem WC.orU {s : BitVec 8} {x d : Nat} {c : Code} {f : Fr} {cs : List (BitVec 8)} {ts : List Nat} (h : orOf kU8 x d n c = some (cs, ts)) (hx : f x = U8 s)
  (k : ∀ g : Fr, Q .normal (upd (mixF ts g f) d (.bool (cs.any fun c => s == c))) w) : WC P c n f w Q :=
 WC.orN (K := kU8) (X := U8 s) (E := fun c => s == c) (fun ty v a hv => by
  unfold kU8 at hv
  split at hv
  ·split at hv
   ·rename_i kk hk
    cases hv
    have e : (Value.int .u8 kk) = U8 (BitVec.ofNat 8 kk.toNat) := by
     show _ = Value.int .u8 (((BitVec.ofNat 8 kk.toNat).toNat : Nat) : Int)
     rw [BitVec.toNat_ofNat]; congr 1; omega
    rw [e]; exact BinR.eqlU8
   ·cases hv
  ·cases hv) _ c (Nat.le_refl _) h hx fun f' h1 h2 => by rw [mix_eq h1 h2]; exact k f'
end Go.Ux
end
section
set_option linter.unusedSimpArgs false
set_option linter.unusedVariables false
namespace Go.Proofs.S
open Go Go.Ux Go.Ux.Mach Go.Proofs
def sizeQ (s : List UInt8) : Nat := bif ([[108, 98], [108, 98, 117], [115, 98]].any fun c => s == c) then 1 else bif ([[108, 104], [108, 104, 117], [115, 104]].any fun c => s == c) then 2 else bif ([[108, 119], [108, 119, 117], [115, 119]].any fun c => s == c) then 4 else bif ([[108, 100], [115, 100]].any fun c => s == c) then 8 else 0
theorem size_q (s : List UInt8) (w : World) : CallsR Tryz.prog 43 #[St s] w (fun v w' => v = IN (sizeQ s) ∧ Ext w w') := by
 refine callsR_of Tryz.func43 G G G ?_
 refine Sr (An (IN 0) G (Ni (Sq (Sr (Mv (St s) G (Ni (Bk ?_)))))))
 refine Sq ?_
 refine WC.orS (x := 3) (d := 4) (s := s) (cs := [[108, 98], [108, 98, 117], [115, 98]]) (ts := [5, 6, 7]) (by kernel_rfl) G (fun g1 => ?_)
 refine WC.cond G (fun hc4 => ?_) (fun hc4 => ?_)
 ·refine Sr (An (IN 1) G (Ni (WC.ret ?_)))
  have hfin : sizeQ s = 1 := by unfold sizeQ; rw [hc4]; try rfl
  exact ⟨_, Res.one (v := IN 1) G G, congrArg IN hfin.symm, Mod.refl _ _⟩
 ·refine Sq ?_
  refine WC.orS (x := 3) (d := 8) (s := s) (cs := [[108, 104], [108, 104, 117], [115, 104]]) (ts := [9, 10, 11]) (by kernel_rfl) G (fun g2 => ?_)
  refine WC.cond G (fun hc8 => ?_) (fun hc8 => ?_)
  ·refine Sr (An (IN 2) G (Ni (WC.ret ?_)))
   have hfin : sizeQ s = 2 := by unfold sizeQ; rw [hc4, hc8]; try rfl
   exact ⟨_, Res.one (v := IN 2) G G, congrArg IN hfin.symm, Mod.refl _ _⟩
  ·refine Sq ?_
   refine WC.orS (x := 3) (d := 12) (s := s) (cs := [[108, 119], [108, 119, 117], [115, 119]]) (ts := [13, 14, 15]) (by kernel_rfl) G (fun g3 => ?_)
   refine WC.cond G (fun hc12 => ?_) (fun hc12 => ?_)
   ·refine Sr (An (IN 4) G (Ni (WC.ret ?_)))
    have hfin : sizeQ s = 4 := by unfold sizeQ; rw [hc4, hc8, hc12]; try rfl
    exact ⟨_, Res.one (v := IN 4) G G, congrArg IN hfin.symm, Mod.refl _ _⟩
   ·refine Sq ?_
    refine WC.orS (x := 3) (d := 16) (s := s) (cs := [[108, 100], [115, 100]]) (ts := [17, 18]) (by kernel_rfl) G (fun g4 => ?_)
    refine WC.cond G (fun hc16 => ?_) (fun hc16 => ?_)
    ·refine Sr (An (IN 8) G (Ni (WC.ret ?_)))
     have hfin : sizeQ s = 8 := by unfold sizeQ; rw [hc4, hc8, hc12, hc16]; try rfl
     exact ⟨_, Res.one (v := IN 8) G G, congrArg IN hfin.symm, Mod.refl _ _⟩
    ·refine WC.skip (Sr (An (IN 0) G (Ni (WC.ret ?_))))
     have hfin : sizeQ s = 0 := by unfold sizeQ; rw [hc4, hc8, hc12, hc16]; try rfl
     exact ⟨_, Res.one (v := IN 0) G G, congrArg IN hfin.symm, Mod.refl _ _⟩
def hasQ (s : BitVec 8) : Bool × Bool × Bool := bif ([82#8].any fun c => s == c) then (true, true, true) else bif ([73#8, 72#8, 87#8].any fun c => s == c) then (true, true, false) else bif ([83#8, 66#8].any fun c => s == c) then (false, true, true) else bif ([85#8, 74#8].any fun c => s == c) then (true, false, false) else (false, false, false)
theorem has_q (s : BitVec 8) (w : World) : CallsR Tryz.prog 78 #[U8 s] w (fun v w' => v = .tuple #[.bool (hasQ s).1, .bool (hasQ s).2.1, .bool (hasQ s).2.2] ∧ Ext w w') := by
 refine callsR_of Tryz.func78 G G G ?_
 refine Sr (An (.bool false) G (An (.bool false) G (An (.bool false) G (Ni (Sq (Sr (Mv (U8 s) G ?_)))))))
 refine Ni (Bk (Sq ?_))
 refine WC.orU (x := 5) (d := 6) (s := s) (cs := [82#8]) (ts := [7]) (by kernel_rfl) G (fun g1 => ?_)
 refine WC.cond G (fun hc6 => ?_) (fun hc6 => ?_)
 ·refine Sr (An (.bool true) G (An (.bool true) G (An (.bool true) G (Ni (WC.ret ?_)))))
  have hfin : hasQ s = (true, true, true) := by unfold hasQ; rw [hc6]; rfl
  exact ⟨_, Res.three rfl rfl rfl rfl, by rw [hfin]; rfl, Mod.refl _ _⟩
 ·refine Sq ?_
  refine WC.orU (x := 5) (d := 8) (s := s) (cs := [73#8, 72#8, 87#8]) (ts := [9, 10, 11]) (by kernel_rfl) G (fun g2 => ?_)
  refine WC.cond G (fun hc8 => ?_) (fun hc8 => ?_)
  ·refine Sr (An (.bool true) G (An (.bool true) G (An (.bool false) G (Ni (WC.ret ?_)))))
   have hfin : hasQ s = (true, true, false) := by unfold hasQ; rw [hc6, hc8]; rfl
   exact ⟨_, Res.three rfl rfl rfl rfl, by rw [hfin]; rfl, Mod.refl _ _⟩
  ·refine Sq ?_
   refine WC.orU (x := 5) (d := 12) (s := s) (cs := [83#8, 66#8]) (ts := [13, 14]) (by kernel_rfl) G (fun g3 => ?_)
   refine WC.cond G (fun hc12 => ?_) (fun hc12 => ?_)
   ·refine Sr (An (.bool false) G (An (.bool true) G (An (.bool true) G (Ni (WC.ret ?_)))))
    have hfin : hasQ s = (false, true, true) := by unfold hasQ; rw [hc6, hc8, hc12]; rfl
    exact ⟨_, Res.three rfl rfl rfl rfl, by rw [hfin]; rfl, Mod.refl _ _⟩
   ·refine Sq ?_
    refine WC.orU (x := 5) (d := 15) (s := s) (cs := [85#8, 74#8]) (ts := [16, 17]) (by kernel_rfl) G (fun g4 => ?_)
    refine WC.cond G (fun hc15 => ?_) (fun hc15 => ?_)
    ·refine Sr (An (.bool true) G (An (.bool false) G (An (.bool false) G (Ni (WC.ret ?_)))))
     have hfin : hasQ s = (true, false, false) := by unfold hasQ; rw [hc6, hc8, hc12, hc15]; rfl
     exact ⟨_, Res.three rfl rfl rfl rfl, by rw [hfin]; rfl, Mod.refl _ _⟩
    ·refine WC.skip (Sr (An (.bool false) G (An (.bool false) G (An (.bool false) G (Ni (WC.ret ?_))))))
     have hfin : hasQ s = (false, false, false) := by unfold hasQ; rw [hc6, hc8, hc12, hc15]; rfl
     exact ⟨_, Res.three rfl rfl rfl rfl, by rw [hfin]; rfl, Mod.refl _ _⟩
def fieldQ (x : BitVec 32) (a b : Nat) : BitVec 32 := x >>> a &&& ((1#32 <<< b) - 1#32)
theorem fieldQ_eq (x : BitVec 32) (a b : Nat) : fieldQ x a b = bitsOf (a, b) x := rfl
theorem field_q (x : BitVec 32) (a b : Nat) (w : World) : CallsR Tryz.prog 79 #[U32 x, IN a, IN b] w (fun v w' => v = U32 (fieldQ x a b) ∧ Ext w w') := by
 refine callsR_of Tryz.func79 G G G ?_
 refine Sr (An (U32 (0#32)) G (Ni (Sq (WC.draw (fun w_ => Ext w w_) 8 G mixed ?_))))
 intro wd_1 ed_1
 have R1 : Ext w wd_1 := ed_1
 have E2 : Ext w wd_1 := ed_1
 refine Tk 0 (U32 x) G G (fun _ _ => Mv _ G Ok) R1 (Tk 1 (IN a) G G (fun _ _ => Mv _ G Ok) R1 (Tk 2 (U32 (x >>> a)) G G (fun _ _ => Bn G G (BinR.shrU32 (s := a)) Ok) R1 (Tk 3 (IN b) G G (fun _ _ => Mv _ G Ok) R1 (Tk 4 (U32 (1#32 <<< b)) G G (fun _ _ => Bn (vx := U32 1#32) G G (BinR.shlU32 (s := b)) Ok) R1 (Tk 5 (U32 ((1#32 <<< b - 1#32))) G G (fun _ _ => Bn (vy := U32 (1#32)) G G BinR.subU32 Ok) R1 (Tk 6 (U32 ((x >>> a &&& (1#32 <<< b - 1#32)))) G G (fun _ _ => Bn G G BinR.andU32 Ok) R1 (Tk 7 (U32 ((x >>> a &&& (1#32 <<< b - 1#32)))) G G (fun _ _ => An _ G Ok) R1 (WA.done (by kernel_rfl) (WC.ret ?_)))))))))
 exact ⟨_, Res.one (v := U32 ((x >>> a &&& (1#32 <<< b - 1#32)))) G G, G, E2⟩
def signedQ (x : BitVec 64) (b : Nat) : BitVec 64 := bif BitVec.sle (1#64 <<< (b - 1)) x then x - 1#64 <<< b else x
theorem signed_q (x : BitVec 64) (b : Nat) (w : World) (h0 : 0 < b) (hb : b ≤ 64) : CallsR Tryz.prog 98 #[I64 x, IN b] w (fun v w' => v = I64 (signedQ x b) ∧ Ext w w') := by
 refine callsR_of Tryz.func98 G G G ?_
 refine Sr (An (I64 (0#64)) G (Ni (Sq (Sr (Mv (I64 x) G (Mv (IN b) G (Bn G G (BinR.subN (b := 1) (by omega) (by omega)) ?_)))))))
 refine Bn (vx := I64 1#64) G G (BinR.shl64 (s := b - 1)) (Bn G G BinR.geq64 (Ni ?_))
 refine WC.cond G (fun hc9 => ?_) (fun hc9 => ?_)
 ·refine Sr (Mv (I64 x) G (Mv (IN b) G (Bn (vx := I64 1#64) G G (BinR.shl64 (s := b)) (Bn G G BinR.sub64 (An (I64 ((x - 1#64 <<< b))) G (Ni (WC.ret ?_)))))))
  have hfin : ((I64 ((x - 1#64 <<< b))) : Value) = I64 (signedQ x b) := by unfold signedQ; rw [hc9]; rfl
  exact ⟨_, Res.one (v := I64 ((x - 1#64 <<< b))) G G, hfin, Mod.refl _ _⟩
 ·refine WC.skip (Sr (Mv (I64 x) G (An (I64 x) G (Ni (WC.ret ?_)))))
  have hfin : ((I64 x) : Value) = I64 (signedQ x b) := by unfold signedQ; rw [hc9]; rfl
  exact ⟨_, Res.one (v := I64 x) G G, hfin, Mod.refl _ _⟩
end Go.Proofs.S
end
section
namespace Go.Ux
open Go
section
variable {P : Program} {t s u : TypeId}
theorem wrap_i32_bv (n : Int) : IntKind.i32.wrap n = (BitVec.ofInt 32 n).toInt := by
 rw [BitVec.toInt_ofInt]
 simp only [IntKind.wrap, IntKind.bits, IntKind.signed, Int.bmod]
 simp
 split <;> split <;> omega
variable {td : TypeDesc} (h1 : P.underlying s = some td)
include h1
theorem ConvR.u32i32 (h2 : P.underlying u = some (.int .i32)) {x : BitVec 32} : ConvR P s u (U32 x) (.int .i32 x.toInt) := by
 have h := ConvR.int (P := P) (k := .u32) (a := x.toNat) h1 h2
 rwa [wrap_i32_bv, ofInt_toNat_id] at h
theorem ConvR.i32i64 (h2 : P.underlying u = some (.int .i64)) {x : BitVec 32} : ConvR P s u (.int .i32 x.toInt) (I64 (x.signExtend 64)) := by
 have hx : -2147483648 ≤ x.toInt ∧ x.toInt ≤ 2147483647 := by
  have := x.isLt
  rw [BitVec.toInt_eq_toNat_cond]; split <;> omega
 have h := ConvR.toI (P := P) (k := .i32) (a := x.toInt) h1 h2 (by omega)
 have e : I64 (x.signExtend 64) = Value.int .i64 x.toInt := congrArg (Value.int .i64) (BitVec.toInt_signExtend_of_le (by decide))
 rw [e]; exact h
theorem ConvR.u64u32 (h2 : P.underlying u = some (.int .u32)) {x : BitVec 64} : ConvR P s u (U64 x) (U32 (x.setWidth 32)) := by
 have h := ConvR.int (P := P) (k := .u64) (a := x.toNat) h1 h2
 rw [wrap_u32_bv] at h
 have e : BitVec.ofInt 32 (x.toNat : Int) = x.setWidth 32 := by
  apply BitVec.eq_of_toNat_eq
  rw [BitVec.toNat_ofInt, BitVec.toNat_setWidth]; omega
 rwa [e] at h
end
end Go.Ux
end
