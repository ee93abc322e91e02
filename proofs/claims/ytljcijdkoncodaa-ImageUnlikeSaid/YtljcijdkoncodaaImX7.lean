import Derived.Test.YtljcijdkoncodaaImgBig
import Derived.Test.YtljcijdkoncodaaRows
import Derived.Test.YtljcijdkoncodaaImX3
set_option linter.unusedSimpArgs false
set_option linter.unusedVariables false
namespace Go.Proofs.I
open Go Go.Ux Go.Ux.Image Go.Proofs
theorem ca35 : callable Try.prog 35 = true := by kernel_rfl
theorem ag57 : isAggT Try.prog 57 = some false := by kernel_rfl
theorem ca26 : callable Try.prog 26 = true := by kernel_rfl
theorem ca22 : callable Try.prog 22 = true := by kernel_rfl
theorem ca23 : callable Try.prog 23 = true := by kernel_rfl
theorem ca24 : callable Try.prog 24 = true := by kernel_rfl
theorem ca25 : callable Try.prog 25 = true := by kernel_rfl
theorem el59 : elemT Try.prog 59 = some 27 := by kernel_rfl
theorem sz27 : sizeT Try.prog 27 = some 1 := by kernel_rfl
theorem ag27 : isAggT Try.prog 27 = some false := by kernel_rfl
theorem ca28 : callable Try.prog 28 = true := by kernel_rfl
theorem ca37 : callable Try.prog 37 = true := by kernel_rfl

theorem contains_wrong (bn bl r bm : Nat) (sv wv : Value) (I : Img) (w : World) (hn : Blk w bn #[.map (some r)] 56) (hL : Blk w bl #[.int .i64 (-1)] 3) (hB : Blk w bm #[.int .i64 I.entry, sv, wv] 25) (hR : Rep w sv wv I) (hM : MapS w r []) (d1 : bn ≠ r) (d2 : bl ≠ r) (d3 : bm ≠ r) (d4 : bn ≠ bl) (d5 : bm ≠ bl) (ds : 0 < I.syms.length → ∀ g, sv.ownBlock = some g → g ≠ r ∧ g ≠ bl) (dw : 0 < I.words.length → ∀ g, wv.ownBlock = some g → g ≠ r ∧ g ≠ bl) (hN : ∀ s ∈ I.syms, s.1.length ≤ 1000000000 ∧ s.2 ≤ 9223372036854775807) : CallsR Try.prog 26 #[sv, .func (.func 21) #[] #[ptr bn 0, ptr bl 0, ptr bm 0]] w (fun v w' => v = .bool (!right5 I) ∧ Mod (fun k => k = r ∨ k = bl) w w') := by
  refine callsR_of Try.func26 rfl rfl rfl ?_
  refine WC.seq ?_
  refine WC.region ?_
  refine WL.assign (v := .bool (false)) rfl rfl ?_
  refine WL.nil ?_
  refine WC.seq ?_
  refine WC.region ?_
  refine WL.move (v := sv) rfl rfl ?_
  refine WL.move (v := .func (.func 21) #[] #[ptr bn 0, ptr bl 0, ptr bm 0]) rfl rfl ?_
  refine WL.call ca35 (rfl) rfl (index_wrong bn bl r bm sv wv I _ hn hL hB hR hM d1 d2 d3 d4 d5 ds dw hN) ?_
  rintro _ wd7 ⟨z7, rfl, hz7, md7⟩
  refine WL.bin rfl rfl rfl (BinR.geq) ?_
  refine WL.assign (v := .bool (decide ((0 : Int) ≤ (z7 : Int)))) rfl rfl ?_
  refine WL.nil ?_
  refine WC.ret ?_
  exact ⟨_, Res.one (v := .bool (decide ((0 : Int) ≤ (z7 : Int)))) rfl rfl, congrArg Value.bool hz7, md7⟩

theorem right5_spec (bn bl r bm : Nat) (sv wv : Value) (I : Img) (w : World) (hn : Blk w bn #[.map (some r)] 56) (hL : Blk w bl #[.int .i64 (-1)] 3) (hB : Blk w bm #[.int .i64 I.entry, sv, wv] 25) (hR : Rep w sv wv I) (hM : MapS w r []) (d1 : bn ≠ r) (d2 : bl ≠ r) (d3 : bm ≠ r) (d4 : bn ≠ bl) (d5 : bm ≠ bl) (ds : 0 < I.syms.length → ∀ g, sv.ownBlock = some g → g ≠ r ∧ g ≠ bl) (dw : 0 < I.words.length → ∀ g, wv.ownBlock = some g → g ≠ r ∧ g ≠ bl) (hN : ∀ s ∈ I.syms, s.1.length ≤ 1000000000 ∧ s.2 ≤ 9223372036854775807) (bw : Nat) (hW : Blk w bw #[.func (.func 21) #[] #[ptr bn 0, ptr bl 0, ptr bm 0]] 57) : CallsR Try.prog 25 #[ptr bm 0, ptr bw 0] w (fun v w' => v = .bool (right5 I) ∧ Mod (fun k => k = r ∨ k = bl) w w') := by
  refine callsR_of Try.func25 rfl rfl rfl ?_
  refine WC.seq ?_
  refine WC.region ?_
  refine WL.assign (v := .bool (false)) rfl rfl ?_
  refine WL.nil ?_
  refine WC.seq ?_
  refine WC.region ?_
  refine WL.fieldAddr rfl fo25_1 rfl ?_
  refine WL.load1 rfl ag22 (hB.cell (j := 1) rfl) rfl ?_
  refine WL.load1 rfl ag57 (hW.cell (j := 0) rfl) rfl ?_
  refine WL.call ca26 (rfl) rfl (contains_wrong bn bl r bm sv wv I _ hn hL hB hR hM d1 d2 d3 d4 d5 ds dw hN) ?_
  rintro _ wd6 ⟨rfl, md6⟩
  refine WL.un rfl rfl UnR.not ?_
  refine WL.assign (v := .bool (!(!right5 I))) rfl rfl ?_
  refine WL.nil ?_
  refine WC.ret ?_
  exact ⟨_, Res.one (v := .bool (!(!right5 I))) rfl rfl, congrArg Value.bool (Bool.not_not _), md6⟩

theorem not_spec (g : Nat) (cs : Array Value) (b : Bool) (R : World → Prop) (w : World) (hcal : callable Try.prog g = true) (hcl : CallsR Try.prog g cs.toList.toArray w (fun v w' => v = .bool b ∧ R w')) : CallsR Try.prog 28 #[.func (.func g) #[] cs] w (fun v w' => v = .bool (!b) ∧ R w') := by
  refine callsR_of Try.func28 rfl rfl rfl ?_
  refine WC.seq ?_
  refine WC.region ?_
  refine WL.assign (v := .bool (false)) rfl rfl ?_
  refine WL.nil ?_
  refine WC.seq ?_
  refine WC.region ?_
  refine WL.move (v := .func (.func g) #[] cs) rfl rfl ?_
  refine WL.callV (fs := #[]) (cs := cs) rfl hcal (by simp) rfl hcl ?_
  rintro _ wd4 ⟨rfl, hR4⟩
  refine WL.un rfl rfl UnR.not ?_
  refine WL.assign (v := .bool (!(b))) rfl rfl ?_
  refine WL.nil ?_
  refine WC.ret ?_
  exact ⟨_, Res.one (v := .bool (!(b))) rfl rfl, rfl, hR4⟩

def mustV (bm bw : Nat) : List Value := [.func (.func 22) #[] #[ptr bm 0], .func (.func 23) #[] #[ptr bm 0], .func (.func 24) #[] #[ptr bm 0], .func (.func 25) #[] #[ptr bm 0, ptr bw 0]]
def rights (I : Img) : List Bool := [right2 I, right3 I, right4 I, right5 I]
theorem must_calls (bn bl r bm : Nat) (sv wv : Value) (I : Img) (w : World) (hn : Blk w bn #[.map (some r)] 56) (hL : Blk w bl #[.int .i64 (-1)] 3) (hB : Blk w bm #[.int .i64 I.entry, sv, wv] 25) (hR : Rep w sv wv I) (hM : MapS w r []) (d1 : bn ≠ r) (d2 : bl ≠ r) (d3 : bm ≠ r) (d4 : bn ≠ bl) (d5 : bm ≠ bl) (ds : 0 < I.syms.length → ∀ g, sv.ownBlock = some g → g ≠ r ∧ g ≠ bl) (dw : 0 < I.words.length → ∀ g, wv.ownBlock = some g → g ≠ r ∧ g ≠ bl) (hN : ∀ s ∈ I.syms, s.1.length ≤ 1000000000 ∧ s.2 ≤ 9223372036854775807) (bw : Nat) (hW : Blk w bw #[.func (.func 21) #[] #[ptr bn 0, ptr bl 0, ptr bm 0]] 57) (j : Nat) (hj : j < 4) : ∃ g cs, (mustV bm bw)[j]? = some (.func (.func g) #[] cs) ∧ callable Try.prog g = true ∧
    CallsR Try.prog g cs.toList.toArray w (fun v w' => v = .bool ((rights I).getD j true) ∧ (Mod (fun k => k = r ∨ k = bl) w w' ∧ (j < 3 → w' = w))) := by
  match j, hj with
  | 0, _ => exact ⟨22, #[ptr bm 0], rfl, ca22, (right2_spec bm sv wv I w hR hB).mono fun v w' ⟨h1, h2⟩ => ⟨h1, h2 ▸ Mod.refl _ _, fun _ => h2.symm⟩⟩
  | 1, _ => exact ⟨23, #[ptr bm 0], rfl, ca23, (right3_spec bm sv wv I w hR hB).mono fun v w' ⟨h1, h2⟩ => ⟨h1, h2 ▸ Mod.refl _ _, fun _ => h2.symm⟩⟩
  | 2, _ => exact ⟨24, #[ptr bm 0], rfl, ca24, (right4_spec bm sv wv I w hR hB).mono fun v w' ⟨h1, h2⟩ => ⟨h1, h2 ▸ Mod.refl _ _, fun _ => h2.symm⟩⟩
  | 3, _ => exact ⟨25, #[ptr bm 0, ptr bw 0], rfl, ca25, (right5_spec bn bl r bm sv wv I w hn hL hB hR hM d1 d2 d3 d4 d5 ds dw hN bw hW).mono fun v w' ⟨h1, h2⟩ => ⟨h1, h2, fun h => absurd h (by decide)⟩⟩
theorem rightB_all (I : Img) (h : ∀ i, i < 4 → (rights I).getD i true = true) : rightB I = true := by
  have h0 := h 0 (by decide); have h1 := h 1 (by decide); have h2 := h 2 (by decide); have h3 := h 3 (by decide)
  simp [rights] at h0 h1 h2 h3
  simp [rightB, h0, h1, h2, h3]
theorem rightB_no (I : Img) (j : Nat) (hj : j < 4) (h : (rights I).getD j true = false) : rightB I = false := by
  match j, hj with
  | 0, _ => simp [rights] at h; simp [rightB, h]
  | 1, _ => simp [rights] at h; simp [rightB, h]
  | 2, _ => simp [rights] at h; simp [rightB, h]
  | 3, _ => simp [rights] at h; simp [rightB, h]

theorem index_must (bn bl r bm : Nat) (sv wv : Value) (I : Img) (w : World) (hn : Blk w bn #[.map (some r)] 56) (hL : Blk w bl #[.int .i64 (-1)] 3) (hB : Blk w bm #[.int .i64 I.entry, sv, wv] 25) (hR : Rep w sv wv I) (hM : MapS w r []) (d1 : bn ≠ r) (d2 : bl ≠ r) (d3 : bm ≠ r) (d4 : bn ≠ bl) (d5 : bm ≠ bl) (ds : 0 < I.syms.length → ∀ g, sv.ownBlock = some g → g ≠ r ∧ g ≠ bl) (dw : 0 < I.words.length → ∀ g, wv.ownBlock = some g → g ≠ r ∧ g ≠ bl) (hN : ∀ s ∈ I.syms, s.1.length ≤ 1000000000 ∧ s.2 ≤ 9223372036854775807) (bw : Nat) (hW : Blk w bw #[.func (.func 21) #[] #[ptr bn 0, ptr bl 0, ptr bm 0]] 57) (bq : Nat) (hq : Blk w bq (mustV bm bw).toArray 27) : CallsR Try.prog 37 #[.slice (some ⟨bq, 0, none⟩) 4 4, .func (.func 28) #[] #[]] w (fun v w' => ∃ z : Int, v = .int .i64 z ∧ decide (0 ≤ z) = (!rightB I) ∧ Mod (fun k => k = r ∨ k = bl) w w') := by
  refine callsR_of Try.func37 rfl rfl rfl ?_
  refine WC.seq ?_
  refine WC.region ?_
  refine WL.assign (v := IN (0)) rfl rfl ?_
  refine WL.nil ?_
  refine WC.seq ?_
  refine WC.seq ?_
  refine WC.region ?_
  refine WL.move (v := .slice (some ⟨bq, 0, none⟩) 4 4) rfl rfl ?_
  refine WL.lenS el59 rfl rfl ?_
  refine WL.move (v := IN (0)) rfl rfl ?_
  refine WL.nil ?_
  refine WC.block ?_
  refine WC.loop (fun k f w_ => ∃ j, (k + j = 4) ∧ (∀ i, i < j → (rights I).getD i true = true) ∧ f 0 = .slice (some ⟨bq, 0, none⟩) 4 4 ∧ f 1 = .func (.func 28) #[] #[] ∧ f 6 = .slice (some ⟨bq, 0, none⟩) 4 4 ∧ f 7 = IN (4) ∧ f 8 = IN (j) ∧ (Mod (fun k => k = r ∨ k = bl) w w_) ∧ (j < 4 → w_ = w)) (4) ?_ ?_
  · exact ⟨(0), by omega, fun i hi => absurd hi (by omega), rfl, rfl, rfl, rfl, rfl, Mod.refl _ _, fun _ => rfl⟩
  rintro k f1 wr ⟨j, hk1, hall, h0_1, h1_1, h6_1, h7_1, h8_1, hE, hsame⟩
  refine WC.seq ?_
  refine WC.region ?_
  refine WL.bin h8_1 h7_1 rfl (BinR.lss) ?_
  refine WL.nil ?_
  refine WC.seq ?_
  refine WC.cond rfl (fun hc9 => ?_) (fun hc9 => ?_)
  · have hj : j < 4 := by have := of_decide_eq_true hc9; omega
    obtain ⟨g, cs, hg, hcal, hcl0⟩ := must_calls bn bl r bm sv wv I w hn hL hB hR hM d1 d2 d3 d4 d5 ds dw hN bw hW j hj
    have hcl : CallsR Try.prog g cs.toList.toArray wr (fun v w' => v = .bool ((rights I).getD j true) ∧ (Mod (fun k => k = r ∨ k = bl) w w' ∧ (j < 3 → w' = w))) := by rw [hsame hj]; exact hcl0
    have hcell : wr.cell? ⟨bq, j, none⟩ = some (.func (.func g) #[] cs) := by rw [hsame hj]; exact hq.cell (by simpa using hg)
    refine WC.skip ?_
    refine WC.seq ?_
    refine WC.block ?_
    refine WC.seq ?_
    refine WC.region ?_
    refine WL.move (v := IN (j)) h8_1 rfl ?_
    refine WL.assign (v := IN (j)) rfl rfl ?_
    refine WL.nil ?_
    refine WC.seq ?_
    refine WC.region ?_
    refine WL.move (v := .func (.func 28) #[] #[]) h1_1 rfl ?_
    refine WL.move (v := .slice (some ⟨bq, 0, none⟩) 4 4) h0_1 rfl ?_
    refine WL.move (v := IN (j)) rfl rfl ?_
    refine WL.indexAddr1 (i := j) (b := bq) (o := 0) el59 sz27 rfl rfl (by omega) rfl ?_
    rw [Nat.zero_add]
    refine WL.load1 rfl ag27 hcell rfl ?_
    refine WL.callV (fs := #[]) (cs := #[]) rfl ca28 rfl rfl (not_spec g cs ((rights I).getD j true) (fun w_ => Mod (fun k => k = r ∨ k = bl) w w_ ∧ (j < 3 → w_ = w)) _ hcal hcl) ?_
    rintro _ wd ⟨rfl, md, sd⟩
    refine WL.nil ?_
    refine WC.cond rfl (fun hc16 => ?_) (fun hc16 => ?_)
    · have hres : decide ((0 : Int) ≤ ((j : Nat) : Int)) = (!rightB I) := by rw [rightB_no I j hj (by simpa using hc16)]; simp
      have hEE := md
      refine WC.seq ?_
      refine WC.region ?_
      refine WL.move (v := IN (j)) rfl rfl ?_
      refine WL.assign (v := IN (j)) rfl rfl ?_
      refine WL.nil ?_
      refine WC.ret ?_
      exact ⟨_, Res.one (v := IN (j)) rfl rfl, _, rfl, hres, hEE⟩
    · have hok : (rights I).getD j true = true := by simpa using hc16
      refine WC.skip ?_
      refine WC.region ?_
      refine WL.bin h8_1 rfl rfl (BinR.succN (by omega)) ?_
      refine WL.move (v := IN (j + 1)) rfl rfl ?_
      refine WL.nil ?_
      exact ⟨k - 1, by omega, (j + 1), by omega, fun i hi => by by_cases e : i = j; (subst e; exact hok); exact hall i (by omega), h0_1, h1_1, h6_1, h7_1, rfl, md, fun h => sd (by omega)⟩
  · have hj : 4 ≤ j := by have := of_decide_eq_false hc9; omega
    have hres : decide ((0 : Int) ≤ -1) = (!rightB I) := by rw [rightB_all I (fun i hi => hall i (by omega))]; rfl
    have hEE := hE
    refine WC.exit ?_
    refine WC.seq ?_
    refine WC.region ?_
    refine WL.assign (v := .int .i64 (-1)) rfl rfl ?_
    refine WL.nil ?_
    refine WC.ret ?_
    exact ⟨_, Res.one (v := .int .i64 (-1)) rfl rfl, _, rfl, hres, hEE⟩

theorem contains_must (bn bl r bm : Nat) (sv wv : Value) (I : Img) (w : World) (hn : Blk w bn #[.map (some r)] 56) (hL : Blk w bl #[.int .i64 (-1)] 3) (hB : Blk w bm #[.int .i64 I.entry, sv, wv] 25) (hR : Rep w sv wv I) (hM : MapS w r []) (d1 : bn ≠ r) (d2 : bl ≠ r) (d3 : bm ≠ r) (d4 : bn ≠ bl) (d5 : bm ≠ bl) (ds : 0 < I.syms.length → ∀ g, sv.ownBlock = some g → g ≠ r ∧ g ≠ bl) (dw : 0 < I.words.length → ∀ g, wv.ownBlock = some g → g ≠ r ∧ g ≠ bl) (hN : ∀ s ∈ I.syms, s.1.length ≤ 1000000000 ∧ s.2 ≤ 9223372036854775807) (bw : Nat) (hW : Blk w bw #[.func (.func 21) #[] #[ptr bn 0, ptr bl 0, ptr bm 0]] 57) (bq : Nat) (hq : Blk w bq (mustV bm bw).toArray 27) : CallsR Try.prog 27 #[.slice (some ⟨bq, 0, none⟩) 4 4, .func (.func 28) #[] #[]] w (fun v w' => v = .bool (!rightB I) ∧ Mod (fun k => k = r ∨ k = bl) w w') := by
  refine callsR_of Try.func27 rfl rfl rfl ?_
  refine WC.seq ?_
  refine WC.region ?_
  refine WL.assign (v := .bool (false)) rfl rfl ?_
  refine WL.nil ?_
  refine WC.seq ?_
  refine WC.region ?_
  refine WL.move (v := .slice (some ⟨bq, 0, none⟩) 4 4) rfl rfl ?_
  refine WL.move (v := .func (.func 28) #[] #[]) rfl rfl ?_
  refine WL.call ca37 (rfl) rfl (index_must bn bl r bm sv wv I _ hn hL hB hR hM d1 d2 d3 d4 d5 ds dw hN bw hW bq hq) ?_
  rintro _ wd7 ⟨z7, rfl, hz7, md7⟩
  refine WL.bin rfl rfl rfl (BinR.geq) ?_
  refine WL.assign (v := .bool (decide ((0 : Int) ≤ (z7 : Int)))) rfl rfl ?_
  refine WL.nil ?_
  refine WC.ret ?_
  exact ⟨_, Res.one (v := .bool (decide ((0 : Int) ≤ (z7 : Int)))) rfl rfl, congrArg Value.bool hz7, md7⟩
end Go.Proofs.I
