import Derived.Test.YtljcijdkoncodaaImgBig
import Derived.Test.YtljcijdkoncodaaRows
import Derived.Test.YtljcijdkoncodaaImX2
set_option linter.unusedSimpArgs false
set_option linter.unusedVariables false
namespace Go.Proofs.I
open Go Go.Ux Go.Ux.Image Go.Proofs
theorem ca21 : callable Try.prog 21 = true := by kernel_rfl

theorem symsOk_drop (nw : Nat) (ns : List (List UInt8)) (last : Int) (l : List (List UInt8 × Int)) (j : Nat) (h : j < l.length) : symsOk nw ns last (l.drop j) = (symOk nw ns last l[j] && symsOk nw ((l[j]).1 :: ns) (l[j]).2 (l.drop (j + 1))) := by
  rw [List.drop_eq_getElem_cons h]; rfl
theorem symOk_last {nw : Nat} {ns : List (List UInt8)} {last : Int} {s : List UInt8 × Int} (h : symOk nw ns last s = true) : last < s.2 := by
  simp only [symOk, Bool.and_eq_true, decide_eq_true_eq] at h; omega

theorem index_wrong (bn bl r bm : Nat) (sv wv : Value) (I : Img) (w : World) (hn : Blk w bn #[.map (some r)] 56) (hL : Blk w bl #[.int .i64 (-1)] 3) (hB : Blk w bm #[.int .i64 I.entry, sv, wv] 25) (hR : Rep w sv wv I) (hM : MapS w r []) (d1 : bn ≠ r) (d2 : bl ≠ r) (d3 : bm ≠ r) (d4 : bn ≠ bl) (d5 : bm ≠ bl) (ds : 0 < I.syms.length → ∀ g, sv.ownBlock = some g → g ≠ r ∧ g ≠ bl) (dw : 0 < I.words.length → ∀ g, wv.ownBlock = some g → g ≠ r ∧ g ≠ bl) (hN : ∀ s ∈ I.syms, s.1.length ≤ 1000000000 ∧ s.2 ≤ 9223372036854775807) : CallsR Try.prog 35 #[sv, .func (.func 21) #[] #[ptr bn 0, ptr bl 0, ptr bm 0]] w (fun v w' => ∃ z : Int, v = .int .i64 z ∧ decide (0 ≤ z) = (!right5 I) ∧ Mod (fun k => k = r ∨ k = bl) w w') := by
  have hI1 := hR.ls
  have hI2 := hR.lw
  refine callsR_of Try.func35 rfl rfl rfl ?_
  refine WC.seq ?_
  refine WC.region ?_
  refine WL.assign (v := IN (0)) rfl rfl ?_
  refine WL.nil ?_
  refine WC.seq ?_
  refine WC.seq ?_
  refine WC.region ?_
  refine WL.move (v := sv) rfl rfl ?_
  refine WL.lenSl (sz := 2) (m := I.syms.length) (xs := symCells I.syms) el22 rfl (hR.s) rfl ?_
  refine WL.move (v := IN (0)) rfl rfl ?_
  refine WL.nil ?_
  refine WC.block ?_
  refine WC.loop (fun k f w_ => ∃ j ls ns last, (k + j = I.syms.length) ∧ (ns.length = j) ∧ (-1 ≤ last) ∧ (Cnt ls ns) ∧ (right5 I = symsOk I.words.length ns last (I.syms.drop j)) ∧ f 0 = sv ∧ f 1 = .func (.func 21) #[] #[ptr bn 0, ptr bl 0, ptr bm 0] ∧ f 6 = sv ∧ f 7 = IN (I.syms.length) ∧ f 8 = IN (j) ∧ (Mod (fun k => k = r ∨ k = bl) w w_) ∧ (Blk w_ bn #[.map (some r)] 56) ∧ (Blk w_ bl #[.int .i64 last] 3) ∧ (Blk w_ bm #[.int .i64 I.entry, sv, wv] 25) ∧ (MapS w_ r ls)) (I.syms.length) ?_ ?_
  · exact ⟨(0), ([]), ([]), (-1), by omega, rfl, by decide, fun k => by simp [cnt], rfl, rfl, rfl, rfl, rfl, rfl, Mod.refl _ _, hn, hL, hB, hM⟩
  rintro k f1 wr ⟨j, ls, ns, last, hk1, hj0, hlast, hC, hs, h0_1, h1_1, h6_1, h7_1, h8_1, hE, hn2, hL2, hB2, hM2⟩
  refine WC.seq ?_
  refine WC.region ?_
  refine WL.bin h8_1 h7_1 rfl (BinR.lss) ?_
  refine WL.nil ?_
  refine WC.seq ?_
  refine WC.cond rfl (fun hc9 => ?_) (fun hc9 => ?_)
  · have hj : j < I.syms.length := by have := of_decide_eq_true hc9; omega
    have hRc := hR.mod hE (fun h0 b hb e => e.elim (ds h0 b hb).1 (ds h0 b hb).2) (fun h0 b hb e => e.elim (dw h0 b hb).1 (dw h0 b hb).2)
    obtain ⟨bs0, os0, cs0, es0, hcs0⟩ := hRc.s.at (by omega)
    refine WC.skip ?_
    refine WC.seq ?_
    refine WC.block ?_
    refine WC.seq ?_
    refine WC.region ?_
    refine WL.move (v := IN (j)) h8_1 rfl ?_
    refine WL.assign (v := IN (j)) rfl rfl ?_
    refine WL.nil ?_
    refine WC.seq ?_
    refine WC.region ?_
    refine WL.move (v := .func (.func 21) #[] #[ptr bn 0, ptr bl 0, ptr bm 0]) h1_1 rfl ?_
    refine WL.move (v := sv) h0_1 rfl ?_
    refine WL.move (v := IN (j)) rfl rfl ?_
    refine WL.indexAddr (i := j) (b := bs0) (o := os0) el22 sz49 (Eq.trans (rfl) es0) rfl (by omega) rfl ?_
    refine WL.loadS [St (I.syms[j]).1, .int .i64 ((I.syms[j]).2)] rfl ag49 sz49 rfl (cells2 (hcs0) ((symCells_get I.syms j (by omega))).1 ((symCells_get I.syms j (by omega))).2) rfl ?_
    refine WL.callV (fs := #[]) (cs := #[ptr bn 0, ptr bl 0, ptr bm 0]) rfl ca21 rfl rfl (wrong_spec (I.syms[j]) ls ns last bn bl r bm sv wv I _ hn2 hL2 hB2 hRc hM2 hC hlast (by omega) (hN _ (List.getElem_mem _)).2 d1 d2 d3 d4 d5 dw (hN _ (List.getElem_mem _)).1) ?_
    rintro _ wd ⟨rfl, md, Md, Ld⟩
    refine WL.nil ?_
    refine WC.cond rfl (fun hc16 => ?_) (fun hc16 => ?_)
    · have hbad : symOk I.words.length ns last (I.syms[j]) = false := by simpa using hc16
      have hres : decide ((0 : Int) ≤ ((j : Nat) : Int)) = (!right5 I) := by rw [hs, symsOk_drop _ _ _ _ j hj, hbad]; simp
      have hEE := hE.trans md
      refine WC.seq ?_
      refine WC.region ?_
      refine WL.move (v := IN (j)) rfl rfl ?_
      refine WL.assign (v := IN (j)) rfl rfl ?_
      refine WL.nil ?_
      refine WC.ret ?_
      exact ⟨_, Res.one (v := IN (j)) rfl rfl, _, rfl, hres, hEE⟩
    · have hok : symOk I.words.length ns last (I.syms[j]) = true := by simpa using hc16
      refine WC.skip ?_
      refine WC.region ?_
      refine WL.bin h8_1 rfl rfl (BinR.succN (by omega)) ?_
      refine WL.move (v := IN (j + 1)) rfl rfl ?_
      refine WL.nil ?_
      exact ⟨k - 1, by omega, (j + 1), (_), ((I.syms[j]).1 :: ns), ((I.syms[j]).2), by omega, by simp [hj0], by have := symOk_last hok; omega, hC.next _, by rw [hs, symsOk_drop _ _ _ _ j hj, hok]; rfl, h0_1, h1_1, h6_1, h7_1, rfl, hE.trans md, hn2.mod md (fun e => e.elim d1 d4), Ld, hB2.mod md (fun e => e.elim d3 d5), Md⟩
  · have hj : I.syms.length ≤ j := by have := of_decide_eq_false hc9; omega
    have hres : decide ((0 : Int) ≤ -1) = (!right5 I) := by rw [hs, List.drop_of_length_le hj]; rfl
    have hEE := hE
    refine WC.exit ?_
    refine WC.seq ?_
    refine WC.region ?_
    refine WL.assign (v := .int .i64 (-1)) rfl rfl ?_
    refine WL.nil ?_
    refine WC.ret ?_
    exact ⟨_, Res.one (v := .int .i64 (-1)) rfl rfl, _, rfl, hres, hEE⟩
end Go.Proofs.I
