import Derived.Test.YtljcijdkoncodaaImgBig
import Derived.Test.YtljcijdkoncodaaRows
import Derived.Test.YtljcijdkoncodaaImW9
set_option linter.unusedSimpArgs false
set_option linter.unusedVariables false
namespace Go.Proofs.I
open Go Go.Ux Go.Ux.Image Go.Proofs
theorem fo49_1 : fieldOff Try.prog 49 1 = some 1 := by kernel_rfl

theorem headAt_eq (l : List (List UInt8 × Int)) (h : 0 < l.length) : headAt l = (l[0]).2 := by cases l with
  | nil => simp at h
  | cons a r => rfl

theorem right2_spec (bm : Nat) (sv wv : Value) (I : Img) (w : World) (hR : Rep w sv wv I) (hB : Blk w bm #[.int .i64 I.entry, sv, wv] 25) : CallsR Try.prog 22 #[ptr bm 0] w (fun v w' => v = .bool (right2 I) ∧ w = w') := by
  have hI1 := hR.ls
  have hI2 := hR.lw
  refine callsR_of Try.func22 rfl rfl rfl ?_
  refine WC.seq ?_
  refine WC.region ?_
  refine WL.assign (v := .bool (false)) rfl rfl ?_
  refine WL.nil ?_
  refine WC.seq ?_
  refine WC.region ?_
  refine WL.fieldAddr rfl fo25_0 rfl ?_
  refine WL.load1 rfl ag3 (hB.cell (j := 0) rfl) rfl ?_
  refine WL.bin rfl rfl rfl (BinR.geq) ?_
  refine WL.move (v := .bool (decide ((0 : Int) ≤ (I.entry : Int)))) rfl rfl ?_
  rcases Bool.eq_false_or_eq_true (decide ((0 : Int) ≤ (I.entry : Int))) with hg5 | hg5
  · refine WL.guardT (yf_bool rfl rfl hg5) ?_
    refine WL.fieldAddr rfl fo25_0 rfl ?_
    refine WL.guardT (yf_bool rfl rfl hg5) ?_
    refine WL.load1 rfl ag3 (hB.cell (j := 0) rfl) rfl ?_
    refine WL.guardT (yf_bool rfl rfl hg5) ?_
    refine WL.bin rfl rfl rfl (BinR.leq) ?_
    refine WL.pick (b := true) (congrArg Value.bool hg5) rfl rfl ?_
    refine WL.move (v := .bool (decide ((I.entry : Int) ≤ (524288 : Int)))) rfl rfl ?_
    rcases Bool.eq_false_or_eq_true (decide ((I.entry : Int) ≤ (524288 : Int))) with hg10 | hg10
    · refine WL.guardT (yf_bool rfl rfl hg10) ?_
      refine WL.fieldAddr rfl fo25_0 rfl ?_
      refine WL.guardT (yf_bool rfl rfl hg10) ?_
      refine WL.load1 rfl ag3 (hB.cell (j := 0) rfl) rfl ?_
      refine WL.guardT (yf_bool rfl rfl hg10) ?_
      refine WL.bin rfl rfl rfl (BinR.remI (by have := of_decide_eq_true hg5; omega) (by decide)) ?_
      refine WL.guardT (yf_bool rfl rfl hg10) ?_
      refine WL.bin rfl rfl rfl (BinR.eql) ?_
      refine WL.pick (b := true) (congrArg Value.bool hg10) rfl rfl ?_
      refine WL.assign (v := .bool (((I.entry % 8 : Int) == (0 : Int)))) rfl rfl ?_
      refine WL.nil ?_
      refine WC.ret ?_
      have hfin : ((.bool (((I.entry % 8 : Int) == (0 : Int)))) : Value) = Value.bool (right2 I) := congrArg Value.bool (by unfold right2; simp [*])
      exact ⟨_, Res.one (v := .bool (((I.entry % 8 : Int) == (0 : Int)))) rfl rfl, hfin, rfl⟩
    · refine WL.guardF (b' := false) (yf_bool rfl rfl hg10) rfl rfl ?_
      refine WL.guardF (b' := false) (yf_bool rfl rfl hg10) rfl rfl ?_
      refine WL.guardF (b' := false) (yf_bool rfl rfl hg10) rfl rfl ?_
      refine WL.guardF (b' := false) (yf_bool rfl rfl hg10) rfl rfl ?_
      refine WL.pick (b := false) (congrArg Value.bool hg10) rfl rfl ?_
      refine WL.assign (v := .bool (false)) rfl rfl ?_
      refine WL.nil ?_
      refine WC.ret ?_
      have hfin : ((.bool (false)) : Value) = Value.bool (right2 I) := congrArg Value.bool (by unfold right2; simp [*])
      exact ⟨_, Res.one (v := .bool (false)) rfl rfl, hfin, rfl⟩
  · refine WL.guardF (b' := false) (yf_bool rfl rfl hg5) rfl rfl ?_
    refine WL.guardF (b' := false) (yf_bool rfl rfl hg5) rfl rfl ?_
    refine WL.guardF (b' := false) (yf_bool rfl rfl hg5) rfl rfl ?_
    refine WL.pick (b := false) (congrArg Value.bool hg5) rfl rfl ?_
    refine WL.move (v := .bool (false)) rfl rfl ?_
    refine WL.guardF (b' := false) (rfl) rfl rfl ?_
    refine WL.guardF (b' := false) (rfl) rfl rfl ?_
    refine WL.guardF (b' := false) (rfl) rfl rfl ?_
    refine WL.guardF (b' := false) (rfl) rfl rfl ?_
    refine WL.pick (b := false) rfl rfl rfl ?_
    refine WL.assign (v := .bool (false)) rfl rfl ?_
    refine WL.nil ?_
    refine WC.ret ?_
    have hfin : ((.bool (false)) : Value) = Value.bool (right2 I) := congrArg Value.bool (by unfold right2; simp [*])
    exact ⟨_, Res.one (v := .bool (false)) rfl rfl, hfin, rfl⟩

theorem right3_spec (bm : Nat) (sv wv : Value) (I : Img) (w : World) (hR : Rep w sv wv I) (hB : Blk w bm #[.int .i64 I.entry, sv, wv] 25) : CallsR Try.prog 23 #[ptr bm 0] w (fun v w' => v = .bool (right3 I) ∧ w = w') := by
  have hI1 := hR.ls
  have hI2 := hR.lw
  refine callsR_of Try.func23 rfl rfl rfl ?_
  refine WC.seq ?_
  refine WC.region ?_
  refine WL.assign (v := .bool (false)) rfl rfl ?_
  refine WL.nil ?_
  refine WC.seq ?_
  refine WC.region ?_
  refine WL.fieldAddr rfl fo25_2 rfl ?_
  refine WL.load1 rfl ag23 (hB.cell (j := 2) rfl) rfl ?_
  refine WL.lenSl (sz := 1) (m := I.words.length) (xs := wordCells I.words) el23 rfl (hR.w) rfl ?_
  refine WL.bin rfl rfl rfl (BinR.geq) ?_
  refine WL.move (v := .bool (decide ((1 : Int) ≤ ((I.words.length : Nat) : Int)))) rfl rfl ?_
  rcases Bool.eq_false_or_eq_true (decide ((1 : Int) ≤ ((I.words.length : Nat) : Int))) with hg6 | hg6
  · refine WL.guardT (yf_bool rfl rfl hg6) ?_
    refine WL.fieldAddr rfl fo25_2 rfl ?_
    refine WL.guardT (yf_bool rfl rfl hg6) ?_
    refine WL.load1 rfl ag23 (hB.cell (j := 2) rfl) rfl ?_
    refine WL.guardT (yf_bool rfl rfl hg6) ?_
    refine WL.lenSl (sz := 1) (m := I.words.length) (xs := wordCells I.words) el23 rfl (hR.w) rfl ?_
    refine WL.guardT (yf_bool rfl rfl hg6) ?_
    refine WL.bin rfl rfl rfl (BinR.leq) ?_
    refine WL.pick (b := true) (congrArg Value.bool hg6) rfl rfl ?_
    refine WL.assign (v := .bool (decide (((I.words.length : Nat) : Int) ≤ (262144 : Int)))) rfl rfl ?_
    refine WL.nil ?_
    refine WC.ret ?_
    have hfin : ((.bool (decide (((I.words.length : Nat) : Int) ≤ (262144 : Int)))) : Value) = Value.bool (right3 I) := congrArg Value.bool (by unfold right3; rw [Bool.eq_iff_iff]; simp at *; omega)
    exact ⟨_, Res.one (v := .bool (decide (((I.words.length : Nat) : Int) ≤ (262144 : Int)))) rfl rfl, hfin, rfl⟩
  · refine WL.guardF (b' := false) (yf_bool rfl rfl hg6) rfl rfl ?_
    refine WL.guardF (b' := false) (yf_bool rfl rfl hg6) rfl rfl ?_
    refine WL.guardF (b' := false) (yf_bool rfl rfl hg6) rfl rfl ?_
    refine WL.guardF (b' := false) (yf_bool rfl rfl hg6) rfl rfl ?_
    refine WL.pick (b := false) (congrArg Value.bool hg6) rfl rfl ?_
    refine WL.assign (v := .bool (false)) rfl rfl ?_
    refine WL.nil ?_
    refine WC.ret ?_
    have hfin : ((.bool (false)) : Value) = Value.bool (right3 I) := congrArg Value.bool (by unfold right3; rw [Bool.eq_iff_iff]; simp at *; omega)
    exact ⟨_, Res.one (v := .bool (false)) rfl rfl, hfin, rfl⟩

theorem right4_spec (bm : Nat) (sv wv : Value) (I : Img) (w : World) (hR : Rep w sv wv I) (hB : Blk w bm #[.int .i64 I.entry, sv, wv] 25) : CallsR Try.prog 24 #[ptr bm 0] w (fun v w' => v = .bool (right4 I) ∧ w = w') := by
  have hI1 := hR.ls
  have hI2 := hR.lw
  refine callsR_of Try.func24 rfl rfl rfl ?_
  refine WC.seq ?_
  refine WC.region ?_
  refine WL.assign (v := .bool (false)) rfl rfl ?_
  refine WL.nil ?_
  refine WC.seq ?_
  refine WC.region ?_
  refine WL.fieldAddr rfl fo25_1 rfl ?_
  refine WL.load1 rfl ag22 (hB.cell (j := 1) rfl) rfl ?_
  refine WL.lenSl (sz := 2) (m := I.syms.length) (xs := symCells I.syms) el22 rfl (hR.s) rfl ?_
  refine WL.bin rfl rfl rfl (BinR.geq) ?_
  refine WL.move (v := .bool (decide ((1 : Int) ≤ ((I.syms.length : Nat) : Int)))) rfl rfl ?_
  rcases Bool.eq_false_or_eq_true (decide ((1 : Int) ≤ ((I.syms.length : Nat) : Int))) with hg6 | hg6
  · refine WL.guardT (yf_bool rfl rfl hg6) ?_
    refine WL.fieldAddr rfl fo25_1 rfl ?_
    refine WL.guardT (yf_bool rfl rfl hg6) ?_
    refine WL.load1 rfl ag22 (hB.cell (j := 1) rfl) rfl ?_
    refine WL.guardT (yf_bool rfl rfl hg6) ?_
    refine WL.lenSl (sz := 2) (m := I.syms.length) (xs := symCells I.syms) el22 rfl (hR.s) rfl ?_
    refine WL.guardT (yf_bool rfl rfl hg6) ?_
    refine WL.bin rfl rfl rfl (BinR.leq) ?_
    refine WL.pick (b := true) (congrArg Value.bool hg6) rfl rfl ?_
    refine WL.move (v := .bool (decide (((I.syms.length : Nat) : Int) ≤ (65 : Int)))) rfl rfl ?_
    rcases Bool.eq_false_or_eq_true (decide (((I.syms.length : Nat) : Int) ≤ (65 : Int))) with hg12 | hg12
    · have hpos : 0 < I.syms.length := by have := hg6; simp at this; omega
      have hhead := headAt_eq I.syms hpos
      obtain ⟨bs0, os0, cs0, es0, hcs0⟩ := hR.s.at hpos
      refine WL.guardT (yf_bool rfl rfl hg12) ?_
      refine WL.fieldAddr rfl fo25_1 rfl ?_
      refine WL.guardT (yf_bool rfl rfl hg12) ?_
      refine WL.load1 rfl ag22 (hB.cell (j := 1) rfl) rfl ?_
      refine WL.guardT (yf_bool rfl rfl hg12) ?_
      refine WL.indexAddr (i := 0) (b := bs0) (o := os0) el22 sz49 (Eq.trans (rfl) es0) rfl (by omega) rfl ?_
      refine WL.guardT (yf_bool rfl rfl hg12) ?_
      refine WL.fieldAddr rfl fo49_1 rfl ?_
      refine WL.guardT (yf_bool rfl rfl hg12) ?_
      refine WL.load1 rfl ag3 ((symCells_get I.syms 0 (by omega)).2 |> hcs0 (0 * 2 + 1) _) rfl ?_
      refine WL.guardT (yf_bool rfl rfl hg12) ?_
      refine WL.bin rfl rfl rfl (BinR.eql) ?_
      refine WL.pick (b := true) (congrArg Value.bool hg12) rfl rfl ?_
      refine WL.assign (v := .bool ((((I.syms[0]).2 : Int) == (0 : Int)))) rfl rfl ?_
      refine WL.nil ?_
      refine WC.ret ?_
      have hfin : ((.bool ((((I.syms[0]).2 : Int) == (0 : Int)))) : Value) = Value.bool (right4 I) := congrArg Value.bool (by unfold right4; first | (rw [Bool.eq_iff_iff]; simp at *; omega) | (rw [hhead]; simp [*]; done) | (rw [hhead]; rw [Bool.eq_iff_iff]; simp at *; omega))
      exact ⟨_, Res.one (v := .bool ((((I.syms[0]).2 : Int) == (0 : Int)))) rfl rfl, hfin, rfl⟩
    · refine WL.guardF (b' := false) (yf_bool rfl rfl hg12) rfl rfl ?_
      refine WL.guardF (b' := false) (yf_bool rfl rfl hg12) rfl rfl ?_
      refine WL.guardF (b' := false) (yf_bool rfl rfl hg12) rfl rfl ?_
      refine WL.guardF (b' := false) (yf_bool rfl rfl hg12) rfl rfl ?_
      refine WL.guardF (b' := false) (yf_bool rfl rfl hg12) rfl rfl ?_
      refine WL.guardF (b' := false) (yf_bool rfl rfl hg12) rfl rfl ?_
      refine WL.pick (b := false) (congrArg Value.bool hg12) rfl rfl ?_
      refine WL.assign (v := .bool (false)) rfl rfl ?_
      refine WL.nil ?_
      refine WC.ret ?_
      have hfin : ((.bool (false)) : Value) = Value.bool (right4 I) := congrArg Value.bool (by unfold right4; first | (rw [Bool.eq_iff_iff]; simp at *; omega) | (rw [hhead]; simp [*]; done) | (rw [hhead]; rw [Bool.eq_iff_iff]; simp at *; omega))
      exact ⟨_, Res.one (v := .bool (false)) rfl rfl, hfin, rfl⟩
  · refine WL.guardF (b' := false) (yf_bool rfl rfl hg6) rfl rfl ?_
    refine WL.guardF (b' := false) (yf_bool rfl rfl hg6) rfl rfl ?_
    refine WL.guardF (b' := false) (yf_bool rfl rfl hg6) rfl rfl ?_
    refine WL.guardF (b' := false) (yf_bool rfl rfl hg6) rfl rfl ?_
    refine WL.pick (b := false) (congrArg Value.bool hg6) rfl rfl ?_
    refine WL.move (v := .bool (false)) rfl rfl ?_
    refine WL.guardF (b' := false) (rfl) rfl rfl ?_
    refine WL.guardF (b' := false) (rfl) rfl rfl ?_
    refine WL.guardF (b' := false) (rfl) rfl rfl ?_
    refine WL.guardF (b' := false) (rfl) rfl rfl ?_
    refine WL.guardF (b' := false) (rfl) rfl rfl ?_
    refine WL.guardF (b' := false) (rfl) rfl rfl ?_
    refine WL.pick (b := false) rfl rfl rfl ?_
    refine WL.assign (v := .bool (false)) rfl rfl ?_
    refine WL.nil ?_
    refine WC.ret ?_
    have hfin : ((.bool (false)) : Value) = Value.bool (right4 I) := congrArg Value.bool (by unfold right4; first | (rw [Bool.eq_iff_iff]; simp at *; omega) | (rw [hhead]; simp [*]; done) | (rw [hhead]; rw [Bool.eq_iff_iff]; simp at *; omega))
    exact ⟨_, Res.one (v := .bool (false)) rfl rfl, hfin, rfl⟩
end Go.Proofs.I
