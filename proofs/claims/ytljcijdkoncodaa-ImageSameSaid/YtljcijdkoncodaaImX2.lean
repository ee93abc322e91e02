import Derived.Test.YtljcijdkoncodaaImgBig
import Derived.Test.YtljcijdkoncodaaRows
import Derived.Test.YtljcijdkoncodaaImX1
set_option linter.unusedSimpArgs false
set_option linter.unusedVariables false
namespace Go.Proofs.I
open Go Go.Ux Go.Ux.Image Go.Proofs
theorem ag56 : isAggT Try.prog 56 = some false := by kernel_rfl
theorem fo49_0 : fieldOff Try.prog 49 0 = some 0 := by kernel_rfl
theorem ag9 : isAggT Try.prog 9 = some false := by kernel_rfl

theorem zero3 : ∀ w : World, (zeroValue 3).run Try.prog w = .ok (IN 0) w := fun _ => by kernel_rfl
/-- The map says who was there. -/
def Cnt (ls : List (List UInt8 × Nat)) (ns : List (List UInt8)) : Prop := ∀ k, (0 < cnt ls k ↔ k ∈ ns) ∧ cnt ls k ≤ ns.length
theorem Cnt.next {ls : List (List UInt8 × Nat)} {ns : List (List UInt8)} (h : Cnt ls ns) (k : List UInt8) : Cnt (cntSet ls k (cnt ls k + 1)) (k :: ns) := by
  intro k'
  have h1 := h k'
  have h2 := h k
  rw [cnt_set]
  by_cases e : k = k'
  · subst e; simp; omega
  · have : ¬ k' = k := fun e' => e e'.symm
    simp [e, this, h1]; omega

theorem symOk_not (nw : Nat) (ns : List (List UInt8)) (last : Int) (s : List UInt8 × Int) (c : Nat) (hmem : ns.contains s.1 = decide (0 < c)) :
    (!symOk nw ns last s) = (decide ((s.1.length : Int) < 1) || decide (64 < (s.1.length : Int)) || decide (1 < ((c + 1 : Nat) : Int)) || decide (s.2 ≤ last) || (s.2 % 4 != 0) || decide (((4 * nw : Nat) : Int) ≤ s.2)) := by
  unfold symOk
  rw [hmem]
  generalize s.1.length = n
  generalize s.2 = a
  rw [Bool.eq_iff_iff]
  simp only [Bool.not_eq_true', Bool.and_eq_false_iff, Bool.not_eq_false', Bool.or_eq_true, decide_eq_true_eq, decide_eq_false_iff_not, bne_iff_ne, beq_eq_false_iff_ne, ne_eq]
  omega

theorem wrong_spec (s : List UInt8 × Int) (ls : List (List UInt8 × Nat)) (ns : List (List UInt8)) (last : Int) (bn bl r bm : Nat) (sv wv : Value) (I : Img) (w : World) (hn : Blk w bn #[.map (some r)] 56) (hL : Blk w bl #[.int .i64 last] 3) (hB : Blk w bm #[.int .i64 I.entry, sv, wv] 25) (hR : Rep w sv wv I) (hM : MapS w r ls) (hC : Cnt ls ns) (hlast : -1 ≤ last) (hns : ns.length ≤ 1000000000) (hs2 : s.2 ≤ 9223372036854775807) (d1 : bn ≠ r) (d2 : bl ≠ r) (d3 : bm ≠ r) (d4 : bn ≠ bl) (d5 : bm ≠ bl) (dw : 0 < I.words.length → ∀ g, wv.ownBlock = some g → g ≠ r ∧ g ≠ bl) (s64 : s.1.length ≤ 1000000000) : CallsR Try.prog 21 #[.agg #[St (s.1), .int .i64 (s.2)], ptr bn 0, ptr bl 0, ptr bm 0] w (fun v w' => v = .bool (!symOk I.words.length ns last s) ∧ Mod (fun k => k = r ∨ k = bl) w w' ∧ MapS w' r (cntSet ls s.1 (cnt ls s.1 + 1)) ∧ Blk w' bl #[.int .i64 s.2] 3) := by
  have hI2 := hR.lw
  have hc0 := (hC s.1).2
  have hmem : ns.contains s.1 = decide (0 < cnt ls s.1) := by rw [Bool.eq_iff_iff, decide_eq_true_eq, (hC s.1).1, List.contains_iff_mem]
  have hcc : cnt (cntSet ls s.1 (cnt ls s.1 + 1)) s.1 = cnt ls s.1 + 1 := by rw [cnt_set]; simp
  refine callsR_of Try.func21 rfl rfl rfl ?_
  refine WC.seq ?_
  refine WC.region ?_
  refine WL.box (v := .agg #[St (s.1), .int .i64 (s.2)]) rfl rfl ?_
  intro b4 w4 n4
  have E1 : Ext w w4 := Mod.trans (Mod.refl _ _) (n4.ext)
  refine WL.assign (v := .bool (false)) rfl rfl ?_
  refine WL.nil ?_
  refine WC.seq ?_
  refine WC.region ?_
  have B2 := (hn).ext (n4.ext)
  refine WL.load1 rfl ag56 (B2.cell (j := 0) rfl) rfl ?_
  refine WL.fieldAddr rfl fo49_0 rfl ?_
  refine WL.load1 rfl ag9 (n4.blk.cell (j := 0) rfl) rfl ?_
  refine WL.lookupS (ls := ls) (k := (s.1)) Try.underlying56 Try.underlying9 zero3 rfl rfl (hM.ext n4.ext) rfl ?_
  refine WL.bin rfl rfl rfl (BinR.succN (by omega)) ?_
  refine WL.mapSet (ls := ls) (k := (s.1)) (v := cnt (ls) (s.1) + 1) Try.underlying56 Try.underlying9 rfl rfl rfl (hM.ext n4.ext) ?_
  intro wm hm mm
  refine WL.nil ?_
  refine WC.seq ?_
  refine WC.region ?_
  refine WL.fieldAddr rfl fo49_0 rfl ?_
  have B3 := (n4.blk).mod (mm) ((fun e => by have := n4.num; have := hM.lt; omega))
  refine WL.load1 rfl ag9 (B3.cell (j := 0) rfl) rfl ?_
  refine WL.lenSt Try.underlying9 rfl rfl ?_
  refine WL.bin rfl rfl rfl (BinR.lss) ?_
  refine WL.move (v := .bool (decide ((((s.1).length : Nat) : Int) < (1 : Int)))) rfl rfl ?_
  rcases Bool.eq_false_or_eq_true (decide ((((s.1).length : Nat) : Int) < (1 : Int))) with hg16 | hg16
  · refine WL.guardF (b' := true) (yf_bool rfl rfl hg16) rfl rfl ?_
    refine WL.guardF (b' := true) (yf_bool rfl rfl hg16) rfl rfl ?_
    refine WL.guardF (b' := true) (yf_bool rfl rfl hg16) rfl rfl ?_
    refine WL.guardF (b' := true) (yf_bool rfl rfl hg16) rfl rfl ?_
    refine WL.pick (b := true) (congrArg Value.bool hg16) rfl rfl ?_
    refine WL.move (v := .bool (true)) rfl rfl ?_
    refine WL.guardF (b' := true) (rfl) rfl rfl ?_
    refine WL.guardF (b' := true) (rfl) rfl rfl ?_
    refine WL.guardF (b' := true) (rfl) rfl rfl ?_
    refine WL.guardF (b' := true) (rfl) rfl rfl ?_
    refine WL.guardF (b' := true) (rfl) rfl rfl ?_
    refine WL.pick (b := true) rfl rfl rfl ?_
    refine WL.move (v := .bool (true)) rfl rfl ?_
    refine WL.guardF (b' := true) (rfl) rfl rfl ?_
    refine WL.guardF (b' := true) (rfl) rfl rfl ?_
    refine WL.guardF (b' := true) (rfl) rfl rfl ?_
    refine WL.guardF (b' := true) (rfl) rfl rfl ?_
    refine WL.pick (b := true) rfl rfl rfl ?_
    refine WL.move (v := .bool (true)) rfl rfl ?_
    refine WL.guardF (b' := true) (rfl) rfl rfl ?_
    refine WL.guardF (b' := true) (rfl) rfl rfl ?_
    refine WL.guardF (b' := true) (rfl) rfl rfl ?_
    refine WL.guardF (b' := true) (rfl) rfl rfl ?_
    refine WL.pick (b := true) rfl rfl rfl ?_
    refine WL.move (v := .bool (true)) rfl rfl ?_
    refine WL.guardF (b' := true) (rfl) rfl rfl ?_
    refine WL.guardF (b' := true) (rfl) rfl rfl ?_
    refine WL.guardF (b' := true) (rfl) rfl rfl ?_
    refine WL.guardF (b' := true) (rfl) rfl rfl ?_
    refine WL.guardF (b' := true) (rfl) rfl rfl ?_
    refine WL.guardF (b' := true) (rfl) rfl rfl ?_
    refine WL.guardF (b' := true) (rfl) rfl rfl ?_
    refine WL.pick (b := true) rfl rfl rfl ?_
    refine WL.assign (v := .bool (true)) rfl rfl ?_
    refine WL.nil ?_
    refine WC.seq ?_
    refine WC.region ?_
    refine WL.fieldAddr rfl fo49_1 rfl ?_
    refine WL.load1 rfl ag3 (B3.cell (j := 1) rfl) rfl ?_
    have B4 := ((hL).ext (n4.ext)).mod (mm) (d2)
    refine WL.storeB (v := .int .i64 (s.2)) rfl rfl rfl sz3 B4 (Nat.le_of_ble_eq_true rfl) ?_
    intro ws5 ms5 bs5 zs5
    refine WL.nil ?_
    refine WC.seq ?_
    refine WC.region ?_
    refine WL.move (v := .bool (true)) rfl rfl ?_
    refine WL.assign (v := .bool (true)) rfl rfl ?_
    refine WL.nil ?_
    refine WC.ret ?_
    have hfin : ((.bool (true)) : Value) = Value.bool (!symOk I.words.length ns last s) := congrArg Value.bool (by rw [symOk_not _ _ _ _ _ hmem]; clear hn hL hB hR hM hC dw hm hmem; simp only [hcc] at *; simp only [*, Bool.true_or, Bool.or_true, Bool.false_or, Bool.or_false])
    exact ⟨_, Res.one (v := .bool (true)) rfl rfl, hfin, Mod.trans (Mod.trans (Mod.ext (n4.ext)) ((mm).imp (fun _ _ h => Or.inl h))) ((ms5).imp (fun _ _ h => Or.inr h)), hm.mod (ms5) (fun e => d2 e.symm), bs5⟩
  · refine WL.guardT (yf_bool rfl rfl hg16) ?_
    refine WL.fieldAddr rfl fo49_0 rfl ?_
    refine WL.guardT (yf_bool rfl rfl hg16) ?_
    refine WL.load1 rfl ag9 (B3.cell (j := 0) rfl) rfl ?_
    refine WL.guardT (yf_bool rfl rfl hg16) ?_
    refine WL.lenSt Try.underlying9 rfl rfl ?_
    refine WL.guardT (yf_bool rfl rfl hg16) ?_
    refine WL.bin rfl rfl rfl (BinR.gtr) ?_
    refine WL.pick (b := false) (congrArg Value.bool hg16) rfl rfl ?_
    refine WL.move (v := .bool (decide ((64 : Int) < (((s.1).length : Nat) : Int)))) rfl rfl ?_
    rcases Bool.eq_false_or_eq_true (decide ((64 : Int) < (((s.1).length : Nat) : Int))) with hg22 | hg22
    · refine WL.guardF (b' := true) (yf_bool rfl rfl hg22) rfl rfl ?_
      refine WL.guardF (b' := true) (yf_bool rfl rfl hg22) rfl rfl ?_
      refine WL.guardF (b' := true) (yf_bool rfl rfl hg22) rfl rfl ?_
      refine WL.guardF (b' := true) (yf_bool rfl rfl hg22) rfl rfl ?_
      refine WL.guardF (b' := true) (yf_bool rfl rfl hg22) rfl rfl ?_
      refine WL.pick (b := true) (congrArg Value.bool hg22) rfl rfl ?_
      refine WL.move (v := .bool (true)) rfl rfl ?_
      refine WL.guardF (b' := true) (rfl) rfl rfl ?_
      refine WL.guardF (b' := true) (rfl) rfl rfl ?_
      refine WL.guardF (b' := true) (rfl) rfl rfl ?_
      refine WL.guardF (b' := true) (rfl) rfl rfl ?_
      refine WL.pick (b := true) rfl rfl rfl ?_
      refine WL.move (v := .bool (true)) rfl rfl ?_
      refine WL.guardF (b' := true) (rfl) rfl rfl ?_
      refine WL.guardF (b' := true) (rfl) rfl rfl ?_
      refine WL.guardF (b' := true) (rfl) rfl rfl ?_
      refine WL.guardF (b' := true) (rfl) rfl rfl ?_
      refine WL.pick (b := true) rfl rfl rfl ?_
      refine WL.move (v := .bool (true)) rfl rfl ?_
      refine WL.guardF (b' := true) (rfl) rfl rfl ?_
      refine WL.guardF (b' := true) (rfl) rfl rfl ?_
      refine WL.guardF (b' := true) (rfl) rfl rfl ?_
      refine WL.guardF (b' := true) (rfl) rfl rfl ?_
      refine WL.guardF (b' := true) (rfl) rfl rfl ?_
      refine WL.guardF (b' := true) (rfl) rfl rfl ?_
      refine WL.guardF (b' := true) (rfl) rfl rfl ?_
      refine WL.pick (b := true) rfl rfl rfl ?_
      refine WL.assign (v := .bool (true)) rfl rfl ?_
      refine WL.nil ?_
      refine WC.seq ?_
      refine WC.region ?_
      refine WL.fieldAddr rfl fo49_1 rfl ?_
      refine WL.load1 rfl ag3 (B3.cell (j := 1) rfl) rfl ?_
      have B6 := ((hL).ext (n4.ext)).mod (mm) (d2)
      refine WL.storeB (v := .int .i64 (s.2)) rfl rfl rfl sz3 B6 (Nat.le_of_ble_eq_true rfl) ?_
      intro ws7 ms7 bs7 zs7
      refine WL.nil ?_
      refine WC.seq ?_
      refine WC.region ?_
      refine WL.move (v := .bool (true)) rfl rfl ?_
      refine WL.assign (v := .bool (true)) rfl rfl ?_
      refine WL.nil ?_
      refine WC.ret ?_
      have hfin : ((.bool (true)) : Value) = Value.bool (!symOk I.words.length ns last s) := congrArg Value.bool (by rw [symOk_not _ _ _ _ _ hmem]; clear hn hL hB hR hM hC dw hm hmem; simp only [hcc] at *; simp only [*, Bool.true_or, Bool.or_true, Bool.false_or, Bool.or_false])
      exact ⟨_, Res.one (v := .bool (true)) rfl rfl, hfin, Mod.trans (Mod.trans (Mod.ext (n4.ext)) ((mm).imp (fun _ _ h => Or.inl h))) ((ms7).imp (fun _ _ h => Or.inr h)), hm.mod (ms7) (fun e => d2 e.symm), bs7⟩
    · refine WL.guardT (yf_bool rfl rfl hg22) ?_
      have B8 := (B2).mod (mm) (d1)
      refine WL.load1 rfl ag56 (B8.cell (j := 0) rfl) rfl ?_
      refine WL.guardT (yf_bool rfl rfl hg22) ?_
      refine WL.fieldAddr rfl fo49_0 rfl ?_
      refine WL.guardT (yf_bool rfl rfl hg22) ?_
      refine WL.load1 rfl ag9 (B3.cell (j := 0) rfl) rfl ?_
      refine WL.guardT (yf_bool rfl rfl hg22) ?_
      refine WL.lookupS (ls := cntSet ls (s.1) (cnt (ls) (s.1) + 1)) (k := (s.1)) Try.underlying56 Try.underlying9 zero3 rfl rfl (hm) rfl ?_
      refine WL.guardT (yf_bool rfl rfl hg22) ?_
      refine WL.bin rfl rfl rfl (BinR.gtr) ?_
      refine WL.pick (b := false) (congrArg Value.bool hg22) rfl rfl ?_
      refine WL.move (v := .bool (decide ((1 : Int) < ((cnt (cntSet ls (s.1) (cnt (ls) (s.1) + 1)) (s.1) : Nat) : Int)))) rfl rfl ?_
      rcases Bool.eq_false_or_eq_true (decide ((1 : Int) < ((cnt (cntSet ls (s.1) (cnt (ls) (s.1) + 1)) (s.1) : Nat) : Int))) with hg29 | hg29
      · refine WL.guardF (b' := true) (yf_bool rfl rfl hg29) rfl rfl ?_
        refine WL.guardF (b' := true) (yf_bool rfl rfl hg29) rfl rfl ?_
        refine WL.guardF (b' := true) (yf_bool rfl rfl hg29) rfl rfl ?_
        refine WL.guardF (b' := true) (yf_bool rfl rfl hg29) rfl rfl ?_
        refine WL.pick (b := true) (congrArg Value.bool hg29) rfl rfl ?_
        refine WL.move (v := .bool (true)) rfl rfl ?_
        refine WL.guardF (b' := true) (rfl) rfl rfl ?_
        refine WL.guardF (b' := true) (rfl) rfl rfl ?_
        refine WL.guardF (b' := true) (rfl) rfl rfl ?_
        refine WL.guardF (b' := true) (rfl) rfl rfl ?_
        refine WL.pick (b := true) rfl rfl rfl ?_
        refine WL.move (v := .bool (true)) rfl rfl ?_
        refine WL.guardF (b' := true) (rfl) rfl rfl ?_
        refine WL.guardF (b' := true) (rfl) rfl rfl ?_
        refine WL.guardF (b' := true) (rfl) rfl rfl ?_
        refine WL.guardF (b' := true) (rfl) rfl rfl ?_
        refine WL.guardF (b' := true) (rfl) rfl rfl ?_
        refine WL.guardF (b' := true) (rfl) rfl rfl ?_
        refine WL.guardF (b' := true) (rfl) rfl rfl ?_
        refine WL.pick (b := true) rfl rfl rfl ?_
        refine WL.assign (v := .bool (true)) rfl rfl ?_
        refine WL.nil ?_
        refine WC.seq ?_
        refine WC.region ?_
        refine WL.fieldAddr rfl fo49_1 rfl ?_
        refine WL.load1 rfl ag3 (B3.cell (j := 1) rfl) rfl ?_
        have B9 := ((hL).ext (n4.ext)).mod (mm) (d2)
        refine WL.storeB (v := .int .i64 (s.2)) rfl rfl rfl sz3 B9 (Nat.le_of_ble_eq_true rfl) ?_
        intro ws10 ms10 bs10 zs10
        refine WL.nil ?_
        refine WC.seq ?_
        refine WC.region ?_
        refine WL.move (v := .bool (true)) rfl rfl ?_
        refine WL.assign (v := .bool (true)) rfl rfl ?_
        refine WL.nil ?_
        refine WC.ret ?_
        have hfin : ((.bool (true)) : Value) = Value.bool (!symOk I.words.length ns last s) := congrArg Value.bool (by rw [symOk_not _ _ _ _ _ hmem]; clear hn hL hB hR hM hC dw hm hmem; simp only [hcc] at *; simp only [*, Bool.true_or, Bool.or_true, Bool.false_or, Bool.or_false])
        exact ⟨_, Res.one (v := .bool (true)) rfl rfl, hfin, Mod.trans (Mod.trans (Mod.ext (n4.ext)) ((mm).imp (fun _ _ h => Or.inl h))) ((ms10).imp (fun _ _ h => Or.inr h)), hm.mod (ms10) (fun e => d2 e.symm), bs10⟩
      · refine WL.guardT (yf_bool rfl rfl hg29) ?_
        refine WL.fieldAddr rfl fo49_1 rfl ?_
        refine WL.guardT (yf_bool rfl rfl hg29) ?_
        refine WL.load1 rfl ag3 (B3.cell (j := 1) rfl) rfl ?_
        refine WL.guardT (yf_bool rfl rfl hg29) ?_
        have B11 := ((hL).ext (n4.ext)).mod (mm) (d2)
        refine WL.load1 rfl ag3 (B11.cell (j := 0) rfl) rfl ?_
        refine WL.guardT (yf_bool rfl rfl hg29) ?_
        refine WL.bin rfl rfl rfl (BinR.leq) ?_
        refine WL.pick (b := false) (congrArg Value.bool hg29) rfl rfl ?_
        refine WL.move (v := .bool (decide ((s.2 : Int) ≤ (last : Int)))) rfl rfl ?_
        rcases Bool.eq_false_or_eq_true (decide ((s.2 : Int) ≤ (last : Int))) with hg35 | hg35
        · refine WL.guardF (b' := true) (yf_bool rfl rfl hg35) rfl rfl ?_
          refine WL.guardF (b' := true) (yf_bool rfl rfl hg35) rfl rfl ?_
          refine WL.guardF (b' := true) (yf_bool rfl rfl hg35) rfl rfl ?_
          refine WL.guardF (b' := true) (yf_bool rfl rfl hg35) rfl rfl ?_
          refine WL.pick (b := true) (congrArg Value.bool hg35) rfl rfl ?_
          refine WL.move (v := .bool (true)) rfl rfl ?_
          refine WL.guardF (b' := true) (rfl) rfl rfl ?_
          refine WL.guardF (b' := true) (rfl) rfl rfl ?_
          refine WL.guardF (b' := true) (rfl) rfl rfl ?_
          refine WL.guardF (b' := true) (rfl) rfl rfl ?_
          refine WL.guardF (b' := true) (rfl) rfl rfl ?_
          refine WL.guardF (b' := true) (rfl) rfl rfl ?_
          refine WL.guardF (b' := true) (rfl) rfl rfl ?_
          refine WL.pick (b := true) rfl rfl rfl ?_
          refine WL.assign (v := .bool (true)) rfl rfl ?_
          refine WL.nil ?_
          refine WC.seq ?_
          refine WC.region ?_
          refine WL.fieldAddr rfl fo49_1 rfl ?_
          refine WL.load1 rfl ag3 (B3.cell (j := 1) rfl) rfl ?_
          refine WL.storeB (v := .int .i64 (s.2)) rfl rfl rfl sz3 B11 (Nat.le_of_ble_eq_true rfl) ?_
          intro ws12 ms12 bs12 zs12
          refine WL.nil ?_
          refine WC.seq ?_
          refine WC.region ?_
          refine WL.move (v := .bool (true)) rfl rfl ?_
          refine WL.assign (v := .bool (true)) rfl rfl ?_
          refine WL.nil ?_
          refine WC.ret ?_
          have hfin : ((.bool (true)) : Value) = Value.bool (!symOk I.words.length ns last s) := congrArg Value.bool (by rw [symOk_not _ _ _ _ _ hmem]; clear hn hL hB hR hM hC dw hm hmem; simp only [hcc] at *; simp only [*, Bool.true_or, Bool.or_true, Bool.false_or, Bool.or_false])
          exact ⟨_, Res.one (v := .bool (true)) rfl rfl, hfin, Mod.trans (Mod.trans (Mod.ext (n4.ext)) ((mm).imp (fun _ _ h => Or.inl h))) ((ms12).imp (fun _ _ h => Or.inr h)), hm.mod (ms12) (fun e => d2 e.symm), bs12⟩
        · refine WL.guardT (yf_bool rfl rfl hg35) ?_
          refine WL.fieldAddr rfl fo49_1 rfl ?_
          refine WL.guardT (yf_bool rfl rfl hg35) ?_
          refine WL.load1 rfl ag3 (B3.cell (j := 1) rfl) rfl ?_
          refine WL.guardT (yf_bool rfl rfl hg35) ?_
          refine WL.bin rfl rfl rfl (BinR.remI (by have := of_decide_eq_false hg35; omega) (by decide)) ?_
          refine WL.guardT (yf_bool rfl rfl hg35) ?_
          refine WL.bin rfl rfl rfl (BinR.neq) ?_
          refine WL.pick (b := false) (congrArg Value.bool hg35) rfl rfl ?_
          refine WL.move (v := .bool (((s.2 % 4 : Int) != (0 : Int)))) rfl rfl ?_
          rcases Bool.eq_false_or_eq_true (((s.2 % 4 : Int) != (0 : Int))) with hg41 | hg41
          · refine WL.guardF (b' := true) (yf_bool rfl rfl hg41) rfl rfl ?_
            refine WL.guardF (b' := true) (yf_bool rfl rfl hg41) rfl rfl ?_
            refine WL.guardF (b' := true) (yf_bool rfl rfl hg41) rfl rfl ?_
            refine WL.guardF (b' := true) (yf_bool rfl rfl hg41) rfl rfl ?_
            refine WL.guardF (b' := true) (yf_bool rfl rfl hg41) rfl rfl ?_
            refine WL.guardF (b' := true) (yf_bool rfl rfl hg41) rfl rfl ?_
            refine WL.guardF (b' := true) (yf_bool rfl rfl hg41) rfl rfl ?_
            refine WL.pick (b := true) (congrArg Value.bool hg41) rfl rfl ?_
            refine WL.assign (v := .bool (true)) rfl rfl ?_
            refine WL.nil ?_
            refine WC.seq ?_
            refine WC.region ?_
            refine WL.fieldAddr rfl fo49_1 rfl ?_
            refine WL.load1 rfl ag3 (B3.cell (j := 1) rfl) rfl ?_
            refine WL.storeB (v := .int .i64 (s.2)) rfl rfl rfl sz3 B11 (Nat.le_of_ble_eq_true rfl) ?_
            intro ws13 ms13 bs13 zs13
            refine WL.nil ?_
            refine WC.seq ?_
            refine WC.region ?_
            refine WL.move (v := .bool (true)) rfl rfl ?_
            refine WL.assign (v := .bool (true)) rfl rfl ?_
            refine WL.nil ?_
            refine WC.ret ?_
            have hfin : ((.bool (true)) : Value) = Value.bool (!symOk I.words.length ns last s) := congrArg Value.bool (by rw [symOk_not _ _ _ _ _ hmem]; clear hn hL hB hR hM hC dw hm hmem; simp only [hcc] at *; simp only [*, Bool.true_or, Bool.or_true, Bool.false_or, Bool.or_false])
            exact ⟨_, Res.one (v := .bool (true)) rfl rfl, hfin, Mod.trans (Mod.trans (Mod.ext (n4.ext)) ((mm).imp (fun _ _ h => Or.inl h))) ((ms13).imp (fun _ _ h => Or.inr h)), hm.mod (ms13) (fun e => d2 e.symm), bs13⟩
          · refine WL.guardT (yf_bool rfl rfl hg41) ?_
            refine WL.fieldAddr rfl fo49_1 rfl ?_
            refine WL.guardT (yf_bool rfl rfl hg41) ?_
            refine WL.load1 rfl ag3 (B3.cell (j := 1) rfl) rfl ?_
            refine WL.guardT (yf_bool rfl rfl hg41) ?_
            refine WL.fieldAddr rfl fo25_2 rfl ?_
            refine WL.guardT (yf_bool rfl rfl hg41) ?_
            have B14 := ((hB).ext (n4.ext)).mod (mm) (d3)
            refine WL.load1 rfl ag23 (B14.cell (j := 2) rfl) rfl ?_
            refine WL.guardT (yf_bool rfl rfl hg41) ?_
            have S15 := ((hR.w).ext' (n4.ext)).modp (mm) (fun h0 g hg e => (dw h0 g hg).1 e)
            refine WL.lenSl (sz := 1) (m := I.words.length) (xs := wordCells I.words) el23 rfl (S15) rfl ?_
            refine WL.guardT (yf_bool rfl rfl hg41) ?_
            refine WL.bin rfl rfl rfl (BinR.mulN (a := 4) (b := I.words.length) (by omega)) ?_
            refine WL.guardT (yf_bool rfl rfl hg41) ?_
            refine WL.bin rfl rfl rfl (BinR.geq) ?_
            refine WL.pick (b := false) (congrArg Value.bool hg41) rfl rfl ?_
            refine WL.assign (v := .bool (decide ((((4 * I.words.length) : Nat) : Int) ≤ (s.2 : Int)))) rfl rfl ?_
            refine WL.nil ?_
            refine WC.seq ?_
            refine WC.region ?_
            refine WL.fieldAddr rfl fo49_1 rfl ?_
            refine WL.load1 rfl ag3 (B3.cell (j := 1) rfl) rfl ?_
            refine WL.storeB (v := .int .i64 (s.2)) rfl rfl rfl sz3 B11 (Nat.le_of_ble_eq_true rfl) ?_
            intro ws16 ms16 bs16 zs16
            refine WL.nil ?_
            refine WC.seq ?_
            refine WC.region ?_
            refine WL.move (v := .bool (decide ((((4 * I.words.length) : Nat) : Int) ≤ (s.2 : Int)))) rfl rfl ?_
            refine WL.assign (v := .bool (decide ((((4 * I.words.length) : Nat) : Int) ≤ (s.2 : Int)))) rfl rfl ?_
            refine WL.nil ?_
            refine WC.ret ?_
            have hfin : ((.bool (decide ((((4 * I.words.length) : Nat) : Int) ≤ (s.2 : Int)))) : Value) = Value.bool (!symOk I.words.length ns last s) := congrArg Value.bool (by rw [symOk_not _ _ _ _ _ hmem]; clear hn hL hB hR hM hC dw hm hmem; simp only [hcc] at *; simp only [*, Bool.true_or, Bool.or_true, Bool.false_or, Bool.or_false])
            exact ⟨_, Res.one (v := .bool (decide ((((4 * I.words.length) : Nat) : Int) ≤ (s.2 : Int)))) rfl rfl, hfin, Mod.trans (Mod.trans (Mod.ext (n4.ext)) ((mm).imp (fun _ _ h => Or.inl h))) ((ms16).imp (fun _ _ h => Or.inr h)), hm.mod (ms16) (fun e => d2 e.symm), bs16⟩
end Go.Proofs.I
