import Derived.Test.YtljcijdkoncodaaImgBig
import Derived.Test.YtljcijdkoncodaaRows
import Derived.Test.YtljcijdkoncodaaImW2
set_option linter.unusedSimpArgs false
set_option linter.unusedVariables false
namespace Go.Proofs.I
open Go Go.Ux Go.Ux.Image Go.Proofs
theorem fo64_1 : fieldOff Try.prog 64 1 = some 1 := by kernel_rfl
theorem ag4 : isAggT Try.prog 4 = some false := by kernel_rfl
theorem sz4 : sizeT Try.prog 4 = some 1 := by kernel_rfl
theorem fo64_0 : fieldOff Try.prog 64 0 = some 0 := by kernel_rfl
theorem ag28 : isAggT Try.prog 28 = some false := by kernel_rfl
theorem el28 : elemT Try.prog 28 = some 5 := by kernel_rfl
theorem sz5 : sizeT Try.prog 5 = some 1 := by kernel_rfl
theorem sz28 : sizeT Try.prog 28 = some 1 := by kernel_rfl

theorem take_bad (rb : Nat) (sv : Value) (l : List UInt8) (n : Nat) (w : World) (hB0 : Blk w rb #[sv, .bool true] 64) (hS0 : Sl w sv 1 l.length (bs l)) (hne0 : sv.ownBlock ≠ some rb) : CallsR Try.prog 29 #[ptr rb 0, IN (n)] w (fun v w' => v = .slice none 0 0 ∧ Mod (· = rb) w w' ∧ Blk w' rb #[sv, .bool true] 64 ∧ Sl w' sv 1 l.length (bs l)) := by
  refine callsR_of Try.func29 rfl rfl rfl ?_
  refine WC.seq ?_
  refine WC.region ?_
  refine WL.assign (v := .slice none 0 0) rfl rfl ?_
  refine WL.nil ?_
  refine WC.seq ?_
  refine WC.seq ?_
  refine WC.region ?_
  refine WL.move (v := ptr rb 0) rfl rfl ?_
  refine WL.move (v := ptr rb 0) rfl rfl ?_
  refine WL.nilCheck rfl rfl ?_
  refine WL.fieldAddr rfl fo64_1 rfl ?_
  refine WL.load1 rfl ag4 (hB0.cell (j := 1) rfl) rfl ?_
  refine WL.move (v := .bool (true)) rfl rfl ?_
  refine WL.guardF (b' := true) (rfl) rfl rfl ?_
  refine WL.guardF (b' := true) (rfl) rfl rfl ?_
  refine WL.guardF (b' := true) (rfl) rfl rfl ?_
  refine WL.guardF (b' := true) (rfl) rfl rfl ?_
  refine WL.guardF (b' := true) (rfl) rfl rfl ?_
  refine WL.guardF (b' := true) (rfl) rfl rfl ?_
  refine WL.guardF (b' := true) (rfl) rfl rfl ?_
  refine WL.pick (b := true) rfl rfl rfl ?_
  refine WL.nilCheck rfl rfl ?_
  refine WL.fieldAddr rfl fo64_1 rfl ?_
  refine WL.storeB (v := .bool (true)) rfl rfl rfl sz4 hB0 (Nat.le_of_ble_eq_true rfl) ?_
  intro ws1 ms1 bs1 zs1
  refine WL.nil ?_
  refine WC.seq ?_
  refine WC.region ?_
  refine WL.move (v := ptr rb 0) rfl rfl ?_
  refine WL.nilCheck rfl rfl ?_
  refine WL.fieldAddr rfl fo64_1 rfl ?_
  refine WL.load1 rfl ag4 (bs1.cell (j := 1) rfl) rfl ?_
  refine WL.nil ?_
  refine WC.condT rfl ?_
  refine WC.seq ?_
  refine WC.region ?_
  refine WL.assign (v := .slice none 0 0) rfl rfl ?_
  refine WL.nil ?_
  refine WC.ret ?_
  have S2 := (hS0).mod' (ms1) (fun g hg e => hne0 (hg.trans (congrArg some e)))
  exact ⟨_, Res.one (v := .slice none 0 0) rfl rfl, rfl, ms1, bs1, S2⟩

theorem take_short (rb : Nat) (sv : Value) (l : List UInt8) (n : Nat) (w : World) (hB0 : Blk w rb #[sv, .bool false] 64) (hS0 : Sl w sv 1 l.length (bs l)) (hne0 : sv.ownBlock ≠ some rb) (h : l.length < n) : CallsR Try.prog 29 #[ptr rb 0, IN (n)] w (fun v w' => v = .slice none 0 0 ∧ Mod (· = rb) w w' ∧ Blk w' rb #[sv, .bool true] 64 ∧ Sl w' sv 1 l.length (bs l)) := by
  refine callsR_of Try.func29 rfl rfl rfl ?_
  refine WC.seq ?_
  refine WC.region ?_
  refine WL.assign (v := .slice none 0 0) rfl rfl ?_
  refine WL.nil ?_
  refine WC.seq ?_
  refine WC.seq ?_
  refine WC.region ?_
  refine WL.move (v := ptr rb 0) rfl rfl ?_
  refine WL.move (v := ptr rb 0) rfl rfl ?_
  refine WL.nilCheck rfl rfl ?_
  refine WL.fieldAddr rfl fo64_1 rfl ?_
  refine WL.load1 rfl ag4 (hB0.cell (j := 1) rfl) rfl ?_
  refine WL.move (v := .bool (false)) rfl rfl ?_
  refine WL.guardT (rfl) ?_
  refine WL.move (v := IN (n)) rfl rfl ?_
  refine WL.guardT (rfl) ?_
  refine WL.move (v := ptr rb 0) rfl rfl ?_
  refine WL.guardT (rfl) ?_
  refine WL.nilCheck rfl rfl ?_
  refine WL.guardT (rfl) ?_
  refine WL.fieldAddr rfl fo64_0 rfl ?_
  refine WL.guardT (rfl) ?_
  refine WL.load1 rfl ag28 (hB0.cell (j := 0) rfl) rfl ?_
  refine WL.guardT (rfl) ?_
  refine WL.lenSl (sz := 1) (m := l.length) (xs := bs l) el28 rfl (hS0) rfl ?_
  refine WL.guardT (rfl) ?_
  refine WL.bin (v := .bool (true)) rfl rfl rfl (BinR.toB (BinR.gtr) (decide_eq_true (by omega))) ?_
  refine WL.pick (b := false) rfl rfl rfl ?_
  refine WL.nilCheck rfl rfl ?_
  refine WL.fieldAddr rfl fo64_1 rfl ?_
  refine WL.storeB (v := .bool (true)) rfl rfl rfl sz4 hB0 (Nat.le_of_ble_eq_true rfl) ?_
  intro ws1 ms1 bs1 zs1
  refine WL.nil ?_
  refine WC.seq ?_
  refine WC.region ?_
  refine WL.move (v := ptr rb 0) rfl rfl ?_
  refine WL.nilCheck rfl rfl ?_
  refine WL.fieldAddr rfl fo64_1 rfl ?_
  refine WL.load1 rfl ag4 (bs1.cell (j := 1) rfl) rfl ?_
  refine WL.nil ?_
  refine WC.condT rfl ?_
  refine WC.seq ?_
  refine WC.region ?_
  refine WL.assign (v := .slice none 0 0) rfl rfl ?_
  refine WL.nil ?_
  refine WC.ret ?_
  have S2 := (hS0).mod' (ms1) (fun g hg e => hne0 (hg.trans (congrArg some e)))
  exact ⟨_, Res.one (v := .slice none 0 0) rfl rfl, rfl, ms1, bs1, S2⟩

theorem take_ok (rb : Nat) (sv : Value) (l : List UInt8) (n : Nat) (w : World) (hB0 : Blk w rb #[sv, .bool false] 64) (hS0 : Sl w sv 1 l.length (bs l)) (hne0 : sv.ownBlock ≠ some rb) (h : n ≤ l.length) : CallsR Try.prog 29 #[ptr rb 0, IN (n)] w (fun v w' => Sl w' v 1 n (bs (l.take n)) ∧ Mod (· = rb) w w' ∧ ∃ sv', Blk w' rb #[sv', .bool false] 64 ∧ Sl w' sv' 1 (l.drop n).length (bs (l.drop n)) ∧ sv'.ownBlock = sv.ownBlock) := by
  refine callsR_of Try.func29 rfl rfl rfl ?_
  refine WC.seq ?_
  refine WC.region ?_
  refine WL.assign (v := .slice none 0 0) rfl rfl ?_
  refine WL.nil ?_
  refine WC.seq ?_
  refine WC.seq ?_
  refine WC.region ?_
  refine WL.move (v := ptr rb 0) rfl rfl ?_
  refine WL.move (v := ptr rb 0) rfl rfl ?_
  refine WL.nilCheck rfl rfl ?_
  refine WL.fieldAddr rfl fo64_1 rfl ?_
  refine WL.load1 rfl ag4 (hB0.cell (j := 1) rfl) rfl ?_
  refine WL.move (v := .bool (false)) rfl rfl ?_
  refine WL.guardT (rfl) ?_
  refine WL.move (v := IN (n)) rfl rfl ?_
  refine WL.guardT (rfl) ?_
  refine WL.move (v := ptr rb 0) rfl rfl ?_
  refine WL.guardT (rfl) ?_
  refine WL.nilCheck rfl rfl ?_
  refine WL.guardT (rfl) ?_
  refine WL.fieldAddr rfl fo64_0 rfl ?_
  refine WL.guardT (rfl) ?_
  refine WL.load1 rfl ag28 (hB0.cell (j := 0) rfl) rfl ?_
  refine WL.guardT (rfl) ?_
  refine WL.lenSl (sz := 1) (m := l.length) (xs := bs l) el28 rfl (hS0) rfl ?_
  refine WL.guardT (rfl) ?_
  refine WL.bin (v := .bool (false)) rfl rfl rfl (BinR.toB (BinR.gtr) (decide_eq_false (by omega))) ?_
  refine WL.pick (b := false) rfl rfl rfl ?_
  refine WL.nilCheck rfl rfl ?_
  refine WL.fieldAddr rfl fo64_1 rfl ?_
  refine WL.storeB (v := .bool (false)) rfl rfl rfl sz4 hB0 (Nat.le_of_ble_eq_true rfl) ?_
  intro ws1 ms1 bs1 zs1
  refine WL.nil ?_
  refine WC.seq ?_
  refine WC.region ?_
  refine WL.move (v := ptr rb 0) rfl rfl ?_
  refine WL.nilCheck rfl rfl ?_
  refine WL.fieldAddr rfl fo64_1 rfl ?_
  refine WL.load1 rfl ag4 (bs1.cell (j := 1) rfl) rfl ?_
  refine WL.nil ?_
  refine WC.condF rfl ?_
  refine WC.skip ?_
  refine WC.seq ?_
  refine WC.region ?_
  refine WL.move (v := ptr rb 0) rfl rfl ?_
  refine WL.nilCheck rfl rfl ?_
  refine WL.fieldAddr rfl fo64_0 rfl ?_
  refine WL.load1 rfl ag28 (bs1.cell (j := 0) rfl) rfl ?_
  refine WL.move (v := IN (n)) rfl rfl ?_
  have S2 := (hS0).mod' (ms1) (fun g hg e => hne0 (hg.trans (congrArg some e)))
  refine WL.sliceToSl (sz := 1) (m := l.length) (xs := bs l) (j := n) el28 sz5 rfl rfl (by omega) (S2) rfl ?_
  intro v31 hv31 hbv31
  have hv31b : Sl ws1 v31 1 (n) (bs (l.take n)) := by rw [Nat.mul_one] at hv31; unfold bs at hv31 ⊢; rw [List.map_take]; exact hv31
  have N3 : v31.ownBlock ≠ some rb := by rw [hbv31]; exact hne0
  refine WL.assign (v := v31) rfl rfl ?_
  refine WL.nil ?_
  refine WC.seq ?_
  refine WC.region ?_
  refine WL.move (v := ptr rb 0) rfl rfl ?_
  refine WL.move (v := ptr rb 0) rfl rfl ?_
  refine WL.nilCheck rfl rfl ?_
  refine WL.fieldAddr rfl fo64_0 rfl ?_
  refine WL.load1 rfl ag28 (bs1.cell (j := 0) rfl) rfl ?_
  refine WL.move (v := IN (n)) rfl rfl ?_
  refine WL.sliceFromSl (sz := 1) (m := l.length) (xs := bs l) (j := n) el28 sz5 rfl rfl (by omega) (S2) rfl ?_
  intro v38 hv38 hbv38
  have hv38b : Sl ws1 v38 1 ((l.drop n).length) (bs (l.drop n)) := by rw [Nat.mul_one] at hv38; unfold bs at hv38 ⊢; rw [List.map_drop, List.length_drop]; exact hv38
  have N4 : v38.ownBlock ≠ some rb := by rw [hbv38]; exact hne0
  refine WL.nilCheck rfl rfl ?_
  refine WL.fieldAddr rfl fo64_0 rfl ?_
  refine WL.storeB (v := v38) rfl rfl (hv38b).one sz28 bs1 (Nat.le_of_ble_eq_true rfl) ?_
  intro ws5 ms5 bs5 zs5
  refine WL.nil ?_
  refine WC.seq ?_
  refine WC.region ?_
  refine WL.move (v := v31) rfl rfl ?_
  refine WL.assign (v := v31) rfl rfl ?_
  refine WL.nil ?_
  refine WC.ret ?_
  have S6 := (hv31b).mod' (ms5) (fun g hg e => N3 (hg.trans (congrArg some e)))
  have S7 := (hv38b).mod' (ms5) (fun g hg e => N4 (hg.trans (congrArg some e)))
  exact ⟨_, Res.one (v := v31) rfl rfl, S6, Mod.trans (ms1) (ms5), v38, bs5, S7, hbv38⟩
end Go.Proofs.I
