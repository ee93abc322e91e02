import Derived.Test.YtljcijdkoncodaaImgBig
import Derived.Test.YtljcijdkoncodaaRows
import Derived.Test.YtljcijdkoncodaaImW3
set_option linter.unusedSimpArgs false
set_option linter.unusedVariables false
namespace Go.Proofs.I
open Go Go.Ux Go.Ux.Image Go.Proofs
theorem ca29 : callable Try.prog 29 = true := by kernel_rfl
theorem ag5 : isAggT Try.prog 5 = some false := by kernel_rfl

theorem number_bad (rb : Nat) (sv : Value) (l : List UInt8) (n : Nat) (w : World) (hB0 : Blk w rb #[sv, .bool true] 64) (hS0 : Sl w sv 1 l.length (bs l)) (hne0 : sv.ownBlock ≠ some rb) : CallsR Try.prog 30 #[ptr rb 0, IN (n)] w (fun v w' => v = IN 0 ∧ Mod (· = rb) w w' ∧ Blk w' rb #[sv, .bool true] 64 ∧ Sl w' sv 1 l.length (bs l)) := by
  refine callsR_of Try.func30 rfl rfl rfl ?_
  refine WC.seq ?_
  refine WC.region ?_
  refine WL.assign (v := IN (0)) rfl rfl ?_
  refine WL.nil ?_
  refine WC.seq ?_
  refine WC.region ?_
  refine WL.assign (v := IN (0)) rfl rfl ?_
  refine WL.nil ?_
  refine WC.seq ?_
  refine WC.seq ?_
  refine WC.region ?_
  refine WL.move (v := ptr rb 0) rfl rfl ?_
  refine WL.move (v := IN (n)) rfl rfl ?_
  refine WL.call ca29 (rfl) rfl (take_bad rb sv l (n) _ hB0 hS0 hne0) ?_
  rintro _ wt10 ⟨rfl, mt10, bt10, st10⟩
  refine WL.lenS el28 rfl rfl ?_
  refine WL.move (v := IN (0)) rfl rfl ?_
  refine WL.nil ?_
  refine WC.block ?_
  refine WC.loop (fun k f w_ => f 0 = ptr rb 0 ∧ f 1 = IN (n) ∧ f 4 = IN (0) ∧ f 5 = IN (0) ∧ f 8 = ptr rb 0 ∧ f 9 = IN (n) ∧ f 10 = .slice none 0 0 ∧ f 11 = IN (0) ∧ f 12 = IN (0) ∧ w_ = wt10) (0) ?_ ?_
  · exact ⟨rfl, rfl, rfl, rfl, rfl, rfl, rfl, rfl, rfl, rfl⟩
  rintro k f1 _ ⟨h0_1, h1_1, h4_1, h5_1, h8_1, h9_1, h10_1, h11_1, h12_1, rfl⟩
  refine WC.seq ?_
  refine WC.region ?_
  refine WL.bin h12_1 h11_1 rfl (BinR.lss) ?_
  refine WL.nil ?_
  refine WC.seq ?_
  refine WC.condF (rfl) ?_
  refine WC.exit ?_
  refine WC.seq ?_
  refine WC.region ?_
  refine WL.move (v := IN (0)) h5_1 rfl ?_
  refine WL.assign (v := IN (0)) rfl rfl ?_
  refine WL.nil ?_
  refine WC.ret ?_
  exact ⟨_, Res.one (v := IN (0)) rfl rfl, rfl, mt10, bt10, st10⟩

theorem number_short (rb : Nat) (sv : Value) (l : List UInt8) (n : Nat) (w : World) (hB0 : Blk w rb #[sv, .bool false] 64) (hS0 : Sl w sv 1 l.length (bs l)) (hne0 : sv.ownBlock ≠ some rb) (h : l.length < n) : CallsR Try.prog 30 #[ptr rb 0, IN (n)] w (fun v w' => v = IN 0 ∧ Mod (· = rb) w w' ∧ Blk w' rb #[sv, .bool true] 64 ∧ Sl w' sv 1 l.length (bs l)) := by
  refine callsR_of Try.func30 rfl rfl rfl ?_
  refine WC.seq ?_
  refine WC.region ?_
  refine WL.assign (v := IN (0)) rfl rfl ?_
  refine WL.nil ?_
  refine WC.seq ?_
  refine WC.region ?_
  refine WL.assign (v := IN (0)) rfl rfl ?_
  refine WL.nil ?_
  refine WC.seq ?_
  refine WC.seq ?_
  refine WC.region ?_
  refine WL.move (v := ptr rb 0) rfl rfl ?_
  refine WL.move (v := IN (n)) rfl rfl ?_
  refine WL.call ca29 (rfl) rfl (take_short rb sv l (n) _ hB0 hS0 hne0 (by omega)) ?_
  rintro _ wt10 ⟨rfl, mt10, bt10, st10⟩
  refine WL.lenS el28 rfl rfl ?_
  refine WL.move (v := IN (0)) rfl rfl ?_
  refine WL.nil ?_
  refine WC.block ?_
  refine WC.loop (fun k f w_ => f 0 = ptr rb 0 ∧ f 1 = IN (n) ∧ f 4 = IN (0) ∧ f 5 = IN (0) ∧ f 8 = ptr rb 0 ∧ f 9 = IN (n) ∧ f 10 = .slice none 0 0 ∧ f 11 = IN (0) ∧ f 12 = IN (0) ∧ w_ = wt10) (0) ?_ ?_
  · exact ⟨rfl, rfl, rfl, rfl, rfl, rfl, rfl, rfl, rfl, rfl⟩
  rintro k f1 _ ⟨h0_1, h1_1, h4_1, h5_1, h8_1, h9_1, h10_1, h11_1, h12_1, rfl⟩
  refine WC.seq ?_
  refine WC.region ?_
  refine WL.bin h12_1 h11_1 rfl (BinR.lss) ?_
  refine WL.nil ?_
  refine WC.seq ?_
  refine WC.condF (rfl) ?_
  refine WC.exit ?_
  refine WC.seq ?_
  refine WC.region ?_
  refine WL.move (v := IN (0)) h5_1 rfl ?_
  refine WL.assign (v := IN (0)) rfl rfl ?_
  refine WL.nil ?_
  refine WC.ret ?_
  exact ⟨_, Res.one (v := IN (0)) rfl rfl, rfl, mt10, bt10, st10⟩

theorem bs_take_get (l : List UInt8) (n j : Nat) (h : j < n) (hl : j < l.length) : (bs (l.take n))[j]? = some (.int .u8 ((l[j]).toNat : Int)) := by
  rw [bs_get _ j (by rw [List.length_take]; omega)]; simp
theorem u8_fits (b : UInt8) : -9223372036854775808 ≤ (b.toNat : Int) ∧ (b.toNat : Int) ≤ 9223372036854775807 := by have := b.toNat_lt; omega

theorem number_ok (rb : Nat) (sv : Value) (l : List UInt8) (n : Nat) (w : World) (hB0 : Blk w rb #[sv, .bool false] 64) (hS0 : Sl w sv 1 l.length (bs l)) (hne0 : sv.ownBlock ≠ some rb) (h : n ≤ l.length) (hn : n ≤ 6) : CallsR Try.prog 30 #[ptr rb 0, IN (n)] w (fun v w' => v = IN (num (l.take n)) ∧ Mod (· = rb) w w' ∧ ∃ sv', Blk w' rb #[sv', .bool false] 64 ∧ Sl w' sv' 1 (l.drop n).length (bs (l.drop n)) ∧ sv'.ownBlock = sv.ownBlock) := by
  refine callsR_of Try.func30 rfl rfl rfl ?_
  refine WC.seq ?_
  refine WC.region ?_
  refine WL.assign (v := IN (0)) rfl rfl ?_
  refine WL.nil ?_
  refine WC.seq ?_
  refine WC.region ?_
  refine WL.assign (v := IN (0)) rfl rfl ?_
  refine WL.nil ?_
  refine WC.seq ?_
  refine WC.seq ?_
  refine WC.region ?_
  refine WL.move (v := ptr rb 0) rfl rfl ?_
  refine WL.move (v := IN (n)) rfl rfl ?_
  refine WL.call ca29 (rfl) rfl (take_ok rb sv l (n) _ hB0 hS0 hne0 (by omega)) ?_
  rintro vt10 wt10 ⟨ht10, mt10, sv10, bt10, st10, nt10⟩
  refine WL.lenSl (sz := 1) (m := n) (xs := bs (l.take n)) el28 rfl (ht10) rfl ?_
  refine WL.move (v := IN (0)) rfl rfl ?_
  refine WL.nil ?_
  refine WC.block ?_
  refine WC.loop (fun k f w_ => ∃ j, (k + j = n) ∧ f 0 = ptr rb 0 ∧ f 1 = IN (n) ∧ f 4 = IN (0) ∧ f 5 = IN (num (l.take j)) ∧ f 8 = ptr rb 0 ∧ f 9 = IN (n) ∧ f 10 = vt10 ∧ f 11 = IN (n) ∧ f 12 = IN (j) ∧ w_ = wt10) (n) ?_ ?_
  · exact ⟨(0), by omega, rfl, rfl, rfl, rfl, rfl, rfl, rfl, rfl, rfl, rfl⟩
  rintro k f1 _ ⟨j, hk1, h0_1, h1_1, h4_1, h5_1, h8_1, h9_1, h10_1, h11_1, h12_1, rfl⟩
  refine WC.seq ?_
  refine WC.region ?_
  refine WL.bin h12_1 h11_1 rfl (BinR.lss) ?_
  refine WL.nil ?_
  refine WC.seq ?_
  refine WC.cond rfl (fun hc13 => ?_) (fun hc13 => ?_)
  · have hj : j < n := by have := of_decide_eq_true hc13; omega
    refine WC.skip ?_
    refine WC.seq ?_
    refine WC.block ?_
    refine WC.seq ?_
    refine WC.region ?_
    refine WL.indexSl (sz := 1) (m := n) (xs := bs (l.take n)) (i := j) el28 sz5 h10_1 h12_1 (by omega) (ht10) rfl ?_
    intro b14 o14 hb14 hc14
    refine WL.load1 rfl ag5 (hc14 (j * 1) _ (by rw [Nat.mul_one]; exact bs_take_get l n j hj (by omega))) rfl ?_
    refine WL.assign (v := .int .u8 (((l[j]).toNat : Int))) rfl rfl ?_
    refine WL.nil ?_
    refine WC.region ?_
    refine WL.move (v := IN (num (l.take j))) h5_1 rfl ?_
    refine WL.bin (vx := IN (num (l.take j))) rfl rfl rfl (BinR.shl8 (num_take_lt l j n (by omega) hn)) ?_
    refine WL.move (v := .int .u8 (((l[j]).toNat : Int))) rfl rfl ?_
    refine WL.conv rfl rfl (ConvR.toI Try.underlying5 Try.underlying3 (u8_fits _)) ?_
    refine WL.bin rfl rfl rfl (BinR.orN (num_take_lt l j n (by omega) hn) (UInt8.toNat_lt _)) ?_
    refine WL.assign (v := IN ((num (l.take j) * 256 + (l[j]).toNat))) rfl rfl ?_
    refine WL.nil ?_
    refine WC.region ?_
    refine WL.bin h12_1 rfl rfl (BinR.succN (by omega)) ?_
    refine WL.move (v := IN (j + 1)) rfl rfl ?_
    refine WL.nil ?_
    exact ⟨k - 1, by omega, (j + 1), by omega, h0_1, h1_1, h4_1, congrArg IN (num_take l j (by omega)).symm, h8_1, h9_1, h10_1, h11_1, rfl, rfl⟩
  · have hj : n ≤ j := by have := of_decide_eq_false hc13; omega
    refine WC.exit ?_
    refine WC.seq ?_
    refine WC.region ?_
    refine WL.move (v := IN (num (l.take j))) h5_1 rfl ?_
    refine WL.assign (v := IN (num (l.take j))) rfl rfl ?_
    refine WL.nil ?_
    refine WC.ret ?_
    exact ⟨_, Res.one (v := IN (num (l.take j))) rfl rfl, congrArg IN (congrArg num (by rw [show j = n by omega])), mt10, sv10, bt10, st10, nt10⟩
end Go.Proofs.I
