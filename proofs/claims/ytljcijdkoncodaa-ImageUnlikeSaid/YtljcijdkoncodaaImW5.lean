import Derived.Test.YtljcijdkoncodaaImgBig
import Derived.Test.YtljcijdkoncodaaRows
import Derived.Test.YtljcijdkoncodaaImW4
set_option linter.unusedSimpArgs false
set_option linter.unusedVariables false
namespace Go.Proofs.I
open Go Go.Ux Go.Ux.Image Go.Proofs


theorem get_bad (sv : Value) (l : List UInt8) (a : Int) (n : Nat) (w : World) (hS0 : Sl w sv 1 l.length (bs l)) (hl : l.length ≤ 1000000000) (hn : n ≤ 6) (ha : a ≤ 9223372036854775807) (h : a < 0 ∨ (l.length : Int) - a < n) : CallsR Try.prog 34 #[sv, .int .i64 (a), IN (n)] w (fun v w' => v = .tuple #[IN 0, .int .i64 (-1)] ∧ Ext w w') := by
  refine callsR_of Try.func34 rfl rfl rfl ?_
  refine WC.seq ?_
  refine WC.region ?_
  refine WL.assign (v := IN (0)) rfl rfl ?_
  refine WL.assign (v := IN (0)) rfl rfl ?_
  refine WL.nil ?_
  refine WC.seq ?_
  refine WC.seq ?_
  refine WC.region ?_
  refine WL.move (v := .int .i64 (a)) rfl rfl ?_
  refine WL.bin rfl rfl rfl (BinR.lss) ?_
  refine WL.move (v := .bool (decide ((a : Int) < (0 : Int)))) rfl rfl ?_
  rcases Bool.eq_false_or_eq_true (decide ((a : Int) < (0 : Int))) with hg12 | hg12
  · refine WL.guardF (b' := true) (yf_bool rfl rfl hg12) rfl rfl ?_
    refine WL.guardF (b' := true) (yf_bool rfl rfl hg12) rfl rfl ?_
    refine WL.guardF (b' := true) (yf_bool rfl rfl hg12) rfl rfl ?_
    refine WL.guardF (b' := true) (yf_bool rfl rfl hg12) rfl rfl ?_
    refine WL.guardF (b' := true) (yf_bool rfl rfl hg12) rfl rfl ?_
    refine WL.guardF (b' := true) (yf_bool rfl rfl hg12) rfl rfl ?_
    refine WL.pick (b := true) (congrArg Value.bool hg12) rfl rfl ?_
    refine WL.nil ?_
    refine WC.condT rfl ?_
    refine WC.seq ?_
    refine WC.region ?_
    refine WL.assign (v := IN (0)) rfl rfl ?_
    refine WL.assign (v := .int .i64 (-1)) rfl rfl ?_
    refine WL.nil ?_
    refine WC.ret ?_
    exact ⟨_, Res.two (v := IN (0)) (v' := .int .i64 (-1)) rfl rfl rfl, rfl, Mod.refl _ _⟩
  · have hg12' := of_decide_eq_false hg12
    refine WL.guardT (yf_bool rfl rfl hg12) ?_
    refine WL.move (v := sv) rfl rfl ?_
    refine WL.guardT (yf_bool rfl rfl hg12) ?_
    refine WL.lenSl (sz := 1) (m := l.length) (xs := bs l) el28 rfl (hS0) rfl ?_
    refine WL.guardT (yf_bool rfl rfl hg12) ?_
    refine WL.move (v := .int .i64 (a)) rfl rfl ?_
    refine WL.guardT (yf_bool rfl rfl hg12) ?_
    refine WL.bin rfl rfl rfl (BinR.subI (by have := of_decide_eq_false hg12; omega)) ?_
    refine WL.guardT (yf_bool rfl rfl hg12) ?_
    refine WL.move (v := IN (n)) rfl rfl ?_
    refine WL.guardT (yf_bool rfl rfl hg12) ?_
    refine WL.bin (v := .bool (true)) rfl rfl rfl (BinR.toB (BinR.lss) (decide_eq_true (by have := of_decide_eq_false hg12; omega))) ?_
    refine WL.pick (b := false) (congrArg Value.bool hg12) rfl rfl ?_
    refine WL.nil ?_
    refine WC.condT rfl ?_
    refine WC.seq ?_
    refine WC.region ?_
    refine WL.assign (v := IN (0)) rfl rfl ?_
    refine WL.assign (v := .int .i64 (-1)) rfl rfl ?_
    refine WL.nil ?_
    refine WC.ret ?_
    exact ⟨_, Res.two (v := IN (0)) (v' := .int .i64 (-1)) rfl rfl rfl, rfl, Mod.refl _ _⟩

theorem get_ok (sv : Value) (l : List UInt8) (a n : Nat) (w : World) (hS0 : Sl w sv 1 l.length (bs l)) (hl : l.length ≤ 1000000000) (hn : n ≤ 6) (h : a + n ≤ l.length) : CallsR Try.prog 34 #[sv, IN (a), IN (n)] w (fun v w' => v = .tuple #[IN (num ((l.drop a).take n)), IN (a + n)] ∧ Ext w w') := by
  refine callsR_of Try.func34 rfl rfl rfl ?_
  refine WC.seq ?_
  refine WC.region ?_
  refine WL.assign (v := IN (0)) rfl rfl ?_
  refine WL.assign (v := IN (0)) rfl rfl ?_
  refine WL.nil ?_
  refine WC.seq ?_
  refine WC.seq ?_
  refine WC.region ?_
  refine WL.move (v := IN (a)) rfl rfl ?_
  refine WL.bin (v := .bool (false)) rfl rfl rfl (BinR.toB (BinR.lss) (decide_eq_false (by omega))) ?_
  refine WL.move (v := .bool (false)) rfl rfl ?_
  refine WL.guardT (rfl) ?_
  refine WL.move (v := sv) rfl rfl ?_
  refine WL.guardT (rfl) ?_
  refine WL.lenSl (sz := 1) (m := l.length) (xs := bs l) el28 rfl (hS0) rfl ?_
  refine WL.guardT (rfl) ?_
  refine WL.move (v := IN (a)) rfl rfl ?_
  refine WL.guardT (rfl) ?_
  refine WL.bin rfl rfl rfl (BinR.subN (a := l.length) (b := a) (by omega) (by omega)) ?_
  refine WL.guardT (rfl) ?_
  refine WL.move (v := IN (n)) rfl rfl ?_
  refine WL.guardT (rfl) ?_
  refine WL.bin (v := .bool (false)) rfl rfl rfl (BinR.toB (BinR.lss) (decide_eq_false (by omega))) ?_
  refine WL.pick (b := false) rfl rfl rfl ?_
  refine WL.nil ?_
  refine WC.condF rfl ?_
  refine WC.skip ?_
  refine WC.seq ?_
  refine WC.region ?_
  refine WL.assign (v := IN (0)) rfl rfl ?_
  refine WL.nil ?_
  refine WC.seq ?_
  refine WC.seq ?_
  refine WC.region ?_
  refine WL.assign (v := IN (0)) rfl rfl ?_
  refine WL.nil ?_
  refine WC.block ?_
  refine WC.loop (fun k f w_ => ∃ j, (k + j = n) ∧ f 0 = sv ∧ f 1 = IN (a) ∧ f 2 = IN (n) ∧ f 6 = IN (0) ∧ f 7 = IN (0) ∧ f 8 = IN (num ((l.drop a).take j)) ∧ f 9 = IN (j) ∧ f 10 = IN (a) ∧ f 11 = .bool (false) ∧ f 12 = .bool (false) ∧ f 13 = sv ∧ f 14 = IN (l.length) ∧ f 15 = IN (a) ∧ f 16 = IN ((l.length - a)) ∧ f 17 = IN (n) ∧ f 18 = .bool (false) ∧ f 19 = .bool (false) ∧ w_ = w) (n) ?_ ?_
  · exact ⟨(0), by omega, rfl, rfl, rfl, rfl, rfl, rfl, rfl, rfl, rfl, rfl, rfl, rfl, rfl, rfl, rfl, rfl, rfl, rfl⟩
  rintro k f1 _ ⟨j, hk1, h0_1, h1_1, h2_1, h6_1, h7_1, h8_1, h9_1, h10_1, h11_1, h12_1, h13_1, h14_1, h15_1, h16_1, h17_1, h18_1, h19_1, rfl⟩
  refine WC.seq ?_
  refine WC.seq ?_
  refine WC.region ?_
  refine WL.move (v := IN (j)) h9_1 rfl ?_
  refine WL.move (v := IN (n)) h2_1 rfl ?_
  refine WL.bin rfl rfl rfl (BinR.lss) ?_
  refine WL.nil ?_
  refine WC.cond rfl (fun hc22 => ?_) (fun hc22 => ?_)
  · have hj : j < n := by have := of_decide_eq_true hc22; omega
    refine WC.skip ?_
    refine WC.seq ?_
    refine WC.block ?_
    refine WC.region ?_
    refine WL.move (v := IN (num ((l.drop a).take j))) h8_1 rfl ?_
    refine WL.bin rfl rfl rfl (BinR.mulN (b := 256) (by have := num_take_lt (l.drop a) j n (by omega) hn; omega)) ?_
    refine WL.move (v := sv) h0_1 rfl ?_
    refine WL.move (v := IN (a)) h1_1 rfl ?_
    refine WL.move (v := IN (j)) h9_1 rfl ?_
    refine WL.bin rfl rfl rfl (BinR.addN (by omega)) ?_
    refine WL.indexSl (sz := 1) (m := l.length) (xs := bs l) (i := (a + j)) el28 sz5 rfl rfl (by omega) (hS0) rfl ?_
    intro b31 o31 hb31 hc31
    refine WL.load1 rfl ag5 (hc31 ((a + j) * 1) _ (by rw [Nat.mul_one]; exact bs_get l (a + j) (by omega))) rfl ?_
    refine WL.conv rfl rfl (ConvR.toI Try.underlying5 Try.underlying3 (u8_fits _)) ?_
    refine WL.bin rfl rfl rfl (BinR.addN (by have := num_take_lt (l.drop a) j n (by omega) hn; have := (l[a + j]).toNat_lt; omega)) ?_
    refine WL.assign (v := IN ((num ((l.drop a).take j) * 256 + (l[a + j]).toNat))) rfl rfl ?_
    refine WL.nil ?_
    refine WC.region ?_
    refine WL.move (v := IN (j)) h9_1 rfl ?_
    refine WL.bin rfl rfl rfl (BinR.succN (by omega)) ?_
    refine WL.assign (v := IN (j + 1)) rfl rfl ?_
    refine WL.nil ?_
    exact ⟨k - 1, by omega, (j + 1), by omega, h0_1, h1_1, h2_1, h6_1, h7_1, congrArg IN (num_drop_take l a j (by omega)).symm, rfl, h10_1, h11_1, h12_1, h13_1, h14_1, h15_1, h16_1, h17_1, h18_1, h19_1, rfl⟩
  · have hj : n ≤ j := by have := of_decide_eq_false hc22; omega
    refine WC.exit ?_
    refine WC.seq ?_
    refine WC.region ?_
    refine WL.move (v := IN (num ((l.drop a).take j))) h8_1 rfl ?_
    refine WL.move (v := IN (a)) h1_1 rfl ?_
    refine WL.move (v := IN (n)) h2_1 rfl ?_
    refine WL.bin rfl rfl rfl (BinR.addN (by omega)) ?_
    refine WL.assign (v := IN (num ((l.drop a).take j))) rfl rfl ?_
    refine WL.assign (v := IN ((a + n))) rfl rfl ?_
    refine WL.nil ?_
    refine WC.ret ?_
    exact ⟨_, Res.two (v := IN (num ((l.drop a).take j))) (v' := IN ((a + n))) rfl rfl rfl, by rw [show j = n by omega], Mod.refl _ _⟩
end Go.Proofs.I
