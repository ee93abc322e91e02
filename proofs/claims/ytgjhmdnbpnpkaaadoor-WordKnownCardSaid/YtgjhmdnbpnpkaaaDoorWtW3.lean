import Derived.Test.YtgjhmdnbpnpkaaaDoorUxMem
import Derived.Test.YtgjhmdnbpnpkaaaDoorWordPure2
import Derived.Test.YtgjhmdnbpnpkaaaDoorRows
import Derived.Test.YtgjhmdnbpnpkaaaDoorWtW2
set_option linter.unusedSimpArgs false
set_option linter.unusedVariables false
namespace Go.Proofs.W
open Go Go.Ux Go.Ux.Word Go.Proofs


theorem movedU_spec (x : BitVec 64) (fb : Bool) (s : Nat) (w : World) (hs : s < 64) : CallsR Tryd.prog 32 #[I64 (x), .bool (true), U64 (b01 fb), IN (s)] w (fun v w' => v = I64 (mvW x true fb s) ∧ w = w') := by
  refine callsR_of Tryd.func32 rfl rfl rfl ?_
  refine WC.seq ?_
  refine WC.region ?_
  refine WL.assign (v := I64 (0#64)) rfl rfl ?_
  refine WL.nil ?_
  refine WC.seq ?_
  refine WC.region ?_
  refine WL.assign (v := U64 (0#64)) rfl rfl ?_
  refine WL.nil ?_
  refine WC.seq ?_
  refine WC.seq ?_
  refine WC.region ?_
  refine WL.assign (v := IN (0)) rfl rfl ?_
  refine WL.nil ?_
  refine WC.block ?_
  refine WC.loop (fun k f w_ => ∃ j, (k + j = 64) ∧ f 0 = I64 (x) ∧ f 1 = .bool (true) ∧ f 2 = U64 (b01 fb) ∧ f 3 = IN (s) ∧ f 8 = I64 (0#64) ∧ f 9 = U64 (low (mvW x true fb s) j) ∧ f 10 = IN (j) ∧ w_ = w) (64) ?_ ?_
  · exact ⟨(0), by omega, rfl, rfl, rfl, rfl, rfl, congrArg U64 (low_zero _).symm, rfl, rfl⟩
  rintro k f1 _ ⟨j, hk, h0_1, h1_1, h2_1, h3_1, h8_1, h9_1, h10_1, rfl⟩
  refine WC.seq ?_
  refine WC.seq ?_
  refine WC.region ?_
  refine WL.move (v := IN (j)) h10_1 rfl ?_
  refine WL.bin rfl rfl rfl (BinR.lss) ?_
  refine WL.nil ?_
  refine WC.cond rfl (fun hc14 => ?_) (fun hc14 => ?_)
  · have hj : j < 64 := by have := of_decide_eq_true hc14; omega
    refine WC.skip ?_
    refine WC.seq ?_
    refine WC.block ?_
    refine WC.seq ?_
    refine WC.region ?_
    refine WL.move (v := IN (j)) h10_1 rfl ?_
    refine WL.move (v := IN (s)) h3_1 rfl ?_
    refine WL.bin rfl rfl rfl (BinR.addI (a := (j : Int)) (b := (s : Int)) (by omega)) ?_
    refine WL.assign (v := .int .i64 ((j : Int) + (s : Int))) rfl rfl ?_
    refine WL.nil ?_
    refine WC.seq ?_
    refine WC.seq ?_
    refine WC.region ?_
    refine WL.move (v := .bool (true)) h1_1 rfl ?_
    refine WL.nil ?_
    refine WC.condT rfl ?_
    refine WC.region ?_
    refine WL.move (v := IN (j)) h10_1 rfl ?_
    refine WL.move (v := IN (s)) h3_1 rfl ?_
    refine WL.bin rfl rfl rfl (BinR.subI (a := (j : Int)) (b := (s : Int)) (by omega)) ?_
    refine WL.assign (v := .int .i64 ((j : Int) - (s : Int))) rfl rfl ?_
    refine WL.nil ?_
    refine WC.seq ?_
    refine WC.region ?_
    refine WL.move (v := U64 (b01 fb)) h2_1 rfl ?_
    refine WL.assign (v := U64 (b01 fb)) rfl rfl ?_
    refine WL.nil ?_
    refine WC.seq ?_
    refine WC.seq ?_
    refine WC.region ?_
    refine WL.move (v := .int .i64 ((j : Int) - (s : Int))) rfl rfl ?_
    refine WL.bin rfl rfl rfl (BinR.geq) ?_
    refine WL.move (v := .bool (decide ((0 : Int) ≤ ((j : Int) - (s : Int) : Int)))) rfl rfl ?_
    rcases Bool.eq_false_or_eq_true (decide ((0 : Int) ≤ ((j : Int) - (s : Int) : Int))) with hg27 | hg27
    · have h0 := of_decide_eq_true hg27
      refine WL.guardT (yf_bool rfl rfl hg27) ?_
      refine WL.move (v := .int .i64 ((j : Int) - (s : Int))) rfl rfl ?_
      refine WL.guardT (yf_bool rfl rfl hg27) ?_
      refine WL.bin rfl rfl rfl (BinR.lss) ?_
      refine WL.pick (b := true) (congrArg Value.bool hg27) rfl rfl ?_
      refine WL.nil ?_
      refine WC.cond rfl (fun hc30 => ?_) (fun hc30 => ?_)
      · have hlt := of_decide_eq_true hc30
        refine WC.region ?_
        refine WL.move (v := I64 (x)) h0_1 rfl ?_
        refine WL.move (v := IN (j - s)) (congrArg (Value.int .i64) (by omega)) rfl ?_
        refine WL.call ca33 (rfl) rfl (bit_spec (x) (j - s) _) ?_
        rintro _ _ ⟨rfl, rfl⟩
        refine WL.assign (v := U64 ((bitU (x) (j - s)))) rfl rfl ?_
        refine WL.nil ?_
        refine WC.seq ?_
        refine WC.seq ?_
        refine WC.region ?_
        refine WL.move (v := .bool (true)) h1_1 rfl ?_
        refine WL.move (v := .bool (true)) rfl rfl ?_
        refine WL.guardT (rfl) ?_
        refine WL.move (v := .int .i64 ((j : Int) - (s : Int))) rfl rfl ?_
        refine WL.guardT (rfl) ?_
        refine WL.bin rfl rfl rfl (BinR.lss) ?_
        refine WL.pick (b := true) rfl rfl rfl ?_
        refine WL.nil ?_
        refine WC.cond rfl (fun hc38 => ?_) (fun hc38 => ?_)
        · have hneg := of_decide_eq_true hc38
          refine WC.region ?_
          refine WL.assign (v := U64 (0#64)) rfl rfl ?_
          refine WL.nil ?_
          refine WC.region ?_
          refine WL.move (v := U64 (low (mvW x true fb s) j)) h9_1 rfl ?_
          refine WL.move (v := U64 (0#64)) rfl rfl ?_
          refine WL.move (v := IN (j)) h10_1 rfl ?_
          refine WL.bin rfl rfl rfl (BinR.shlU64) ?_
          refine WL.bin rfl rfl rfl (BinR.orU64) ?_
          refine WL.assign (v := U64 ((low (mvW x true fb s) j ||| (0#64 <<< (j))))) rfl rfl ?_
          refine WL.nil ?_
          refine WC.region ?_
          refine WL.move (v := IN (j)) h10_1 rfl ?_
          refine WL.bin rfl rfl rfl (BinR.succN (by omega)) ?_
          refine WL.assign (v := IN (j + 1)) rfl rfl ?_
          refine WL.nil ?_
          have hb : bitU (mvW x true fb s) j = 0#64 := by rw [mv_bit _ _ _ _ _ hj]; unfold mvBit; simp only [if_true, Bool.false_eq_true, if_false]; split <;> first | (exfalso; omega) | exact (bitU_b01 x _).symm | rfl
          have h9n := low_step (mvW x true fb s) j
          rw [hb] at h9n
          exact ⟨k - 1, by omega, (j + 1), by omega, h0_1, h1_1, h2_1, h3_1, h8_1, congrArg U64 h9n, rfl, rfl⟩
        · have hpos := of_decide_eq_false hc38
          refine WC.skip ?_
          refine WC.region ?_
          refine WL.move (v := U64 (low (mvW x true fb s) j)) h9_1 rfl ?_
          refine WL.move (v := U64 ((bitU (x) (j - s)))) rfl rfl ?_
          refine WL.move (v := IN (j)) h10_1 rfl ?_
          refine WL.bin rfl rfl rfl (BinR.shlU64) ?_
          refine WL.bin rfl rfl rfl (BinR.orU64) ?_
          refine WL.assign (v := U64 ((low (mvW x true fb s) j ||| ((bitU (x) (j - s)) <<< (j))))) rfl rfl ?_
          refine WL.nil ?_
          refine WC.region ?_
          refine WL.move (v := IN (j)) h10_1 rfl ?_
          refine WL.bin rfl rfl rfl (BinR.succN (by omega)) ?_
          refine WL.assign (v := IN (j + 1)) rfl rfl ?_
          refine WL.nil ?_
          have hb : bitU (mvW x true fb s) j = (bitU (x) (j - s)) := by rw [mv_bit _ _ _ _ _ hj]; unfold mvBit; simp only [if_true, Bool.false_eq_true, if_false]; split <;> first | (exfalso; omega) | exact (bitU_b01 x _).symm | rfl
          have h9n := low_step (mvW x true fb s) j
          rw [hb] at h9n
          exact ⟨k - 1, by omega, (j + 1), by omega, h0_1, h1_1, h2_1, h3_1, h8_1, congrArg U64 h9n, rfl, rfl⟩
      · have hge := of_decide_eq_false hc30
        refine WC.skip ?_
        refine WC.seq ?_
        refine WC.seq ?_
        refine WC.region ?_
        refine WL.move (v := .bool (true)) h1_1 rfl ?_
        refine WL.move (v := .bool (true)) rfl rfl ?_
        refine WL.guardT (rfl) ?_
        refine WL.move (v := .int .i64 ((j : Int) - (s : Int))) rfl rfl ?_
        refine WL.guardT (rfl) ?_
        refine WL.bin rfl rfl rfl (BinR.lss) ?_
        refine WL.pick (b := true) rfl rfl rfl ?_
        refine WL.nil ?_
        refine WC.cond rfl (fun hc38 => ?_) (fun hc38 => ?_)
        · have hneg := of_decide_eq_true hc38
          refine WC.region ?_
          refine WL.assign (v := U64 (0#64)) rfl rfl ?_
          refine WL.nil ?_
          refine WC.region ?_
          refine WL.move (v := U64 (low (mvW x true fb s) j)) h9_1 rfl ?_
          refine WL.move (v := U64 (0#64)) rfl rfl ?_
          refine WL.move (v := IN (j)) h10_1 rfl ?_
          refine WL.bin rfl rfl rfl (BinR.shlU64) ?_
          refine WL.bin rfl rfl rfl (BinR.orU64) ?_
          refine WL.assign (v := U64 ((low (mvW x true fb s) j ||| (0#64 <<< (j))))) rfl rfl ?_
          refine WL.nil ?_
          refine WC.region ?_
          refine WL.move (v := IN (j)) h10_1 rfl ?_
          refine WL.bin rfl rfl rfl (BinR.succN (by omega)) ?_
          refine WL.assign (v := IN (j + 1)) rfl rfl ?_
          refine WL.nil ?_
          have hb : bitU (mvW x true fb s) j = 0#64 := by rw [mv_bit _ _ _ _ _ hj]; unfold mvBit; simp only [if_true, Bool.false_eq_true, if_false]; split <;> first | (exfalso; omega) | exact (bitU_b01 x _).symm | rfl
          have h9n := low_step (mvW x true fb s) j
          rw [hb] at h9n
          exact ⟨k - 1, by omega, (j + 1), by omega, h0_1, h1_1, h2_1, h3_1, h8_1, congrArg U64 h9n, rfl, rfl⟩
        · have hpos := of_decide_eq_false hc38
          refine WC.skip ?_
          refine WC.region ?_
          refine WL.move (v := U64 (low (mvW x true fb s) j)) h9_1 rfl ?_
          refine WL.move (v := U64 (b01 fb)) rfl rfl ?_
          refine WL.move (v := IN (j)) h10_1 rfl ?_
          refine WL.bin rfl rfl rfl (BinR.shlU64) ?_
          refine WL.bin rfl rfl rfl (BinR.orU64) ?_
          refine WL.assign (v := U64 ((low (mvW x true fb s) j ||| (b01 fb <<< (j))))) rfl rfl ?_
          refine WL.nil ?_
          refine WC.region ?_
          refine WL.move (v := IN (j)) h10_1 rfl ?_
          refine WL.bin rfl rfl rfl (BinR.succN (by omega)) ?_
          refine WL.assign (v := IN (j + 1)) rfl rfl ?_
          refine WL.nil ?_
          have hb : bitU (mvW x true fb s) j = b01 fb := by rw [mv_bit _ _ _ _ _ hj]; unfold mvBit; simp only [if_true, Bool.false_eq_true, if_false]; split <;> first | (exfalso; omega) | exact (bitU_b01 x _).symm | rfl
          have h9n := low_step (mvW x true fb s) j
          rw [hb] at h9n
          exact ⟨k - 1, by omega, (j + 1), by omega, h0_1, h1_1, h2_1, h3_1, h8_1, congrArg U64 h9n, rfl, rfl⟩
    · have h0 := of_decide_eq_false hg27
      refine WL.guardF (b' := false) (yf_bool rfl rfl hg27) rfl rfl ?_
      refine WL.guardF (b' := false) (yf_bool rfl rfl hg27) rfl rfl ?_
      refine WL.pick (b := false) (congrArg Value.bool hg27) rfl rfl ?_
      refine WL.nil ?_
      refine WC.condF rfl ?_
      refine WC.skip ?_
      refine WC.seq ?_
      refine WC.seq ?_
      refine WC.region ?_
      refine WL.move (v := .bool (true)) h1_1 rfl ?_
      refine WL.move (v := .bool (true)) rfl rfl ?_
      refine WL.guardT (rfl) ?_
      refine WL.move (v := .int .i64 ((j : Int) - (s : Int))) rfl rfl ?_
      refine WL.guardT (rfl) ?_
      refine WL.bin rfl rfl rfl (BinR.lss) ?_
      refine WL.pick (b := true) rfl rfl rfl ?_
      refine WL.nil ?_
      refine WC.cond rfl (fun hc38 => ?_) (fun hc38 => ?_)
      · have hneg := of_decide_eq_true hc38
        refine WC.region ?_
        refine WL.assign (v := U64 (0#64)) rfl rfl ?_
        refine WL.nil ?_
        refine WC.region ?_
        refine WL.move (v := U64 (low (mvW x true fb s) j)) h9_1 rfl ?_
        refine WL.move (v := U64 (0#64)) rfl rfl ?_
        refine WL.move (v := IN (j)) h10_1 rfl ?_
        refine WL.bin rfl rfl rfl (BinR.shlU64) ?_
        refine WL.bin rfl rfl rfl (BinR.orU64) ?_
        refine WL.assign (v := U64 ((low (mvW x true fb s) j ||| (0#64 <<< (j))))) rfl rfl ?_
        refine WL.nil ?_
        refine WC.region ?_
        refine WL.move (v := IN (j)) h10_1 rfl ?_
        refine WL.bin rfl rfl rfl (BinR.succN (by omega)) ?_
        refine WL.assign (v := IN (j + 1)) rfl rfl ?_
        refine WL.nil ?_
        have hb : bitU (mvW x true fb s) j = 0#64 := by rw [mv_bit _ _ _ _ _ hj]; unfold mvBit; simp only [if_true, Bool.false_eq_true, if_false]; split <;> first | (exfalso; omega) | exact (bitU_b01 x _).symm | rfl
        have h9n := low_step (mvW x true fb s) j
        rw [hb] at h9n
        exact ⟨k - 1, by omega, (j + 1), by omega, h0_1, h1_1, h2_1, h3_1, h8_1, congrArg U64 h9n, rfl, rfl⟩
      · have hpos := of_decide_eq_false hc38
        refine WC.skip ?_
        refine WC.region ?_
        refine WL.move (v := U64 (low (mvW x true fb s) j)) h9_1 rfl ?_
        refine WL.move (v := U64 (b01 fb)) rfl rfl ?_
        refine WL.move (v := IN (j)) h10_1 rfl ?_
        refine WL.bin rfl rfl rfl (BinR.shlU64) ?_
        refine WL.bin rfl rfl rfl (BinR.orU64) ?_
        refine WL.assign (v := U64 ((low (mvW x true fb s) j ||| (b01 fb <<< (j))))) rfl rfl ?_
        refine WL.nil ?_
        refine WC.region ?_
        refine WL.move (v := IN (j)) h10_1 rfl ?_
        refine WL.bin rfl rfl rfl (BinR.succN (by omega)) ?_
        refine WL.assign (v := IN (j + 1)) rfl rfl ?_
        refine WL.nil ?_
        have hb : bitU (mvW x true fb s) j = b01 fb := by rw [mv_bit _ _ _ _ _ hj]; unfold mvBit; simp only [if_true, Bool.false_eq_true, if_false]; split <;> first | (exfalso; omega) | exact (bitU_b01 x _).symm | rfl
        have h9n := low_step (mvW x true fb s) j
        rw [hb] at h9n
        exact ⟨k - 1, by omega, (j + 1), by omega, h0_1, h1_1, h2_1, h3_1, h8_1, congrArg U64 h9n, rfl, rfl⟩
  · have hj : j = 64 := by have := of_decide_eq_false hc14; omega
    refine WC.exit ?_
    refine WC.seq ?_
    refine WC.region ?_
    refine WL.move (v := U64 (low (mvW x true fb s) j)) h9_1 rfl ?_
    refine WL.conv rfl rfl (ConvR.u64i64 Tryd.underlying43 Tryd.underlying2) ?_
    refine WL.assign (v := I64 (low (mvW x true fb s) j)) rfl rfl ?_
    refine WL.nil ?_
    refine WC.ret ?_
    exact ⟨_, Res.one (v := I64 (low (mvW x true fb s) j)) rfl rfl, by rw [hj, low_all], rfl⟩

theorem movedD_spec (x : BitVec 64) (fb : Bool) (s : Nat) (w : World) (hs : s < 64) : CallsR Tryd.prog 32 #[I64 (x), .bool (false), U64 (b01 fb), IN (s)] w (fun v w' => v = I64 (mvW x false fb s) ∧ w = w') := by
  refine callsR_of Tryd.func32 rfl rfl rfl ?_
  refine WC.seq ?_
  refine WC.region ?_
  refine WL.assign (v := I64 (0#64)) rfl rfl ?_
  refine WL.nil ?_
  refine WC.seq ?_
  refine WC.region ?_
  refine WL.assign (v := U64 (0#64)) rfl rfl ?_
  refine WL.nil ?_
  refine WC.seq ?_
  refine WC.seq ?_
  refine WC.region ?_
  refine WL.assign (v := IN (0)) rfl rfl ?_
  refine WL.nil ?_
  refine WC.block ?_
  refine WC.loop (fun k f w_ => ∃ j, (k + j = 64) ∧ f 0 = I64 (x) ∧ f 1 = .bool (false) ∧ f 2 = U64 (b01 fb) ∧ f 3 = IN (s) ∧ f 8 = I64 (0#64) ∧ f 9 = U64 (low (mvW x false fb s) j) ∧ f 10 = IN (j) ∧ w_ = w) (64) ?_ ?_
  · exact ⟨(0), by omega, rfl, rfl, rfl, rfl, rfl, congrArg U64 (low_zero _).symm, rfl, rfl⟩
  rintro k f1 _ ⟨j, hk, h0_1, h1_1, h2_1, h3_1, h8_1, h9_1, h10_1, rfl⟩
  refine WC.seq ?_
  refine WC.seq ?_
  refine WC.region ?_
  refine WL.move (v := IN (j)) h10_1 rfl ?_
  refine WL.bin rfl rfl rfl (BinR.lss) ?_
  refine WL.nil ?_
  refine WC.cond rfl (fun hc14 => ?_) (fun hc14 => ?_)
  · have hj : j < 64 := by have := of_decide_eq_true hc14; omega
    refine WC.skip ?_
    refine WC.seq ?_
    refine WC.block ?_
    refine WC.seq ?_
    refine WC.region ?_
    refine WL.move (v := IN (j)) h10_1 rfl ?_
    refine WL.move (v := IN (s)) h3_1 rfl ?_
    refine WL.bin rfl rfl rfl (BinR.addI (a := (j : Int)) (b := (s : Int)) (by omega)) ?_
    refine WL.assign (v := .int .i64 ((j : Int) + (s : Int))) rfl rfl ?_
    refine WL.nil ?_
    refine WC.seq ?_
    refine WC.seq ?_
    refine WC.region ?_
    refine WL.move (v := .bool (false)) h1_1 rfl ?_
    refine WL.nil ?_
    refine WC.condF rfl ?_
    refine WC.skip ?_
    refine WC.seq ?_
    refine WC.region ?_
    refine WL.move (v := U64 (b01 fb)) h2_1 rfl ?_
    refine WL.assign (v := U64 (b01 fb)) rfl rfl ?_
    refine WL.nil ?_
    refine WC.seq ?_
    refine WC.seq ?_
    refine WC.region ?_
    refine WL.move (v := .int .i64 ((j : Int) + (s : Int))) rfl rfl ?_
    refine WL.bin rfl rfl rfl (BinR.geq) ?_
    refine WL.move (v := .bool (decide ((0 : Int) ≤ ((j : Int) + (s : Int) : Int)))) rfl rfl ?_
    rcases Bool.eq_false_or_eq_true (decide ((0 : Int) ≤ ((j : Int) + (s : Int) : Int))) with hg27 | hg27
    · have h0 := of_decide_eq_true hg27
      refine WL.guardT (yf_bool rfl rfl hg27) ?_
      refine WL.move (v := .int .i64 ((j : Int) + (s : Int))) rfl rfl ?_
      refine WL.guardT (yf_bool rfl rfl hg27) ?_
      refine WL.bin rfl rfl rfl (BinR.lss) ?_
      refine WL.pick (b := true) (congrArg Value.bool hg27) rfl rfl ?_
      refine WL.nil ?_
      refine WC.cond rfl (fun hc30 => ?_) (fun hc30 => ?_)
      · have hlt := of_decide_eq_true hc30
        refine WC.region ?_
        refine WL.move (v := I64 (x)) h0_1 rfl ?_
        refine WL.move (v := IN (j + s)) (congrArg (Value.int .i64) (by omega)) rfl ?_
        refine WL.call ca33 (rfl) rfl (bit_spec (x) (j + s) _) ?_
        rintro _ _ ⟨rfl, rfl⟩
        refine WL.assign (v := U64 ((bitU (x) (j + s)))) rfl rfl ?_
        refine WL.nil ?_
        refine WC.seq ?_
        refine WC.seq ?_
        refine WC.region ?_
        refine WL.move (v := .bool (false)) h1_1 rfl ?_
        refine WL.move (v := .bool (false)) rfl rfl ?_
        refine WL.guardF (b' := false) (rfl) rfl rfl ?_
        refine WL.guardF (b' := false) (rfl) rfl rfl ?_
        refine WL.pick (b := false) rfl rfl rfl ?_
        refine WL.nil ?_
        refine WC.condF rfl ?_
        refine WC.skip ?_
        refine WC.region ?_
        refine WL.move (v := U64 (low (mvW x false fb s) j)) h9_1 rfl ?_
        refine WL.move (v := U64 ((bitU (x) (j + s)))) rfl rfl ?_
        refine WL.move (v := IN (j)) h10_1 rfl ?_
        refine WL.bin rfl rfl rfl (BinR.shlU64) ?_
        refine WL.bin rfl rfl rfl (BinR.orU64) ?_
        refine WL.assign (v := U64 ((low (mvW x false fb s) j ||| ((bitU (x) (j + s)) <<< (j))))) rfl rfl ?_
        refine WL.nil ?_
        refine WC.region ?_
        refine WL.move (v := IN (j)) h10_1 rfl ?_
        refine WL.bin rfl rfl rfl (BinR.succN (by omega)) ?_
        refine WL.assign (v := IN (j + 1)) rfl rfl ?_
        refine WL.nil ?_
        have hb : bitU (mvW x false fb s) j = (bitU (x) (j + s)) := by rw [mv_bit _ _ _ _ _ hj]; unfold mvBit; simp only [if_true, Bool.false_eq_true, if_false]; split <;> first | (exfalso; omega) | exact (bitU_b01 x _).symm | rfl
        have h9n := low_step (mvW x false fb s) j
        rw [hb] at h9n
        exact ⟨k - 1, by omega, (j + 1), by omega, h0_1, h1_1, h2_1, h3_1, h8_1, congrArg U64 h9n, rfl, rfl⟩
      · have hge := of_decide_eq_false hc30
        refine WC.skip ?_
        refine WC.seq ?_
        refine WC.seq ?_
        refine WC.region ?_
        refine WL.move (v := .bool (false)) h1_1 rfl ?_
        refine WL.move (v := .bool (false)) rfl rfl ?_
        refine WL.guardF (b' := false) (rfl) rfl rfl ?_
        refine WL.guardF (b' := false) (rfl) rfl rfl ?_
        refine WL.pick (b := false) rfl rfl rfl ?_
        refine WL.nil ?_
        refine WC.condF rfl ?_
        refine WC.skip ?_
        refine WC.region ?_
        refine WL.move (v := U64 (low (mvW x false fb s) j)) h9_1 rfl ?_
        refine WL.move (v := U64 (b01 fb)) rfl rfl ?_
        refine WL.move (v := IN (j)) h10_1 rfl ?_
        refine WL.bin rfl rfl rfl (BinR.shlU64) ?_
        refine WL.bin rfl rfl rfl (BinR.orU64) ?_
        refine WL.assign (v := U64 ((low (mvW x false fb s) j ||| (b01 fb <<< (j))))) rfl rfl ?_
        refine WL.nil ?_
        refine WC.region ?_
        refine WL.move (v := IN (j)) h10_1 rfl ?_
        refine WL.bin rfl rfl rfl (BinR.succN (by omega)) ?_
        refine WL.assign (v := IN (j + 1)) rfl rfl ?_
        refine WL.nil ?_
        have hb : bitU (mvW x false fb s) j = b01 fb := by rw [mv_bit _ _ _ _ _ hj]; unfold mvBit; simp only [if_true, Bool.false_eq_true, if_false]; split <;> first | (exfalso; omega) | exact (bitU_b01 x _).symm | rfl
        have h9n := low_step (mvW x false fb s) j
        rw [hb] at h9n
        exact ⟨k - 1, by omega, (j + 1), by omega, h0_1, h1_1, h2_1, h3_1, h8_1, congrArg U64 h9n, rfl, rfl⟩
    · have h0 := of_decide_eq_false hg27
      refine WL.guardF (b' := false) (yf_bool rfl rfl hg27) rfl rfl ?_
      refine WL.guardF (b' := false) (yf_bool rfl rfl hg27) rfl rfl ?_
      refine WL.pick (b := false) (congrArg Value.bool hg27) rfl rfl ?_
      refine WL.nil ?_
      refine WC.condF rfl ?_
      refine WC.skip ?_
      refine WC.seq ?_
      refine WC.seq ?_
      refine WC.region ?_
      refine WL.move (v := .bool (false)) h1_1 rfl ?_
      refine WL.move (v := .bool (false)) rfl rfl ?_
      refine WL.guardF (b' := false) (rfl) rfl rfl ?_
      refine WL.guardF (b' := false) (rfl) rfl rfl ?_
      refine WL.pick (b := false) rfl rfl rfl ?_
      refine WL.nil ?_
      refine WC.condF rfl ?_
      refine WC.skip ?_
      refine WC.region ?_
      refine WL.move (v := U64 (low (mvW x false fb s) j)) h9_1 rfl ?_
      refine WL.move (v := U64 (b01 fb)) rfl rfl ?_
      refine WL.move (v := IN (j)) h10_1 rfl ?_
      refine WL.bin rfl rfl rfl (BinR.shlU64) ?_
      refine WL.bin rfl rfl rfl (BinR.orU64) ?_
      refine WL.assign (v := U64 ((low (mvW x false fb s) j ||| (b01 fb <<< (j))))) rfl rfl ?_
      refine WL.nil ?_
      refine WC.region ?_
      refine WL.move (v := IN (j)) h10_1 rfl ?_
      refine WL.bin rfl rfl rfl (BinR.succN (by omega)) ?_
      refine WL.assign (v := IN (j + 1)) rfl rfl ?_
      refine WL.nil ?_
      have hb : bitU (mvW x false fb s) j = b01 fb := by rw [mv_bit _ _ _ _ _ hj]; unfold mvBit; simp only [if_true, Bool.false_eq_true, if_false]; split <;> first | (exfalso; omega) | exact (bitU_b01 x _).symm | rfl
      have h9n := low_step (mvW x false fb s) j
      rw [hb] at h9n
      exact ⟨k - 1, by omega, (j + 1), by omega, h0_1, h1_1, h2_1, h3_1, h8_1, congrArg U64 h9n, rfl, rfl⟩
  · have hj : j = 64 := by have := of_decide_eq_false hc14; omega
    refine WC.exit ?_
    refine WC.seq ?_
    refine WC.region ?_
    refine WL.move (v := U64 (low (mvW x false fb s) j)) h9_1 rfl ?_
    refine WL.conv rfl rfl (ConvR.u64i64 Tryd.underlying43 Tryd.underlying2) ?_
    refine WL.assign (v := I64 (low (mvW x false fb s) j)) rfl rfl ?_
    refine WL.nil ?_
    refine WC.ret ?_
    exact ⟨_, Res.one (v := I64 (low (mvW x false fb s) j)) rfl rfl, by rw [hj, low_all], rfl⟩
end Go.Proofs.W
