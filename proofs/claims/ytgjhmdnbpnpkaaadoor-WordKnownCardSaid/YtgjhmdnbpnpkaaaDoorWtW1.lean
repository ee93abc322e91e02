import Derived.Test.YtgjhmdnbpnpkaaaDoorUxMem
import Derived.Test.YtgjhmdnbpnpkaaaDoorWordPure2
import Derived.Test.YtgjhmdnbpnpkaaaDoorRows
set_option linter.unusedSimpArgs false
set_option linter.unusedVariables false
namespace Go.Proofs.W
open Go Go.Ux Go.Ux.Word Go.Proofs
theorem ca33 : callable Tryd.prog 33 = true := by kernel_rfl
theorem ca28 : callable Tryd.prog 28 = true := by kernel_rfl
theorem ca29 : callable Tryd.prog 29 = true := by kernel_rfl
theorem ca35 : callable Tryd.prog 35 = true := by kernel_rfl

theorem bit_spec (x : BitVec 64) (j : Nat) (w : World) : CallsR Tryd.prog 33 #[I64 (x), IN (j)] w (fun v w' => v = U64 (bitU x j) ∧ w = w') := by
  refine callsR_of Tryd.func33 rfl rfl rfl ?_
  refine WC.seq ?_
  refine WC.region ?_
  refine WL.assign (v := U64 (0#64)) rfl rfl ?_
  refine WL.nil ?_
  refine WC.seq ?_
  refine WC.region ?_
  refine WL.move (v := I64 (x)) rfl rfl ?_
  refine WL.conv rfl rfl (ConvR.i64u64 Tryd.underlying2 Tryd.underlying43) ?_
  refine WL.move (v := IN (j)) rfl rfl ?_
  refine WL.bin rfl rfl rfl (BinR.shrU64) ?_
  refine WL.bin rfl (vy := U64 (1#64)) rfl rfl (BinR.andU64) ?_
  refine WL.assign (v := U64 (((x >>> (j)) &&& 1#64))) rfl rfl ?_
  refine WL.nil ?_
  refine WC.ret ?_
  exact ⟨_, Res.one (v := U64 (((x >>> (j)) &&& 1#64))) rfl rfl, rfl, rfl⟩

theorem add_spec (x y : BitVec 64) (w : World) : CallsR Tryd.prog 28 #[I64 (x), I64 (y)] w (fun v w' => v = I64 (x + y) ∧ w = w') := by
  refine callsR_of Tryd.func28 rfl rfl rfl ?_
  refine WC.seq ?_
  refine WC.region ?_
  refine WL.assign (v := I64 (0#64)) rfl rfl ?_
  refine WL.nil ?_
  refine WC.seq ?_
  refine WC.region ?_
  refine WL.assign (v := U64 (0#64)) rfl rfl ?_
  refine WL.assign (v := U64 (0#64)) rfl rfl ?_
  refine WL.nil ?_
  refine WC.seq ?_
  refine WC.seq ?_
  refine WC.region ?_
  refine WL.assign (v := IN (0)) rfl rfl ?_
  refine WL.nil ?_
  refine WC.block ?_
  refine WC.loop (fun k f w_ => ∃ j, (k + j = 64) ∧ f 0 = I64 (x) ∧ f 1 = I64 (y) ∧ f 4 = I64 (0#64) ∧ f 5 = U64 (low (x + y) j) ∧ f 6 = U64 (carU x y j) ∧ f 7 = IN (j) ∧ w_ = w) (64) ?_ ?_
  · exact ⟨(0), by omega, rfl, rfl, rfl, congrArg U64 (low_zero _).symm, congrArg U64 (car_zero x y).symm, rfl, rfl⟩
  rintro k f1 _ ⟨j, hk, h0_1, h1_1, h4_1, h5_1, h6_1, h7_1, rfl⟩
  refine WC.seq ?_
  refine WC.seq ?_
  refine WC.region ?_
  refine WL.move (v := IN (j)) h7_1 rfl ?_
  refine WL.bin rfl rfl rfl (BinR.lss) ?_
  refine WL.nil ?_
  refine WC.cond rfl (fun hc10 => ?_) (fun hc10 => ?_)
  · have hj : j < 64 := by have := of_decide_eq_true hc10; omega
    refine WC.skip ?_
    refine WC.seq ?_
    refine WC.block ?_
    refine WC.seq ?_
    refine WC.region ?_
    refine WL.move (v := I64 (x)) h0_1 rfl ?_
    refine WL.move (v := IN (j)) h7_1 rfl ?_
    refine WL.call ca33 (rfl) rfl (bit_spec (x) (j) _) ?_
    rintro _ _ ⟨rfl, rfl⟩
    refine WL.move (v := I64 (y)) h1_1 rfl ?_
    refine WL.move (v := IN (j)) h7_1 rfl ?_
    refine WL.call ca33 (rfl) rfl (bit_spec (y) (j) _) ?_
    rintro _ _ ⟨rfl, rfl⟩
    refine WL.bin rfl rfl rfl (BinR.addU64) ?_
    refine WL.move (v := U64 (carU x y j)) h6_1 rfl ?_
    refine WL.bin rfl rfl rfl (BinR.addU64) ?_
    refine WL.assign (v := U64 ((((bitU (x) (j)) + (bitU (y) (j))) + carU x y j))) rfl rfl ?_
    refine WL.nil ?_
    refine WC.seq ?_
    refine WC.region ?_
    refine WL.move (v := U64 (low (x + y) j)) h5_1 rfl ?_
    refine WL.move (v := U64 ((((bitU (x) (j)) + (bitU (y) (j))) + carU x y j))) rfl rfl ?_
    refine WL.bin rfl (vy := U64 (1#64)) rfl rfl (BinR.andU64) ?_
    refine WL.move (v := IN (j)) h7_1 rfl ?_
    refine WL.bin rfl rfl rfl (BinR.shlU64) ?_
    refine WL.bin rfl rfl rfl (BinR.orU64) ?_
    refine WL.assign (v := U64 ((low (x + y) j ||| (((((bitU (x) (j)) + (bitU (y) (j))) + carU x y j) &&& 1#64) <<< (j))))) rfl rfl ?_
    refine WL.nil ?_
    refine WC.region ?_
    refine WL.move (v := U64 ((((bitU (x) (j)) + (bitU (y) (j))) + carU x y j))) rfl rfl ?_
    refine WL.bin rfl (vy := .int .u64 ((1 : Nat) : Int)) rfl rfl BinR.shrU64 ?_
    refine WL.assign (v := U64 (((((bitU (x) (j)) + (bitU (y) (j))) + carU x y j) >>> (1)))) rfl rfl ?_
    refine WL.nil ?_
    refine WC.region ?_
    refine WL.move (v := IN (j)) h7_1 rfl ?_
    refine WL.bin rfl rfl rfl (BinR.succN (by omega)) ?_
    refine WL.assign (v := IN (j + 1)) rfl rfl ?_
    refine WL.nil ?_
    have hs := add_step x y j hj
    exact ⟨k - 1, by omega, (j + 1), by omega, h0_1, h1_1, h4_1, by rw [← low_step, ← hs.1]; rfl, congrArg U64 hs.2, rfl, rfl⟩
  · have hj : j = 64 := by have := of_decide_eq_false hc10; omega
    refine WC.exit ?_
    refine WC.seq ?_
    refine WC.region ?_
    refine WL.move (v := U64 (low (x + y) j)) h5_1 rfl ?_
    refine WL.conv rfl rfl (ConvR.u64i64 Tryd.underlying43 Tryd.underlying2) ?_
    refine WL.assign (v := I64 (low (x + y) j)) rfl rfl ?_
    refine WL.nil ?_
    refine WC.ret ?_
    exact ⟨_, Res.one (v := I64 (low (x + y) j)) rfl rfl, by rw [hj, low_all], rfl⟩

theorem neg_spec (x : BitVec 64) (w : World) : CallsR Tryd.prog 29 #[I64 (x)] w (fun v w' => v = I64 (-x) ∧ w = w') := by
  refine callsR_of Tryd.func29 rfl rfl rfl ?_
  refine WC.seq ?_
  refine WC.region ?_
  refine WL.assign (v := I64 (0#64)) rfl rfl ?_
  refine WL.nil ?_
  refine WC.seq ?_
  refine WC.region ?_
  refine WL.move (v := I64 (x)) rfl rfl ?_
  refine WL.un rfl rfl UnR.com64 ?_
  refine WL.call ca28 (rfl) rfl (add_spec (~~~(x)) (1#64) _) ?_
  rintro _ _ ⟨rfl, rfl⟩
  refine WL.assign (v := I64 ((~~~(x) + 1#64))) rfl rfl ?_
  refine WL.nil ?_
  refine WC.ret ?_
  exact ⟨_, Res.one (v := I64 ((~~~(x) + 1#64))) rfl rfl, congrArg I64 (neg_eq x), rfl⟩

theorem mul_spec (x y : BitVec 64) (w : World) : CallsR Tryd.prog 30 #[I64 (x), I64 (y)] w (fun v w' => v = I64 (x * y) ∧ w = w') := by
  refine callsR_of Tryd.func30 rfl rfl rfl ?_
  refine WC.seq ?_
  refine WC.region ?_
  refine WL.assign (v := I64 (0#64)) rfl rfl ?_
  refine WL.nil ?_
  refine WC.seq ?_
  refine WC.region ?_
  refine WL.assign (v := I64 (0#64)) rfl rfl ?_
  refine WL.nil ?_
  refine WC.seq ?_
  refine WC.seq ?_
  refine WC.region ?_
  refine WL.assign (v := IN (0)) rfl rfl ?_
  refine WL.nil ?_
  refine WC.block ?_
  refine WC.loop (fun k f w_ => ∃ j, (k + j = 64) ∧ f 0 = I64 (x) ∧ f 1 = I64 (y) ∧ f 4 = I64 (0#64) ∧ f 5 = I64 (x * low y j) ∧ f 6 = IN (j) ∧ w_ = w) (64) ?_ ?_
  · exact ⟨(0), by omega, rfl, rfl, rfl, congrArg I64 (by rw [low_zero]; exact (BitVec.mul_zero).symm), rfl, rfl⟩
  rintro k f1 _ ⟨j, hk, h0_1, h1_1, h4_1, h5_1, h6_1, rfl⟩
  refine WC.seq ?_
  refine WC.seq ?_
  refine WC.region ?_
  refine WL.move (v := IN (j)) h6_1 rfl ?_
  refine WL.bin rfl rfl rfl (BinR.lss) ?_
  refine WL.nil ?_
  refine WC.cond rfl (fun hc8 => ?_) (fun hc8 => ?_)
  · have hj : j < 64 := by have := of_decide_eq_true hc8; omega
    refine WC.skip ?_
    refine WC.seq ?_
    refine WC.block ?_
    refine WC.seq ?_
    refine WC.region ?_
    refine WL.move (v := I64 (y)) h1_1 rfl ?_
    refine WL.move (v := IN (j)) h6_1 rfl ?_
    refine WL.call ca33 (rfl) rfl (bit_spec (y) (j) _) ?_
    rintro _ _ ⟨rfl, rfl⟩
    refine WL.bin rfl (vy := U64 (1#64)) rfl rfl (BinR.eqlU64) ?_
    refine WL.nil ?_
    refine WC.cond rfl (fun hc14 => ?_) (fun hc14 => ?_)
    · have hb := (bit_one y j).symm.trans hc14
      have hnew : I64 (x * low y j + x <<< j) = I64 (x * low y (j + 1)) := by rw [mul_step, if_pos hb]
      refine WC.region ?_
      refine WL.move (v := I64 (x * low y j)) h5_1 rfl ?_
      refine WL.move (v := I64 (x)) h0_1 rfl ?_
      refine WL.conv rfl rfl (ConvR.i64u64 Tryd.underlying2 Tryd.underlying43) ?_
      refine WL.move (v := IN (j)) h6_1 rfl ?_
      refine WL.bin rfl rfl rfl (BinR.shlU64) ?_
      refine WL.conv rfl rfl (ConvR.u64i64 Tryd.underlying43 Tryd.underlying2) ?_
      refine WL.call ca28 (rfl) rfl (add_spec (x * low y j) ((x <<< (j))) _) ?_
      rintro _ _ ⟨rfl, rfl⟩
      refine WL.assign (v := I64 ((x * low y j + (x <<< (j))))) rfl rfl ?_
      refine WL.nil ?_
      refine WC.region ?_
      refine WL.move (v := IN (j)) h6_1 rfl ?_
      refine WL.bin rfl rfl rfl (BinR.succN (by omega)) ?_
      refine WL.assign (v := IN (j + 1)) rfl rfl ?_
      refine WL.nil ?_
      exact ⟨k - 1, by omega, (j + 1), by omega, h0_1, h1_1, h4_1, hnew, rfl, rfl⟩
    · have hb := (bit_one y j).symm.trans hc14
      have hnew : f1 5 = I64 (x * low y (j + 1)) := by rw [h5_1, mul_step, if_neg (by rw [hb]; decide)]
      refine WC.skip ?_
      refine WC.region ?_
      refine WL.move (v := IN (j)) h6_1 rfl ?_
      refine WL.bin rfl rfl rfl (BinR.succN (by omega)) ?_
      refine WL.assign (v := IN (j + 1)) rfl rfl ?_
      refine WL.nil ?_
      exact ⟨k - 1, by omega, (j + 1), by omega, h0_1, h1_1, h4_1, hnew, rfl, rfl⟩
  · have hj : j = 64 := by have := of_decide_eq_false hc8; omega
    refine WC.exit ?_
    refine WC.seq ?_
    refine WC.region ?_
    refine WL.move (v := I64 (x * low y j)) h5_1 rfl ?_
    refine WL.assign (v := I64 (x * low y j)) rfl rfl ?_
    refine WL.nil ?_
    refine WC.ret ?_
    exact ⟨_, Res.one (v := I64 (x * low y j)) rfl rfl, by rw [hj, low_all], rfl⟩

theorem one_spec (b : Bool) (w : World) : CallsR Tryd.prog 34 #[.bool (b)] w (fun v w' => v = I64 (oneW b) ∧ w = w') := by
  refine callsR_of Tryd.func34 rfl rfl rfl ?_
  refine WC.seq ?_
  refine WC.region ?_
  refine WL.assign (v := I64 (0#64)) rfl rfl ?_
  refine WL.nil ?_
  refine WC.seq ?_
  refine WC.seq ?_
  refine WC.region ?_
  refine WL.move (v := .bool (b)) rfl rfl ?_
  refine WL.nil ?_
  refine WC.cond rfl (fun hc3 => ?_) (fun hc3 => ?_)
  · refine WC.seq ?_
    refine WC.region ?_
    refine WL.assign (v := I64 (1#64)) rfl rfl ?_
    refine WL.nil ?_
    refine WC.ret ?_
    exact ⟨_, Res.one (v := I64 (1#64)) rfl rfl, by subst hc3; rfl, rfl⟩
  · refine WC.skip ?_
    refine WC.seq ?_
    refine WC.region ?_
    refine WL.assign (v := I64 (0#64)) rfl rfl ?_
    refine WL.nil ?_
    refine WC.ret ?_
    exact ⟨_, Res.one (v := I64 (0#64)) rfl rfl, by subst hc3; rfl, rfl⟩

theorem wone_spec (b : Bool) (w : World) : CallsR Tryd.prog 53 #[.bool (b)] w (fun v w' => v = I64 (oneW b) ∧ w = w') := by
  refine callsR_of Tryd.func53 rfl rfl rfl ?_
  refine WC.seq ?_
  refine WC.region ?_
  refine WL.assign (v := I64 (0#64)) rfl rfl ?_
  refine WL.nil ?_
  refine WC.seq ?_
  refine WC.seq ?_
  refine WC.region ?_
  refine WL.move (v := .bool (b)) rfl rfl ?_
  refine WL.nil ?_
  refine WC.cond rfl (fun hc3 => ?_) (fun hc3 => ?_)
  · refine WC.seq ?_
    refine WC.region ?_
    refine WL.assign (v := I64 (1#64)) rfl rfl ?_
    refine WL.nil ?_
    refine WC.ret ?_
    exact ⟨_, Res.one (v := I64 (1#64)) rfl rfl, by subst hc3; rfl, rfl⟩
  · refine WC.skip ?_
    refine WC.seq ?_
    refine WC.region ?_
    refine WL.assign (v := I64 (0#64)) rfl rfl ?_
    refine WL.nil ?_
    refine WC.ret ?_
    exact ⟨_, Res.one (v := I64 (0#64)) rfl rfl, by subst hc3; rfl, rfl⟩

theorem below_spec (x y : BitVec 64) (w : World) : CallsR Tryd.prog 35 #[I64 (x), I64 (y)] w (fun v w' => v = .bool (BitVec.ult x y) ∧ w = w') := by
  refine callsR_of Tryd.func35 rfl rfl rfl ?_
  refine WC.seq ?_
  refine WC.region ?_
  refine WL.assign (v := .bool (false)) rfl rfl ?_
  refine WL.nil ?_
  refine WC.seq ?_
  refine WC.seq ?_
  refine WC.region ?_
  refine WL.assign (v := IN (63)) rfl rfl ?_
  refine WL.nil ?_
  refine WC.block ?_
  refine WC.loop (fun k f w_ => ∃ m, (k = m) ∧ (m ≤ 64) ∧ (x.toNat / 2 ^ m = y.toNat / 2 ^ m) ∧ f 0 = I64 (x) ∧ f 1 = I64 (y) ∧ f 5 = .int .i64 ((m : Int) - 1) ∧ w_ = w) (64) ?_ ?_
  · exact ⟨(64), rfl, Nat.le_refl _, div64 x y, rfl, rfl, rfl, rfl⟩
  rintro k f1 _ ⟨m, hk, hm, he, h0_1, h1_1, h5_1, rfl⟩
  refine WC.seq ?_
  refine WC.seq ?_
  refine WC.region ?_
  refine WL.move (v := .int .i64 ((m : Int) - 1)) h5_1 rfl ?_
  refine WL.bin rfl rfl rfl (BinR.geq) ?_
  refine WL.nil ?_
  refine WC.cond rfl (fun hc7 => ?_) (fun hc7 => ?_)
  · obtain ⟨m, rfl⟩ : ∃ q, m = q + 1 := ⟨m - 1, by have := of_decide_eq_true hc7; omega⟩
    refine WC.skip ?_
    refine WC.seq ?_
    refine WC.block ?_
    refine WC.seq ?_
    refine WC.region ?_
    refine WL.move (v := I64 (x)) h0_1 rfl ?_
    refine WL.move (v := IN m) (h5_1.trans (congrArg (Value.int .i64) (by omega))) rfl ?_
    refine WL.call ca33 (rfl) rfl (bit_spec (x) (m) _) ?_
    rintro _ _ ⟨rfl, rfl⟩
    refine WL.move (v := I64 (y)) h1_1 rfl ?_
    refine WL.move (v := IN m) (h5_1.trans (congrArg (Value.int .i64) (by omega))) rfl ?_
    refine WL.call ca33 (rfl) rfl (bit_spec (y) (m) _) ?_
    rintro _ _ ⟨rfl, rfl⟩
    refine WL.bin rfl rfl rfl (BinR.neqU64) ?_
    refine WL.nil ?_
    refine WC.cond rfl (fun hc16 => ?_) (fun hc16 => ?_)
    · have hfin : Value.bool (bitU y m == 1#64) = .bool (BitVec.ult x y) := by rw [bit_one, (below_step x y m he).2 (by simpa using (bit_ne x y m).symm.trans hc16)]
      refine WC.seq ?_
      refine WC.region ?_
      refine WL.move (v := I64 (y)) h1_1 rfl ?_
      refine WL.move (v := IN m) (h5_1.trans (congrArg (Value.int .i64) (by omega))) rfl ?_
      refine WL.call ca33 (rfl) rfl (bit_spec (y) (m) _) ?_
      rintro _ _ ⟨rfl, rfl⟩
      refine WL.bin rfl (vy := U64 (1#64)) rfl rfl (BinR.eqlU64) ?_
      refine WL.assign (v := .bool (((bitU (y) (m)) == 1#64))) rfl rfl ?_
      refine WL.nil ?_
      refine WC.ret ?_
      exact ⟨_, Res.one (v := .bool (((bitU (y) (m)) == 1#64))) rfl rfl, hfin, rfl⟩
    · refine WC.skip ?_
      refine WC.region ?_
      refine WL.move (v := .int .i64 (((m + 1) : Int) - 1)) h5_1 rfl ?_
      refine WL.bin rfl rfl rfl (BinR.subI (by omega)) ?_
      refine WL.assign (v := .int .i64 ((((m + 1) : Int) - 1 : Int) - (1 : Int))) rfl rfl ?_
      refine WL.nil ?_
      have he2 := (below_step x y m he).1 (by simpa using (bit_ne x y m).symm.trans hc16)
      exact ⟨m, by omega, (m), rfl, by omega, he2, h0_1, h1_1, congrArg (Value.int .i64) (by omega), rfl⟩
  · obtain rfl : m = 0 := by have := of_decide_eq_false hc7; omega
    have hfin : Value.bool false = .bool (BitVec.ult x y) := by rw [below_end x y he]
    refine WC.exit ?_
    refine WC.seq ?_
    refine WC.region ?_
    refine WL.assign (v := .bool (false)) rfl rfl ?_
    refine WL.nil ?_
    refine WC.ret ?_
    exact ⟨_, Res.one (v := .bool (false)) rfl rfl, hfin, rfl⟩

theorem divide_spec (x y : BitVec 64) (w : World) (hb : y ≠ 0#64) : CallsR Tryd.prog 56 #[I64 (x), I64 (y)] w (fun v w' => v = .tuple #[I64 (x / y), I64 (x % y)] ∧ w = w') := by
  refine callsR_of Tryd.func56 rfl rfl rfl ?_
  refine WC.seq ?_
  refine WC.region ?_
  refine WL.assign (v := I64 (0#64)) rfl rfl ?_
  refine WL.assign (v := I64 (0#64)) rfl rfl ?_
  refine WL.nil ?_
  refine WC.seq ?_
  refine WC.region ?_
  refine WL.assign (v := U64 (0#64)) rfl rfl ?_
  refine WL.nil ?_
  refine WC.seq ?_
  refine WC.region ?_
  refine WL.assign (v := I64 (0#64)) rfl rfl ?_
  refine WL.nil ?_
  refine WC.seq ?_
  refine WC.seq ?_
  refine WC.region ?_
  refine WL.assign (v := IN (63)) rfl rfl ?_
  refine WL.nil ?_
  refine WC.block ?_
  refine WC.loop (fun k f w_ => ∃ m q r, (k = m) ∧ (m ≤ 64) ∧ (DivAt x y q r m) ∧ f 0 = I64 (x) ∧ f 1 = I64 (y) ∧ f 4 = I64 (0#64) ∧ f 5 = I64 (0#64) ∧ f 6 = U64 (q) ∧ f 7 = I64 (r) ∧ f 8 = .int .i64 ((m : Int) - 1) ∧ w_ = w) (64) ?_ ?_
  · exact ⟨(64), (0#64), (0#64), rfl, Nat.le_refl _, div_start x y hb, rfl, rfl, rfl, rfl, rfl, rfl, rfl, rfl⟩
  rintro k f1 _ ⟨m, q, r, hk, hm, hd, h0_1, h1_1, h4_1, h5_1, h6_1, h7_1, h8_1, rfl⟩
  refine WC.seq ?_
  refine WC.seq ?_
  refine WC.region ?_
  refine WL.move (v := .int .i64 ((m : Int) - 1)) h8_1 rfl ?_
  refine WL.bin rfl rfl rfl (BinR.geq) ?_
  refine WL.nil ?_
  refine WC.cond rfl (fun hc11 => ?_) (fun hc11 => ?_)
  · obtain ⟨m, rfl⟩ : ∃ q, m = q + 1 := ⟨m - 1, by have := of_decide_eq_true hc11; omega⟩
    have hst := div_step x y q r m (by omega) hd
    refine WC.skip ?_
    refine WC.seq ?_
    refine WC.block ?_
    refine WC.seq ?_
    refine WC.region ?_
    refine WL.move (v := I64 (r)) h7_1 rfl ?_
    refine WL.call ca33 (rfl) rfl (bit_spec (r) (63) _) ?_
    rintro _ _ ⟨rfl, rfl⟩
    refine WL.assign (v := U64 ((bitU (r) (63)))) rfl rfl ?_
    refine WL.nil ?_
    refine WC.seq ?_
    refine WC.region ?_
    refine WL.move (v := I64 (r)) h7_1 rfl ?_
    refine WL.conv rfl rfl (ConvR.i64u64 Tryd.underlying2 Tryd.underlying43) ?_
    refine WL.bin rfl (vy := .int .u64 ((1 : Nat) : Int)) rfl rfl BinR.shlU64 ?_
    refine WL.move (v := I64 (x)) h0_1 rfl ?_
    refine WL.move (v := IN m) (h8_1.trans (congrArg (Value.int .i64) (by omega))) rfl ?_
    refine WL.call ca33 (rfl) rfl (bit_spec (x) (m) _) ?_
    rintro _ _ ⟨rfl, rfl⟩
    refine WL.bin rfl rfl rfl (BinR.orU64) ?_
    refine WL.conv rfl rfl (ConvR.u64i64 Tryd.underlying43 Tryd.underlying2) ?_
    refine WL.assign (v := I64 (((r <<< (1)) ||| (bitU (x) (m))))) rfl rfl ?_
    refine WL.nil ?_
    refine WC.seq ?_
    refine WC.region ?_
    refine WL.move (v := U64 ((bitU (r) (63)))) rfl rfl ?_
    refine WL.bin rfl (vy := U64 (1#64)) rfl rfl (BinR.eqlU64) ?_
    refine WL.move (v := .bool (((bitU (r) (63)) == 1#64))) rfl rfl ?_
    rcases Bool.eq_false_or_eq_true (((bitU (r) (63)) == 1#64)) with hg26 | hg26
    · have hnew := hst.1 (by rw [hg26]; rfl)
      refine WL.guardF (b' := true) (yf_bool rfl rfl hg26) rfl rfl ?_
      refine WL.guardF (b' := true) (yf_bool rfl rfl hg26) rfl rfl ?_
      refine WL.guardF (b' := true) (yf_bool rfl rfl hg26) rfl rfl ?_
      refine WL.guardF (b' := true) (yf_bool rfl rfl hg26) rfl rfl ?_
      refine WL.pick (b := true) (congrArg Value.bool hg26) rfl rfl ?_
      refine WL.nil ?_
      refine WC.condT rfl ?_
      refine WC.seq ?_
      refine WC.region ?_
      refine WL.move (v := I64 (((r <<< (1)) ||| (bitU (x) (m))))) rfl rfl ?_
      refine WL.move (v := I64 (y)) h1_1 rfl ?_
      refine WL.call ca29 (rfl) rfl (neg_spec (y) _) ?_
      rintro _ _ ⟨rfl, rfl⟩
      refine WL.call ca28 (rfl) rfl (add_spec (((r <<< (1)) ||| (bitU (x) (m)))) ((-(y))) _) ?_
      rintro _ _ ⟨rfl, rfl⟩
      refine WL.assign (v := I64 ((((r <<< (1)) ||| (bitU (x) (m))) + (-(y))))) rfl rfl ?_
      refine WL.nil ?_
      refine WC.region ?_
      refine WL.move (v := U64 (q)) h6_1 rfl ?_
      refine WL.move (v := IN m) (h8_1.trans (congrArg (Value.int .i64) (by omega))) rfl ?_
      refine WL.bin (vx := U64 (1#64)) rfl rfl rfl (BinR.shlU64) ?_
      refine WL.bin rfl rfl rfl (BinR.orU64) ?_
      refine WL.assign (v := U64 ((q ||| (1#64 <<< (m))))) rfl rfl ?_
      refine WL.nil ?_
      refine WC.region ?_
      refine WL.move (v := .int .i64 (((m + 1) : Int) - 1)) h8_1 rfl ?_
      refine WL.bin rfl rfl rfl (BinR.subI (by omega)) ?_
      refine WL.assign (v := .int .i64 ((((m + 1) : Int) - 1 : Int) - (1 : Int))) rfl rfl ?_
      refine WL.nil ?_
      exact ⟨m, by omega, (m), (_), (_), rfl, by omega, hnew, h0_1, h1_1, h4_1, h5_1, rfl, rfl, congrArg (Value.int .i64) (by omega), rfl⟩
    · refine WL.guardT (yf_bool rfl rfl hg26) ?_
      refine WL.move (v := I64 (((r <<< (1)) ||| (bitU (x) (m))))) rfl rfl ?_
      refine WL.guardT (yf_bool rfl rfl hg26) ?_
      refine WL.move (v := I64 (y)) h1_1 rfl ?_
      refine WL.guardT (yf_bool rfl rfl hg26) ?_
      refine WL.call ca35 (rfl) rfl (below_spec (((r <<< (1)) ||| (bitU (x) (m)))) (y) _) ?_
      rintro _ _ ⟨rfl, rfl⟩
      refine WL.guardT (yf_bool rfl rfl hg26) ?_
      refine WL.un rfl rfl UnR.not ?_
      refine WL.pick (b := false) (congrArg Value.bool hg26) rfl rfl ?_
      refine WL.nil ?_
      refine WC.cond rfl (fun hc31 => ?_) (fun hc31 => ?_)
      · have hnew := hst.1 (by rw [hg26]; exact hc31)
        refine WC.seq ?_
        refine WC.region ?_
        refine WL.move (v := I64 (((r <<< (1)) ||| (bitU (x) (m))))) rfl rfl ?_
        refine WL.move (v := I64 (y)) h1_1 rfl ?_
        refine WL.call ca29 (rfl) rfl (neg_spec (y) _) ?_
        rintro _ _ ⟨rfl, rfl⟩
        refine WL.call ca28 (rfl) rfl (add_spec (((r <<< (1)) ||| (bitU (x) (m)))) ((-(y))) _) ?_
        rintro _ _ ⟨rfl, rfl⟩
        refine WL.assign (v := I64 ((((r <<< (1)) ||| (bitU (x) (m))) + (-(y))))) rfl rfl ?_
        refine WL.nil ?_
        refine WC.region ?_
        refine WL.move (v := U64 (q)) h6_1 rfl ?_
        refine WL.move (v := IN m) (h8_1.trans (congrArg (Value.int .i64) (by omega))) rfl ?_
        refine WL.bin (vx := U64 (1#64)) rfl rfl rfl (BinR.shlU64) ?_
        refine WL.bin rfl rfl rfl (BinR.orU64) ?_
        refine WL.assign (v := U64 ((q ||| (1#64 <<< (m))))) rfl rfl ?_
        refine WL.nil ?_
        refine WC.region ?_
        refine WL.move (v := .int .i64 (((m + 1) : Int) - 1)) h8_1 rfl ?_
        refine WL.bin rfl rfl rfl (BinR.subI (by omega)) ?_
        refine WL.assign (v := .int .i64 ((((m + 1) : Int) - 1 : Int) - (1 : Int))) rfl rfl ?_
        refine WL.nil ?_
        exact ⟨m, by omega, (m), (_), (_), rfl, by omega, hnew, h0_1, h1_1, h4_1, h5_1, rfl, rfl, congrArg (Value.int .i64) (by omega), rfl⟩
      · have hnew := hst.2 (by rw [hg26]; exact hc31)
        refine WC.skip ?_
        refine WC.region ?_
        refine WL.move (v := .int .i64 (((m + 1) : Int) - 1)) h8_1 rfl ?_
        refine WL.bin rfl rfl rfl (BinR.subI (by omega)) ?_
        refine WL.assign (v := .int .i64 ((((m + 1) : Int) - 1 : Int) - (1 : Int))) rfl rfl ?_
        refine WL.nil ?_
        exact ⟨m, by omega, (m), (_), (_), rfl, by omega, hnew, h0_1, h1_1, h4_1, h5_1, h6_1, rfl, congrArg (Value.int .i64) (by omega), rfl⟩
  · obtain rfl : m = 0 := by have := of_decide_eq_false hc11; omega
    refine WC.exit ?_
    refine WC.seq ?_
    refine WC.region ?_
    refine WL.move (v := U64 (q)) h6_1 rfl ?_
    refine WL.conv rfl rfl (ConvR.u64i64 Tryd.underlying43 Tryd.underlying2) ?_
    refine WL.move (v := I64 (r)) h7_1 rfl ?_
    refine WL.assign (v := I64 (q)) rfl rfl ?_
    refine WL.assign (v := I64 (r)) rfl rfl ?_
    refine WL.nil ?_
    refine WC.ret ?_
    exact ⟨_, Res.two (v := I64 (q)) (v' := I64 (r)) rfl rfl rfl, by rw [(div_end x y q r hd).1, (div_end x y q r hd).2], rfl⟩
end Go.Proofs.W
