import Derived.Test.YtgjhmdnbpnpkaaaDoorUxMem
import Derived.Test.YtgjhmdnbpnpkaaaDoorWordHigh
import Derived.Test.YtgjhmdnbpnpkaaaDoorRows
import Derived.Test.YtgjhmdnbpnpkaaaDoorWtX1
set_option linter.unusedSimpArgs false
set_option linter.unusedVariables false
namespace Go.Proofs.W
open Go Go.Ux Go.Ux.Word Go.Proofs
theorem ca36 : callable Tryd.prog 36 = true := by kernel_rfl
theorem ca37 : callable Tryd.prog 37 = true := by kernel_rfl
theorem ca38 : callable Tryd.prog 38 = true := by kernel_rfl

theorem power_yes (k : Nat) (w : World) (hk : k < 64) (ht : Tab w) : CallsR Tryd.prog 17 #[I64 ((1#64 <<< k))] w (fun v w' => v = .tuple #[I64 (powW (1#64 <<< k)).1, .bool (powW (1#64 <<< k)).2] ∧ w = w') := by
  refine callsR_of Tryd.func17 rfl rfl rfl ?_
  refine WC.seq ?_
  refine WC.region ?_
  refine WL.assign (v := I64 (0#64)) rfl rfl ?_
  refine WL.assign (v := .bool (false)) rfl rfl ?_
  refine WL.nil ?_
  refine WC.seq ?_
  refine WC.seq ?_
  refine WC.region ?_
  refine WL.move (v := I64 ((1#64 <<< k))) rfl rfl ?_
  refine WL.conv rfl rfl (ConvR.i64u64 Tryd.underlying2 Tryd.underlying43) ?_
  refine WL.call ca36 (rfl) rfl (ones_spec ((1#64 <<< k)) _) ?_
  rintro _ _ ⟨rfl, rfl⟩
  refine WL.bin rfl (vy := I64 (1#64)) rfl rfl (BinR.neq64) ?_
  refine WL.nil ?_
  refine WC.condF (congrArg Value.bool (by rw [(pop_one _).2 ⟨k, hk, rfl⟩]; rfl)) ?_
  refine WC.skip ?_
  refine WC.seq ?_
  refine WC.region ?_
  refine WL.move (v := I64 ((1#64 <<< k))) rfl rfl ?_
  refine WL.conv rfl rfl (ConvR.i64u64 Tryd.underlying2 Tryd.underlying43) ?_
  refine WL.call ca37 (rfl) rfl (tz_spec k _ hk ht) ?_
  rintro _ _ ⟨rfl, rfl⟩
  refine WL.assign (v := IN (k)) rfl rfl ?_
  refine WL.assign (v := .bool (true)) rfl rfl ?_
  refine WL.nil ?_
  refine WC.ret ?_
  exact ⟨_, Res.two (v := IN (k)) (v' := .bool (true)) rfl rfl rfl, by rw [powW_yes k hk]; show _ = Value.tuple #[.int .i64 (BitVec.ofNat 64 k).toInt, .bool true]; rw [ofNat_int k hk], rfl⟩

theorem power_no (x : BitVec 64) (w : World) (hx : ∀ k, k < 64 → x ≠ 1#64 <<< k) : CallsR Tryd.prog 17 #[I64 (x)] w (fun v w' => v = .tuple #[I64 (powW x).1, .bool (powW x).2] ∧ w = w') := by
  refine callsR_of Tryd.func17 rfl rfl rfl ?_
  refine WC.seq ?_
  refine WC.region ?_
  refine WL.assign (v := I64 (0#64)) rfl rfl ?_
  refine WL.assign (v := .bool (false)) rfl rfl ?_
  refine WL.nil ?_
  refine WC.seq ?_
  refine WC.seq ?_
  refine WC.region ?_
  refine WL.move (v := I64 (x)) rfl rfl ?_
  refine WL.conv rfl rfl (ConvR.i64u64 Tryd.underlying2 Tryd.underlying43) ?_
  refine WL.call ca36 (rfl) rfl (ones_spec (x) _) ?_
  rintro _ _ ⟨rfl, rfl⟩
  refine WL.bin rfl (vy := I64 (1#64)) rfl rfl (BinR.neq64) ?_
  refine WL.nil ?_
  refine WC.condT (congrArg Value.bool (bne_iff_ne.2 fun e => by obtain ⟨k, hk, e⟩ := (pop_one x).1 e; exact hx k hk e)) ?_
  refine WC.seq ?_
  refine WC.region ?_
  refine WL.assign (v := I64 (0#64)) rfl rfl ?_
  refine WL.assign (v := .bool (false)) rfl rfl ?_
  refine WL.nil ?_
  refine WC.ret ?_
  exact ⟨_, Res.two (v := I64 (0#64)) (v' := .bool (false)) rfl rfl rfl, by rw [powW_no x hx], rfl⟩

theorem power_spec (x : BitVec 64) (w : World) (ht : Tab w) : CallsR Tryd.prog 17 #[I64 x] w (fun v w' => v = .tuple #[I64 (powW x).1, .bool (powW x).2] ∧ w = w') := by
  by_cases h : ∃ k, k < 64 ∧ x = 1#64 <<< k
  · obtain ⟨k, hk, rfl⟩ := h
    exact power_yes k w hk ht
  · exact power_no x w fun k hk e => h ⟨k, hk, e⟩

theorem rpower_spec (x : BitVec 64) (w : World) : CallsR Tryd.prog 18 #[I64 (x)] w (fun v w' => v = .tuple #[I64 (powW x).1, .bool (powW x).2] ∧ w = w') := by
  refine callsR_of Tryd.func18 rfl rfl rfl ?_
  refine WC.seq ?_
  refine WC.region ?_
  refine WL.assign (v := I64 (0#64)) rfl rfl ?_
  refine WL.assign (v := .bool (false)) rfl rfl ?_
  refine WL.nil ?_
  refine WC.seq ?_
  refine WC.seq ?_
  refine WC.region ?_
  refine WL.assign (v := IN (0)) rfl rfl ?_
  refine WL.nil ?_
  refine WC.block ?_
  refine WC.loop (fun k f w_ => ∃ j, (k + j = 64) ∧ (∀ i, i < j → x ≠ 1#64 <<< i) ∧ f 0 = I64 (x) ∧ f 4 = IN (j) ∧ w_ = w) (64) ?_ ?_
  · exact ⟨(0), by omega, fun i hi => absurd hi (by omega), rfl, rfl, rfl⟩
  rintro k f1 _ ⟨j, hk, hn, h0_1, h4_1, rfl⟩
  refine WC.seq ?_
  refine WC.seq ?_
  refine WC.region ?_
  refine WL.move (v := IN (j)) h4_1 rfl ?_
  refine WL.bin rfl rfl rfl (BinR.lss) ?_
  refine WL.nil ?_
  refine WC.cond rfl (fun hc6 => ?_) (fun hc6 => ?_)
  · have hj : j < 64 := by have := of_decide_eq_true hc6; omega
    refine WC.skip ?_
    refine WC.seq ?_
    refine WC.block ?_
    refine WC.seq ?_
    refine WC.region ?_
    refine WL.move (v := I64 (x)) h0_1 rfl ?_
    refine WL.conv rfl rfl (ConvR.i64u64 Tryd.underlying2 Tryd.underlying43) ?_
    refine WL.move (v := IN (j)) h4_1 rfl ?_
    refine WL.bin (vx := U64 (1#64)) rfl rfl rfl (BinR.shlU64) ?_
    refine WL.bin rfl rfl rfl (BinR.eqlU64) ?_
    refine WL.nil ?_
    refine WC.cond rfl (fun hc13 => ?_) (fun hc13 => ?_)
    · have he : x = 1#64 <<< j := eq_of_beq hc13
      have hfin : Value.tuple #[IN j, .bool true] = .tuple #[I64 (powW x).1, .bool (powW x).2] := by rw [he, powW_yes j hj]; show _ = Value.tuple #[.int .i64 (BitVec.ofNat 64 j).toInt, .bool true]; rw [ofNat_int j hj]
      refine WC.seq ?_
      refine WC.region ?_
      refine WL.move (v := IN (j)) h4_1 rfl ?_
      refine WL.assign (v := IN (j)) rfl rfl ?_
      refine WL.assign (v := .bool (true)) rfl rfl ?_
      refine WL.nil ?_
      refine WC.ret ?_
      exact ⟨_, Res.two (v := IN (j)) (v' := .bool (true)) rfl rfl rfl, hfin, rfl⟩
    · have hne : x ≠ 1#64 <<< j := by simpa using hc13
      refine WC.skip ?_
      refine WC.region ?_
      refine WL.move (v := IN (j)) h4_1 rfl ?_
      refine WL.bin rfl rfl rfl (BinR.succN (by omega)) ?_
      refine WL.assign (v := IN (j + 1)) rfl rfl ?_
      refine WL.nil ?_
      exact ⟨k - 1, by omega, (j + 1), by omega, fun i hi => by by_cases e : i = j; (subst e; exact hne); exact hn i (by omega), h0_1, rfl, rfl⟩
  · have hj : j = 64 := by have := of_decide_eq_false hc6; omega
    have hfin : Value.tuple #[I64 0#64, .bool false] = .tuple #[I64 (powW x).1, .bool (powW x).2] := by rw [powW_no x (fun k hk => hn k (by omega))]
    refine WC.exit ?_
    refine WC.seq ?_
    refine WC.region ?_
    refine WL.assign (v := I64 (0#64)) rfl rfl ?_
    refine WL.assign (v := .bool (false)) rfl rfl ?_
    refine WL.nil ?_
    refine WC.ret ?_
    exact ⟨_, Res.two (v := I64 (0#64)) (v' := .bool (false)) rfl rfl rfl, hfin, rfl⟩

theorem high_spec (x y : BitVec 64) (a b : Bool) (w : World) : CallsR Tryd.prog 23 #[I64 (x), I64 (y), .bool (a), .bool (b)] w (fun v w' => v = I64 (highW x y a b) ∧ w = w') := by
  refine callsR_of Tryd.func23 rfl rfl rfl ?_
  refine WC.seq ?_
  refine WC.region ?_
  refine WL.assign (v := I64 (0#64)) rfl rfl ?_
  refine WL.nil ?_
  refine WC.seq ?_
  refine WC.region ?_
  refine WL.move (v := I64 (x)) rfl rfl ?_
  refine WL.conv rfl rfl (ConvR.i64u64 Tryd.underlying2 Tryd.underlying43) ?_
  refine WL.move (v := I64 (y)) rfl rfl ?_
  refine WL.conv rfl rfl (ConvR.i64u64 Tryd.underlying2 Tryd.underlying43) ?_
  refine WL.call ca38 (rfl) rfl (mul64_spec (x) (y) _) ?_
  rintro _ _ ⟨rfl, rfl⟩
  refine WL.move (v := .tuple #[U64 ((highU (x) (y))), U64 ((x * y))]) rfl rfl ?_
  refine WL.extract rfl rfl rfl ?_
  refine WL.extract rfl rfl rfl ?_
  refine WL.assign (v := U64 ((highU (x) (y)))) rfl rfl ?_
  refine WL.assign (v := U64 ((x * y))) rfl rfl ?_
  refine WL.nil ?_
  refine WC.seq ?_
  refine WC.seq ?_
  refine WC.region ?_
  refine WL.move (v := .bool (a)) rfl rfl ?_
  refine WL.move (v := .bool (a)) rfl rfl ?_
  rcases Bool.eq_false_or_eq_true (a) with hg20 | hg20
  · refine WL.guardT (yf_bool rfl rfl hg20) ?_
    refine WL.move (v := I64 (x)) rfl rfl ?_
    refine WL.guardT (yf_bool rfl rfl hg20) ?_
    refine WL.bin rfl (vy := I64 (0#64)) rfl rfl (BinR.lss64) ?_
    refine WL.pick (b := true) (congrArg Value.bool hg20) rfl rfl ?_
    refine WL.nil ?_
    refine WC.cond rfl (fun hc23 => ?_) (fun hc23 => ?_)
    · refine WC.region ?_
      refine WL.move (v := U64 ((highU (x) (y)))) rfl rfl ?_
      refine WL.move (v := I64 (y)) rfl rfl ?_
      refine WL.conv rfl rfl (ConvR.i64u64 Tryd.underlying2 Tryd.underlying43) ?_
      refine WL.bin rfl rfl rfl (BinR.subU64) ?_
      refine WL.assign (v := U64 (((highU (x) (y)) - y))) rfl rfl ?_
      refine WL.nil ?_
      refine WC.seq ?_
      refine WC.seq ?_
      refine WC.region ?_
      refine WL.move (v := .bool (b)) rfl rfl ?_
      refine WL.move (v := .bool (b)) rfl rfl ?_
      rcases Bool.eq_false_or_eq_true (b) with hg29 | hg29
      · refine WL.guardT (yf_bool rfl rfl hg29) ?_
        refine WL.move (v := I64 (y)) rfl rfl ?_
        refine WL.guardT (yf_bool rfl rfl hg29) ?_
        refine WL.bin rfl (vy := I64 (0#64)) rfl rfl (BinR.lss64) ?_
        refine WL.pick (b := true) (congrArg Value.bool hg29) rfl rfl ?_
        refine WL.nil ?_
        refine WC.cond rfl (fun hc32 => ?_) (fun hc32 => ?_)
        · refine WC.region ?_
          refine WL.move (v := U64 (((highU (x) (y)) - y))) rfl rfl ?_
          refine WL.move (v := I64 (x)) rfl rfl ?_
          refine WL.conv rfl rfl (ConvR.i64u64 Tryd.underlying2 Tryd.underlying43) ?_
          refine WL.bin rfl rfl rfl (BinR.subU64) ?_
          refine WL.assign (v := U64 ((((highU (x) (y)) - y) - x))) rfl rfl ?_
          refine WL.nil ?_
          refine WC.seq ?_
          refine WC.region ?_
          refine WL.move (v := U64 ((((highU (x) (y)) - y) - x))) rfl rfl ?_
          refine WL.conv rfl rfl (ConvR.u64i64 Tryd.underlying43 Tryd.underlying2) ?_
          refine WL.assign (v := I64 ((((highU (x) (y)) - y) - x))) rfl rfl ?_
          refine WL.nil ?_
          refine WC.ret ?_
          have hfin : (I64 ((((highU (x) (y)) - y) - x))) = I64 (highW x y a b) := congrArg I64 (by unfold highW; simp [*, BitVec.sub_eq_add_neg])
          exact ⟨_, Res.one (v := I64 ((((highU (x) (y)) - y) - x))) rfl rfl, hfin, rfl⟩
        · refine WC.skip ?_
          refine WC.seq ?_
          refine WC.region ?_
          refine WL.move (v := U64 (((highU (x) (y)) - y))) rfl rfl ?_
          refine WL.conv rfl rfl (ConvR.u64i64 Tryd.underlying43 Tryd.underlying2) ?_
          refine WL.assign (v := I64 (((highU (x) (y)) - y))) rfl rfl ?_
          refine WL.nil ?_
          refine WC.ret ?_
          have hfin : (I64 (((highU (x) (y)) - y))) = I64 (highW x y a b) := congrArg I64 (by unfold highW; simp [*, BitVec.sub_eq_add_neg])
          exact ⟨_, Res.one (v := I64 (((highU (x) (y)) - y))) rfl rfl, hfin, rfl⟩
      · refine WL.guardF (b' := false) (yf_bool rfl rfl hg29) rfl rfl ?_
        refine WL.guardF (b' := false) (yf_bool rfl rfl hg29) rfl rfl ?_
        refine WL.pick (b := false) (congrArg Value.bool hg29) rfl rfl ?_
        refine WL.nil ?_
        refine WC.condF rfl ?_
        refine WC.skip ?_
        refine WC.seq ?_
        refine WC.region ?_
        refine WL.move (v := U64 (((highU (x) (y)) - y))) rfl rfl ?_
        refine WL.conv rfl rfl (ConvR.u64i64 Tryd.underlying43 Tryd.underlying2) ?_
        refine WL.assign (v := I64 (((highU (x) (y)) - y))) rfl rfl ?_
        refine WL.nil ?_
        refine WC.ret ?_
        have hfin : (I64 (((highU (x) (y)) - y))) = I64 (highW x y a b) := congrArg I64 (by unfold highW; simp [*, BitVec.sub_eq_add_neg])
        exact ⟨_, Res.one (v := I64 (((highU (x) (y)) - y))) rfl rfl, hfin, rfl⟩
    · refine WC.skip ?_
      refine WC.seq ?_
      refine WC.seq ?_
      refine WC.region ?_
      refine WL.move (v := .bool (b)) rfl rfl ?_
      refine WL.move (v := .bool (b)) rfl rfl ?_
      rcases Bool.eq_false_or_eq_true (b) with hg29 | hg29
      · refine WL.guardT (yf_bool rfl rfl hg29) ?_
        refine WL.move (v := I64 (y)) rfl rfl ?_
        refine WL.guardT (yf_bool rfl rfl hg29) ?_
        refine WL.bin rfl (vy := I64 (0#64)) rfl rfl (BinR.lss64) ?_
        refine WL.pick (b := true) (congrArg Value.bool hg29) rfl rfl ?_
        refine WL.nil ?_
        refine WC.cond rfl (fun hc32 => ?_) (fun hc32 => ?_)
        · refine WC.region ?_
          refine WL.move (v := U64 ((highU (x) (y)))) rfl rfl ?_
          refine WL.move (v := I64 (x)) rfl rfl ?_
          refine WL.conv rfl rfl (ConvR.i64u64 Tryd.underlying2 Tryd.underlying43) ?_
          refine WL.bin rfl rfl rfl (BinR.subU64) ?_
          refine WL.assign (v := U64 (((highU (x) (y)) - x))) rfl rfl ?_
          refine WL.nil ?_
          refine WC.seq ?_
          refine WC.region ?_
          refine WL.move (v := U64 (((highU (x) (y)) - x))) rfl rfl ?_
          refine WL.conv rfl rfl (ConvR.u64i64 Tryd.underlying43 Tryd.underlying2) ?_
          refine WL.assign (v := I64 (((highU (x) (y)) - x))) rfl rfl ?_
          refine WL.nil ?_
          refine WC.ret ?_
          have hfin : (I64 (((highU (x) (y)) - x))) = I64 (highW x y a b) := congrArg I64 (by unfold highW; simp [*, BitVec.sub_eq_add_neg])
          exact ⟨_, Res.one (v := I64 (((highU (x) (y)) - x))) rfl rfl, hfin, rfl⟩
        · refine WC.skip ?_
          refine WC.seq ?_
          refine WC.region ?_
          refine WL.move (v := U64 ((highU (x) (y)))) rfl rfl ?_
          refine WL.conv rfl rfl (ConvR.u64i64 Tryd.underlying43 Tryd.underlying2) ?_
          refine WL.assign (v := I64 ((highU (x) (y)))) rfl rfl ?_
          refine WL.nil ?_
          refine WC.ret ?_
          have hfin : (I64 ((highU (x) (y)))) = I64 (highW x y a b) := congrArg I64 (by unfold highW; simp [*, BitVec.sub_eq_add_neg])
          exact ⟨_, Res.one (v := I64 ((highU (x) (y)))) rfl rfl, hfin, rfl⟩
      · refine WL.guardF (b' := false) (yf_bool rfl rfl hg29) rfl rfl ?_
        refine WL.guardF (b' := false) (yf_bool rfl rfl hg29) rfl rfl ?_
        refine WL.pick (b := false) (congrArg Value.bool hg29) rfl rfl ?_
        refine WL.nil ?_
        refine WC.condF rfl ?_
        refine WC.skip ?_
        refine WC.seq ?_
        refine WC.region ?_
        refine WL.move (v := U64 ((highU (x) (y)))) rfl rfl ?_
        refine WL.conv rfl rfl (ConvR.u64i64 Tryd.underlying43 Tryd.underlying2) ?_
        refine WL.assign (v := I64 ((highU (x) (y)))) rfl rfl ?_
        refine WL.nil ?_
        refine WC.ret ?_
        have hfin : (I64 ((highU (x) (y)))) = I64 (highW x y a b) := congrArg I64 (by unfold highW; simp [*, BitVec.sub_eq_add_neg])
        exact ⟨_, Res.one (v := I64 ((highU (x) (y)))) rfl rfl, hfin, rfl⟩
  · refine WL.guardF (b' := false) (yf_bool rfl rfl hg20) rfl rfl ?_
    refine WL.guardF (b' := false) (yf_bool rfl rfl hg20) rfl rfl ?_
    refine WL.pick (b := false) (congrArg Value.bool hg20) rfl rfl ?_
    refine WL.nil ?_
    refine WC.condF rfl ?_
    refine WC.skip ?_
    refine WC.seq ?_
    refine WC.seq ?_
    refine WC.region ?_
    refine WL.move (v := .bool (b)) rfl rfl ?_
    refine WL.move (v := .bool (b)) rfl rfl ?_
    rcases Bool.eq_false_or_eq_true (b) with hg29 | hg29
    · refine WL.guardT (yf_bool rfl rfl hg29) ?_
      refine WL.move (v := I64 (y)) rfl rfl ?_
      refine WL.guardT (yf_bool rfl rfl hg29) ?_
      refine WL.bin rfl (vy := I64 (0#64)) rfl rfl (BinR.lss64) ?_
      refine WL.pick (b := true) (congrArg Value.bool hg29) rfl rfl ?_
      refine WL.nil ?_
      refine WC.cond rfl (fun hc32 => ?_) (fun hc32 => ?_)
      · refine WC.region ?_
        refine WL.move (v := U64 ((highU (x) (y)))) rfl rfl ?_
        refine WL.move (v := I64 (x)) rfl rfl ?_
        refine WL.conv rfl rfl (ConvR.i64u64 Tryd.underlying2 Tryd.underlying43) ?_
        refine WL.bin rfl rfl rfl (BinR.subU64) ?_
        refine WL.assign (v := U64 (((highU (x) (y)) - x))) rfl rfl ?_
        refine WL.nil ?_
        refine WC.seq ?_
        refine WC.region ?_
        refine WL.move (v := U64 (((highU (x) (y)) - x))) rfl rfl ?_
        refine WL.conv rfl rfl (ConvR.u64i64 Tryd.underlying43 Tryd.underlying2) ?_
        refine WL.assign (v := I64 (((highU (x) (y)) - x))) rfl rfl ?_
        refine WL.nil ?_
        refine WC.ret ?_
        have hfin : (I64 (((highU (x) (y)) - x))) = I64 (highW x y a b) := congrArg I64 (by unfold highW; simp [*, BitVec.sub_eq_add_neg])
        exact ⟨_, Res.one (v := I64 (((highU (x) (y)) - x))) rfl rfl, hfin, rfl⟩
      · refine WC.skip ?_
        refine WC.seq ?_
        refine WC.region ?_
        refine WL.move (v := U64 ((highU (x) (y)))) rfl rfl ?_
        refine WL.conv rfl rfl (ConvR.u64i64 Tryd.underlying43 Tryd.underlying2) ?_
        refine WL.assign (v := I64 ((highU (x) (y)))) rfl rfl ?_
        refine WL.nil ?_
        refine WC.ret ?_
        have hfin : (I64 ((highU (x) (y)))) = I64 (highW x y a b) := congrArg I64 (by unfold highW; simp [*, BitVec.sub_eq_add_neg])
        exact ⟨_, Res.one (v := I64 ((highU (x) (y)))) rfl rfl, hfin, rfl⟩
    · refine WL.guardF (b' := false) (yf_bool rfl rfl hg29) rfl rfl ?_
      refine WL.guardF (b' := false) (yf_bool rfl rfl hg29) rfl rfl ?_
      refine WL.pick (b := false) (congrArg Value.bool hg29) rfl rfl ?_
      refine WL.nil ?_
      refine WC.condF rfl ?_
      refine WC.skip ?_
      refine WC.seq ?_
      refine WC.region ?_
      refine WL.move (v := U64 ((highU (x) (y)))) rfl rfl ?_
      refine WL.conv rfl rfl (ConvR.u64i64 Tryd.underlying43 Tryd.underlying2) ?_
      refine WL.assign (v := I64 ((highU (x) (y)))) rfl rfl ?_
      refine WL.nil ?_
      refine WC.ret ?_
      have hfin : (I64 ((highU (x) (y)))) = I64 (highW x y a b) := congrArg I64 (by unfold highW; simp [*, BitVec.sub_eq_add_neg])
      exact ⟨_, Res.one (v := I64 ((highU (x) (y)))) rfl rfl, hfin, rfl⟩

theorem rhigh_spec (x y : BitVec 64) (a b : Bool) (w : World) : CallsR Tryd.prog 24 #[I64 (x), I64 (y), .bool (a), .bool (b)] w (fun v w' => v = I64 (highW x y a b) ∧ w = w') := by
  refine callsR_of Tryd.func24 rfl rfl rfl ?_
  refine WC.seq ?_
  refine WC.region ?_
  refine WL.assign (v := I64 (0#64)) rfl rfl ?_
  refine WL.nil ?_
  refine WC.seq ?_
  refine WC.region ?_
  refine WL.assign (v := I64 (0#64)) rfl rfl ?_
  refine WL.assign (v := I64 (0#64)) rfl rfl ?_
  refine WL.nil ?_
  refine WC.seq ?_
  refine WC.seq ?_
  refine WC.region ?_
  refine WL.assign (v := IN (0)) rfl rfl ?_
  refine WL.nil ?_
  refine WC.block ?_
  refine WC.loop (fun k f w_ => ∃ j hi lo, (k + j = 64) ∧ (HighAt x y hi lo j) ∧ f 0 = I64 (x) ∧ f 1 = I64 (y) ∧ f 2 = .bool (a) ∧ f 3 = .bool (b) ∧ f 8 = I64 (0#64) ∧ f 9 = I64 (hi) ∧ f 10 = I64 (lo) ∧ f 11 = IN (j) ∧ w_ = w) (64) ?_ ?_
  · exact ⟨(0), (0#64), (0#64), by omega, high_start x y, rfl, rfl, rfl, rfl, rfl, rfl, rfl, rfl, rfl⟩
  rintro k f1 _ ⟨j, hi, lo, hk, ha, h0_1, h1_1, h2_1, h3_1, h8_1, h9_1, h10_1, h11_1, rfl⟩
  refine WC.seq ?_
  refine WC.seq ?_
  refine WC.region ?_
  refine WL.move (v := IN (j)) h11_1 rfl ?_
  refine WL.bin rfl rfl rfl (BinR.lss) ?_
  refine WL.nil ?_
  refine WC.cond rfl (fun hc16 => ?_) (fun hc16 => ?_)
  · have hj : j < 64 := by have := of_decide_eq_true hc16; omega
    refine WC.skip ?_
    refine WC.seq ?_
    refine WC.block ?_
    refine WC.seq ?_
    refine WC.seq ?_
    refine WC.region ?_
    refine WL.move (v := I64 (y)) h1_1 rfl ?_
    refine WL.move (v := IN (j)) h11_1 rfl ?_
    refine WL.call ca33 (rfl) rfl (bit_spec (y) (j) _) ?_
    rintro _ _ ⟨rfl, rfl⟩
    refine WL.bin rfl (vy := U64 (0#64)) rfl rfl (BinR.eqlU64) ?_
    refine WL.nil ?_
    refine WC.cond rfl (fun hc22 => ?_) (fun hc22 => ?_)
    · have hbit : y.getLsbD j = false := by rw [bitU_eq] at hc22; cases h : y.getLsbD j <;> simp_all
      have hnew := high_skip x y hi lo j ha hbit
      refine WC.exit ?_
      refine WC.region ?_
      refine WL.move (v := IN (j)) h11_1 rfl ?_
      refine WL.bin rfl rfl rfl (BinR.succN (by omega)) ?_
      refine WL.assign (v := IN (j + 1)) rfl rfl ?_
      refine WL.nil ?_
      exact ⟨k - 1, by omega, (j + 1), (_), (_), by omega, hnew, h0_1, h1_1, h2_1, h3_1, h8_1, h9_1, h10_1, rfl, rfl⟩
    · have hbit : y.getLsbD j = true := by rw [bitU_eq] at hc22; cases h : y.getLsbD j <;> simp_all
      have hst := high_step x y hi lo j hj ha hbit
      refine WC.skip ?_
      refine WC.seq ?_
      refine WC.region ?_
      refine WL.assign (v := I64 (0#64)) rfl rfl ?_
      refine WL.nil ?_
      refine WC.seq ?_
      refine WC.seq ?_
      refine WC.region ?_
      refine WL.move (v := IN (j)) h11_1 rfl ?_
      refine WL.bin rfl rfl rfl (BinR.gtr) ?_
      refine WL.nil ?_
      refine WC.cond rfl (fun hc24 => ?_) (fun hc24 => ?_)
      · have hup : upW x j = x >>> (64 - j) := if_pos (by have := of_decide_eq_true hc24; omega)
        refine WC.region ?_
        refine WL.move (v := I64 (x)) h0_1 rfl ?_
        refine WL.conv rfl rfl (ConvR.i64u64 Tryd.underlying2 Tryd.underlying43) ?_
        refine WL.move (v := IN (j)) h11_1 rfl ?_
        refine WL.bin rfl rfl rfl (BinR.subI (a := 64) (b := (j : Int)) (by omega)) ?_
        refine WL.bin rfl (vy := .int .i64 ((64 - j : Nat) : Int)) (congrArg (Value.int .i64) (by omega)) rfl (BinR.shrU64) ?_
        refine WL.conv rfl rfl (ConvR.u64i64 Tryd.underlying43 Tryd.underlying2) ?_
        refine WL.assign (v := I64 ((x >>> (64 - j)))) rfl rfl ?_
        refine WL.nil ?_
        refine WC.seq ?_
        refine WC.region ?_
        refine WL.move (v := I64 (x)) h0_1 rfl ?_
        refine WL.conv rfl rfl (ConvR.i64u64 Tryd.underlying2 Tryd.underlying43) ?_
        refine WL.move (v := IN (j)) h11_1 rfl ?_
        refine WL.bin rfl rfl rfl (BinR.shlU64) ?_
        refine WL.conv rfl rfl (ConvR.u64i64 Tryd.underlying43 Tryd.underlying2) ?_
        refine WL.assign (v := I64 ((x <<< (j)))) rfl rfl ?_
        refine WL.nil ?_
        refine WC.seq ?_
        refine WC.region ?_
        refine WL.move (v := I64 (lo)) h10_1 rfl ?_
        refine WL.move (v := I64 ((x <<< (j)))) rfl rfl ?_
        refine WL.call ca28 (rfl) rfl (add_spec (lo) ((x <<< (j))) _) ?_
        rintro _ _ ⟨rfl, rfl⟩
        refine WL.assign (v := I64 ((lo + (x <<< (j))))) rfl rfl ?_
        refine WL.nil ?_
        refine WC.seq ?_
        refine WC.seq ?_
        refine WC.region ?_
        refine WL.move (v := I64 ((lo + (x <<< (j))))) rfl rfl ?_
        refine WL.move (v := I64 (lo)) h10_1 rfl ?_
        refine WL.call ca35 (rfl) rfl (below_spec ((lo + (x <<< (j)))) (lo) _) ?_
        rintro _ _ ⟨rfl, rfl⟩
        refine WL.nil ?_
        refine WC.cond rfl (fun hc41 => ?_) (fun hc41 => ?_)
        · have hnew := hst.1 hc41
          rw [hup] at hnew
          refine WC.region ?_
          refine WL.move (v := I64 ((x >>> (64 - j)))) rfl rfl ?_
          refine WL.call ca28 (rfl) rfl (add_spec ((x >>> (64 - j))) (1#64) _) ?_
          rintro _ _ ⟨rfl, rfl⟩
          refine WL.assign (v := I64 (((x >>> (64 - j)) + 1#64))) rfl rfl ?_
          refine WL.nil ?_
          refine WC.seq ?_
          refine WC.region ?_
          refine WL.move (v := I64 ((lo + (x <<< (j))))) rfl rfl ?_
          refine WL.assign (v := I64 ((lo + (x <<< (j))))) rfl rfl ?_
          refine WL.nil ?_
          refine WC.region ?_
          refine WL.move (v := I64 (hi)) h9_1 rfl ?_
          refine WL.move (v := I64 (((x >>> (64 - j)) + 1#64))) rfl rfl ?_
          refine WL.call ca28 (rfl) rfl (add_spec (hi) (((x >>> (64 - j)) + 1#64)) _) ?_
          rintro _ _ ⟨rfl, rfl⟩
          refine WL.assign (v := I64 ((hi + ((x >>> (64 - j)) + 1#64)))) rfl rfl ?_
          refine WL.nil ?_
          refine WC.region ?_
          refine WL.move (v := IN (j)) h11_1 rfl ?_
          refine WL.bin rfl rfl rfl (BinR.succN (by omega)) ?_
          refine WL.assign (v := IN (j + 1)) rfl rfl ?_
          refine WL.nil ?_
          exact ⟨k - 1, by omega, (j + 1), (_), (_), by omega, hnew, h0_1, h1_1, h2_1, h3_1, h8_1, rfl, rfl, rfl, rfl⟩
        · have hnew := hst.2 hc41
          rw [hup] at hnew
          refine WC.skip ?_
          refine WC.seq ?_
          refine WC.region ?_
          refine WL.move (v := I64 ((lo + (x <<< (j))))) rfl rfl ?_
          refine WL.assign (v := I64 ((lo + (x <<< (j))))) rfl rfl ?_
          refine WL.nil ?_
          refine WC.region ?_
          refine WL.move (v := I64 (hi)) h9_1 rfl ?_
          refine WL.move (v := I64 ((x >>> (64 - j)))) rfl rfl ?_
          refine WL.call ca28 (rfl) rfl (add_spec (hi) ((x >>> (64 - j))) _) ?_
          rintro _ _ ⟨rfl, rfl⟩
          refine WL.assign (v := I64 ((hi + (x >>> (64 - j))))) rfl rfl ?_
          refine WL.nil ?_
          refine WC.region ?_
          refine WL.move (v := IN (j)) h11_1 rfl ?_
          refine WL.bin rfl rfl rfl (BinR.succN (by omega)) ?_
          refine WL.assign (v := IN (j + 1)) rfl rfl ?_
          refine WL.nil ?_
          exact ⟨k - 1, by omega, (j + 1), (_), (_), by omega, hnew, h0_1, h1_1, h2_1, h3_1, h8_1, rfl, rfl, rfl, rfl⟩
      · have hup : upW x j = 0#64 := if_neg (by have := of_decide_eq_false hc24; omega)
        refine WC.skip ?_
        refine WC.seq ?_
        refine WC.region ?_
        refine WL.move (v := I64 (x)) h0_1 rfl ?_
        refine WL.conv rfl rfl (ConvR.i64u64 Tryd.underlying2 Tryd.underlying43) ?_
        refine WL.move (v := IN (j)) h11_1 rfl ?_
        refine WL.bin rfl rfl rfl (BinR.shlU64) ?_
        refine WL.conv rfl rfl (ConvR.u64i64 Tryd.underlying43 Tryd.underlying2) ?_
        refine WL.assign (v := I64 ((x <<< (j)))) rfl rfl ?_
        refine WL.nil ?_
        refine WC.seq ?_
        refine WC.region ?_
        refine WL.move (v := I64 (lo)) h10_1 rfl ?_
        refine WL.move (v := I64 ((x <<< (j)))) rfl rfl ?_
        refine WL.call ca28 (rfl) rfl (add_spec (lo) ((x <<< (j))) _) ?_
        rintro _ _ ⟨rfl, rfl⟩
        refine WL.assign (v := I64 ((lo + (x <<< (j))))) rfl rfl ?_
        refine WL.nil ?_
        refine WC.seq ?_
        refine WC.seq ?_
        refine WC.region ?_
        refine WL.move (v := I64 ((lo + (x <<< (j))))) rfl rfl ?_
        refine WL.move (v := I64 (lo)) h10_1 rfl ?_
        refine WL.call ca35 (rfl) rfl (below_spec ((lo + (x <<< (j)))) (lo) _) ?_
        rintro _ _ ⟨rfl, rfl⟩
        refine WL.nil ?_
        refine WC.cond rfl (fun hc41 => ?_) (fun hc41 => ?_)
        · have hnew := hst.1 hc41
          rw [hup] at hnew
          refine WC.region ?_
          refine WL.move (v := I64 (0#64)) rfl rfl ?_
          refine WL.call ca28 (rfl) rfl (add_spec (0#64) (1#64) _) ?_
          rintro _ _ ⟨rfl, rfl⟩
          refine WL.assign (v := I64 ((0#64 + 1#64))) rfl rfl ?_
          refine WL.nil ?_
          refine WC.seq ?_
          refine WC.region ?_
          refine WL.move (v := I64 ((lo + (x <<< (j))))) rfl rfl ?_
          refine WL.assign (v := I64 ((lo + (x <<< (j))))) rfl rfl ?_
          refine WL.nil ?_
          refine WC.region ?_
          refine WL.move (v := I64 (hi)) h9_1 rfl ?_
          refine WL.move (v := I64 ((0#64 + 1#64))) rfl rfl ?_
          refine WL.call ca28 (rfl) rfl (add_spec (hi) ((0#64 + 1#64)) _) ?_
          rintro _ _ ⟨rfl, rfl⟩
          refine WL.assign (v := I64 ((hi + (0#64 + 1#64)))) rfl rfl ?_
          refine WL.nil ?_
          refine WC.region ?_
          refine WL.move (v := IN (j)) h11_1 rfl ?_
          refine WL.bin rfl rfl rfl (BinR.succN (by omega)) ?_
          refine WL.assign (v := IN (j + 1)) rfl rfl ?_
          refine WL.nil ?_
          exact ⟨k - 1, by omega, (j + 1), (_), (_), by omega, hnew, h0_1, h1_1, h2_1, h3_1, h8_1, rfl, rfl, rfl, rfl⟩
        · have hnew := hst.2 hc41
          rw [hup] at hnew
          refine WC.skip ?_
          refine WC.seq ?_
          refine WC.region ?_
          refine WL.move (v := I64 ((lo + (x <<< (j))))) rfl rfl ?_
          refine WL.assign (v := I64 ((lo + (x <<< (j))))) rfl rfl ?_
          refine WL.nil ?_
          refine WC.region ?_
          refine WL.move (v := I64 (hi)) h9_1 rfl ?_
          refine WL.move (v := I64 (0#64)) rfl rfl ?_
          refine WL.call ca28 (rfl) rfl (add_spec (hi) (0#64) _) ?_
          rintro _ _ ⟨rfl, rfl⟩
          refine WL.assign (v := I64 ((hi + 0#64))) rfl rfl ?_
          refine WL.nil ?_
          refine WC.region ?_
          refine WL.move (v := IN (j)) h11_1 rfl ?_
          refine WL.bin rfl rfl rfl (BinR.succN (by omega)) ?_
          refine WL.assign (v := IN (j + 1)) rfl rfl ?_
          refine WL.nil ?_
          exact ⟨k - 1, by omega, (j + 1), (_), (_), by omega, hnew, h0_1, h1_1, h2_1, h3_1, h8_1, rfl, rfl, rfl, rfl⟩
  · have hj : j = 64 := by have := of_decide_eq_false hc16; omega
    rw [hj] at ha
    have hh := high_end x y hi lo ha
    rw [hh] at h9_1
    refine WC.exit ?_
    refine WC.seq ?_
    refine WC.seq ?_
    refine WC.region ?_
    refine WL.move (v := .bool (a)) h2_1 rfl ?_
    refine WL.move (v := .bool (a)) rfl rfl ?_
    rcases Bool.eq_false_or_eq_true (a) with hg49 | hg49
    · refine WL.guardT (yf_bool rfl rfl hg49) ?_
      refine WL.move (v := I64 (x)) h0_1 rfl ?_
      refine WL.guardT (yf_bool rfl rfl hg49) ?_
      refine WL.bin rfl (vy := I64 (0#64)) rfl rfl (BinR.lss64) ?_
      refine WL.pick (b := true) (congrArg Value.bool hg49) rfl rfl ?_
      refine WL.nil ?_
      refine WC.cond rfl (fun hc52 => ?_) (fun hc52 => ?_)
      · refine WC.region ?_
        refine WL.move (v := I64 (highU x y)) h9_1 rfl ?_
        refine WL.move (v := I64 (y)) h1_1 rfl ?_
        refine WL.call ca29 (rfl) rfl (neg_spec (y) _) ?_
        rintro _ _ ⟨rfl, rfl⟩
        refine WL.call ca28 (rfl) rfl (add_spec (highU x y) ((-(y))) _) ?_
        rintro _ _ ⟨rfl, rfl⟩
        refine WL.assign (v := I64 ((highU x y + (-(y))))) rfl rfl ?_
        refine WL.nil ?_
        refine WC.seq ?_
        refine WC.seq ?_
        refine WC.region ?_
        refine WL.move (v := .bool (b)) h3_1 rfl ?_
        refine WL.move (v := .bool (b)) rfl rfl ?_
        rcases Bool.eq_false_or_eq_true (b) with hg58 | hg58
        · refine WL.guardT (yf_bool rfl rfl hg58) ?_
          refine WL.move (v := I64 (y)) h1_1 rfl ?_
          refine WL.guardT (yf_bool rfl rfl hg58) ?_
          refine WL.bin rfl (vy := I64 (0#64)) rfl rfl (BinR.lss64) ?_
          refine WL.pick (b := true) (congrArg Value.bool hg58) rfl rfl ?_
          refine WL.nil ?_
          refine WC.cond rfl (fun hc61 => ?_) (fun hc61 => ?_)
          · refine WC.region ?_
            refine WL.move (v := I64 ((highU x y + (-(y))))) rfl rfl ?_
            refine WL.move (v := I64 (x)) h0_1 rfl ?_
            refine WL.call ca29 (rfl) rfl (neg_spec (x) _) ?_
            rintro _ _ ⟨rfl, rfl⟩
            refine WL.call ca28 (rfl) rfl (add_spec ((highU x y + (-(y)))) ((-(x))) _) ?_
            rintro _ _ ⟨rfl, rfl⟩
            refine WL.assign (v := I64 (((highU x y + (-(y))) + (-(x))))) rfl rfl ?_
            refine WL.nil ?_
            refine WC.seq ?_
            refine WC.region ?_
            refine WL.move (v := I64 (((highU x y + (-(y))) + (-(x))))) rfl rfl ?_
            refine WL.assign (v := I64 (((highU x y + (-(y))) + (-(x))))) rfl rfl ?_
            refine WL.nil ?_
            refine WC.ret ?_
            have hfin : (I64 (((highU x y + (-(y))) + (-(x))))) = I64 (highW x y a b) := congrArg I64 (by unfold highW; simp [*, BitVec.sub_eq_add_neg])
            exact ⟨_, Res.one (v := I64 (((highU x y + (-(y))) + (-(x))))) rfl rfl, hfin, rfl⟩
          · refine WC.skip ?_
            refine WC.seq ?_
            refine WC.region ?_
            refine WL.move (v := I64 ((highU x y + (-(y))))) rfl rfl ?_
            refine WL.assign (v := I64 ((highU x y + (-(y))))) rfl rfl ?_
            refine WL.nil ?_
            refine WC.ret ?_
            have hfin : (I64 ((highU x y + (-(y))))) = I64 (highW x y a b) := congrArg I64 (by unfold highW; simp [*, BitVec.sub_eq_add_neg])
            exact ⟨_, Res.one (v := I64 ((highU x y + (-(y))))) rfl rfl, hfin, rfl⟩
        · refine WL.guardF (b' := false) (yf_bool rfl rfl hg58) rfl rfl ?_
          refine WL.guardF (b' := false) (yf_bool rfl rfl hg58) rfl rfl ?_
          refine WL.pick (b := false) (congrArg Value.bool hg58) rfl rfl ?_
          refine WL.nil ?_
          refine WC.condF rfl ?_
          refine WC.skip ?_
          refine WC.seq ?_
          refine WC.region ?_
          refine WL.move (v := I64 ((highU x y + (-(y))))) rfl rfl ?_
          refine WL.assign (v := I64 ((highU x y + (-(y))))) rfl rfl ?_
          refine WL.nil ?_
          refine WC.ret ?_
          have hfin : (I64 ((highU x y + (-(y))))) = I64 (highW x y a b) := congrArg I64 (by unfold highW; simp [*, BitVec.sub_eq_add_neg])
          exact ⟨_, Res.one (v := I64 ((highU x y + (-(y))))) rfl rfl, hfin, rfl⟩
      · refine WC.skip ?_
        refine WC.seq ?_
        refine WC.seq ?_
        refine WC.region ?_
        refine WL.move (v := .bool (b)) h3_1 rfl ?_
        refine WL.move (v := .bool (b)) rfl rfl ?_
        rcases Bool.eq_false_or_eq_true (b) with hg58 | hg58
        · refine WL.guardT (yf_bool rfl rfl hg58) ?_
          refine WL.move (v := I64 (y)) h1_1 rfl ?_
          refine WL.guardT (yf_bool rfl rfl hg58) ?_
          refine WL.bin rfl (vy := I64 (0#64)) rfl rfl (BinR.lss64) ?_
          refine WL.pick (b := true) (congrArg Value.bool hg58) rfl rfl ?_
          refine WL.nil ?_
          refine WC.cond rfl (fun hc61 => ?_) (fun hc61 => ?_)
          · refine WC.region ?_
            refine WL.move (v := I64 (highU x y)) h9_1 rfl ?_
            refine WL.move (v := I64 (x)) h0_1 rfl ?_
            refine WL.call ca29 (rfl) rfl (neg_spec (x) _) ?_
            rintro _ _ ⟨rfl, rfl⟩
            refine WL.call ca28 (rfl) rfl (add_spec (highU x y) ((-(x))) _) ?_
            rintro _ _ ⟨rfl, rfl⟩
            refine WL.assign (v := I64 ((highU x y + (-(x))))) rfl rfl ?_
            refine WL.nil ?_
            refine WC.seq ?_
            refine WC.region ?_
            refine WL.move (v := I64 ((highU x y + (-(x))))) rfl rfl ?_
            refine WL.assign (v := I64 ((highU x y + (-(x))))) rfl rfl ?_
            refine WL.nil ?_
            refine WC.ret ?_
            have hfin : (I64 ((highU x y + (-(x))))) = I64 (highW x y a b) := congrArg I64 (by unfold highW; simp [*, BitVec.sub_eq_add_neg])
            exact ⟨_, Res.one (v := I64 ((highU x y + (-(x))))) rfl rfl, hfin, rfl⟩
          · refine WC.skip ?_
            refine WC.seq ?_
            refine WC.region ?_
            refine WL.move (v := I64 (highU x y)) h9_1 rfl ?_
            refine WL.assign (v := I64 (highU x y)) rfl rfl ?_
            refine WL.nil ?_
            refine WC.ret ?_
            have hfin : (I64 (highU x y)) = I64 (highW x y a b) := congrArg I64 (by unfold highW; simp [*, BitVec.sub_eq_add_neg])
            exact ⟨_, Res.one (v := I64 (highU x y)) rfl rfl, hfin, rfl⟩
        · refine WL.guardF (b' := false) (yf_bool rfl rfl hg58) rfl rfl ?_
          refine WL.guardF (b' := false) (yf_bool rfl rfl hg58) rfl rfl ?_
          refine WL.pick (b := false) (congrArg Value.bool hg58) rfl rfl ?_
          refine WL.nil ?_
          refine WC.condF rfl ?_
          refine WC.skip ?_
          refine WC.seq ?_
          refine WC.region ?_
          refine WL.move (v := I64 (highU x y)) h9_1 rfl ?_
          refine WL.assign (v := I64 (highU x y)) rfl rfl ?_
          refine WL.nil ?_
          refine WC.ret ?_
          have hfin : (I64 (highU x y)) = I64 (highW x y a b) := congrArg I64 (by unfold highW; simp [*, BitVec.sub_eq_add_neg])
          exact ⟨_, Res.one (v := I64 (highU x y)) rfl rfl, hfin, rfl⟩
    · refine WL.guardF (b' := false) (yf_bool rfl rfl hg49) rfl rfl ?_
      refine WL.guardF (b' := false) (yf_bool rfl rfl hg49) rfl rfl ?_
      refine WL.pick (b := false) (congrArg Value.bool hg49) rfl rfl ?_
      refine WL.nil ?_
      refine WC.condF rfl ?_
      refine WC.skip ?_
      refine WC.seq ?_
      refine WC.seq ?_
      refine WC.region ?_
      refine WL.move (v := .bool (b)) h3_1 rfl ?_
      refine WL.move (v := .bool (b)) rfl rfl ?_
      rcases Bool.eq_false_or_eq_true (b) with hg58 | hg58
      · refine WL.guardT (yf_bool rfl rfl hg58) ?_
        refine WL.move (v := I64 (y)) h1_1 rfl ?_
        refine WL.guardT (yf_bool rfl rfl hg58) ?_
        refine WL.bin rfl (vy := I64 (0#64)) rfl rfl (BinR.lss64) ?_
        refine WL.pick (b := true) (congrArg Value.bool hg58) rfl rfl ?_
        refine WL.nil ?_
        refine WC.cond rfl (fun hc61 => ?_) (fun hc61 => ?_)
        · refine WC.region ?_
          refine WL.move (v := I64 (highU x y)) h9_1 rfl ?_
          refine WL.move (v := I64 (x)) h0_1 rfl ?_
          refine WL.call ca29 (rfl) rfl (neg_spec (x) _) ?_
          rintro _ _ ⟨rfl, rfl⟩
          refine WL.call ca28 (rfl) rfl (add_spec (highU x y) ((-(x))) _) ?_
          rintro _ _ ⟨rfl, rfl⟩
          refine WL.assign (v := I64 ((highU x y + (-(x))))) rfl rfl ?_
          refine WL.nil ?_
          refine WC.seq ?_
          refine WC.region ?_
          refine WL.move (v := I64 ((highU x y + (-(x))))) rfl rfl ?_
          refine WL.assign (v := I64 ((highU x y + (-(x))))) rfl rfl ?_
          refine WL.nil ?_
          refine WC.ret ?_
          have hfin : (I64 ((highU x y + (-(x))))) = I64 (highW x y a b) := congrArg I64 (by unfold highW; simp [*, BitVec.sub_eq_add_neg])
          exact ⟨_, Res.one (v := I64 ((highU x y + (-(x))))) rfl rfl, hfin, rfl⟩
        · refine WC.skip ?_
          refine WC.seq ?_
          refine WC.region ?_
          refine WL.move (v := I64 (highU x y)) h9_1 rfl ?_
          refine WL.assign (v := I64 (highU x y)) rfl rfl ?_
          refine WL.nil ?_
          refine WC.ret ?_
          have hfin : (I64 (highU x y)) = I64 (highW x y a b) := congrArg I64 (by unfold highW; simp [*, BitVec.sub_eq_add_neg])
          exact ⟨_, Res.one (v := I64 (highU x y)) rfl rfl, hfin, rfl⟩
      · refine WL.guardF (b' := false) (yf_bool rfl rfl hg58) rfl rfl ?_
        refine WL.guardF (b' := false) (yf_bool rfl rfl hg58) rfl rfl ?_
        refine WL.pick (b := false) (congrArg Value.bool hg58) rfl rfl ?_
        refine WL.nil ?_
        refine WC.condF rfl ?_
        refine WC.skip ?_
        refine WC.seq ?_
        refine WC.region ?_
        refine WL.move (v := I64 (highU x y)) h9_1 rfl ?_
        refine WL.assign (v := I64 (highU x y)) rfl rfl ?_
        refine WL.nil ?_
        refine WC.ret ?_
        have hfin : (I64 (highU x y)) = I64 (highW x y a b) := congrArg I64 (by unfold highW; simp [*, BitVec.sub_eq_add_neg])
        exact ⟨_, Res.one (v := I64 (highU x y)) rfl rfl, hfin, rfl⟩
end Go.Proofs.W
