/- The walking engine, its arithmetic: numbers as bit vectors, or as integers in range. -/
import Derived.Test.YtljcijdkoncodaaUxOps
import Derived.IntWalk
namespace Go.Ux
open Go

abbrev I64 (x : BitVec 64) : Value := .int .i64 x.toInt
abbrev U64 (x : BitVec 64) : Value := .int .u64 (x.toNat : Int)
abbrev U32 (x : BitVec 32) : Value := .int .u32 (x.toNat : Int)
abbrev U8 (x : BitVec 8) : Value := .int .u8 (x.toNat : Int)
abbrev IN (k : Nat) : Value := .int .i64 (k : Int)

theorem wrap_i64_bv (n : Int) : IntKind.i64.wrap n = (BitVec.ofInt 64 n).toInt := by
  rw [BitVec.toInt_ofInt]
  simp only [IntKind.wrap, IntKind.bits, IntKind.signed, Int.bmod]
  simp
  split <;> split <;> omega
theorem wrap_u64_bv (n : Int) : IntKind.u64.wrap n = ((BitVec.ofInt 64 n).toNat : Int) := by
  rw [BitVec.toNat_ofInt]
  simp only [IntKind.wrap, IntKind.bits, IntKind.signed]
  simp; omega
theorem wrap_u32_bv (n : Int) : IntKind.u32.wrap n = ((BitVec.ofInt 32 n).toNat : Int) := by
  rw [BitVec.toNat_ofInt]
  simp only [IntKind.wrap, IntKind.bits, IntKind.signed]
  simp; omega
theorem wrap_u8_bv (n : Int) : IntKind.u8.wrap n = ((BitVec.ofInt 8 n).toNat : Int) := by
  rw [BitVec.toNat_ofInt]
  simp only [IntKind.wrap, IntKind.bits, IntKind.signed]
  simp; omega

theorem cI64 (n : Int) (h : -9223372036854775808 ≤ n ∧ n ≤ 9223372036854775807) : Value.int .i64 n = I64 (BitVec.ofInt 64 n) := by
  show Value.int .i64 n = Value.int .i64 (BitVec.ofInt 64 n).toInt
  rw [← wrap_i64_bv, IntWalk.i64_in _ (by omega)]
theorem eqGuard_int (op : BinOp) (t : TypeId) (x y : Operand) (k k' : IntKind) (a b : Int) {P : Program} (w : World) : (eqGuard op t x y (.int k a) (.int k' b)).run P w = .ok () w := by
  unfold eqGuard; cases op <;> simp [Sem.run_pure]
theorem eqGuard_not (op : BinOp) (t : TypeId) (x y : Operand) (vx vy : Value) {P : Program} (w : World) (h1 : op ≠ .eql) (h2 : op ≠ .neq) : (eqGuard op t x y vx vy).run P w = .ok () w := by
  unfold eqGuard; cases op <;> simp_all [Sem.run_pure]

section
variable {P : Program} {t : TypeId}

theorem BinR.of_int {op : BinOp} {k k' : IntKind} {a b : Int} {v : Value} (h : ∀ w, (binOp op t (.int k a) (.int k' b)).run P w = .ok v w) : BinR P op t (.int k a) (.int k' b) v := by
  intro x y w
  rw [Sem.run_bind, eqGuard_int]
  exact h w

/-! #### integers -/
theorem BinR.add {k : IntKind} {a b : Int} : BinR P .add t (.int k a) (.int k b) (.int k (k.wrap (a + b))) := .of_int fun w => by simp [binOp, Op.intArith]
theorem BinR.sub {k : IntKind} {a b : Int} : BinR P .sub t (.int k a) (.int k b) (.int k (k.wrap (a - b))) := .of_int fun w => by simp [binOp, Op.intArith]
theorem BinR.mul {k : IntKind} {a b : Int} : BinR P .mul t (.int k a) (.int k b) (.int k (k.wrap (a * b))) := .of_int fun w => by simp [binOp, Op.intArith]
theorem BinR.addI {a b : Int} (h : -9223372036854775808 ≤ a + b ∧ a + b ≤ 9223372036854775807) : BinR P .add t (.int .i64 a) (.int .i64 b) (.int .i64 (a + b)) := by
  have := BinR.add (P := P) (t := t) (k := .i64) (a := a) (b := b)
  rwa [IntWalk.i64_in _ (by omega)] at this
theorem BinR.subI {a b : Int} (h : -9223372036854775808 ≤ a - b ∧ a - b ≤ 9223372036854775807) : BinR P .sub t (.int .i64 a) (.int .i64 b) (.int .i64 (a - b)) := by
  have := BinR.sub (P := P) (t := t) (k := .i64) (a := a) (b := b)
  rwa [IntWalk.i64_in _ (by omega)] at this
theorem BinR.mulI {a b : Int} (h : -9223372036854775808 ≤ a * b ∧ a * b ≤ 9223372036854775807) : BinR P .mul t (.int .i64 a) (.int .i64 b) (.int .i64 (a * b)) := by
  have := BinR.mul (P := P) (t := t) (k := .i64) (a := a) (b := b)
  rwa [IntWalk.i64_in _ (by omega)] at this
/-- Counters. -/
theorem BinR.succN {k : Nat} (h : k < 9223372036854775807) : BinR P .add t (IN k) (.int .i64 1) (IN (k + 1)) := by
  have := BinR.addI (P := P) (t := t) (a := (k : Int)) (b := 1) (by omega)
  have e : ((k + 1 : Nat) : Int) = (k : Int) + 1 := by omega
  show BinR P .add t (.int .i64 (k : Int)) (.int .i64 1) (.int .i64 ((k + 1 : Nat) : Int))
  rw [e]; exact this
theorem BinR.lss {k : IntKind} {a b : Int} : BinR P .lss t (.int k a) (.int k b) (.bool (decide (a < b))) := .of_int fun w => by simp [binOp, Op.intCmp]
theorem BinR.leq {k : IntKind} {a b : Int} : BinR P .leq t (.int k a) (.int k b) (.bool (decide (a ≤ b))) := .of_int fun w => by simp [binOp, Op.intCmp]
theorem BinR.gtr {k : IntKind} {a b : Int} : BinR P .gtr t (.int k a) (.int k b) (.bool (decide (b < a))) := .of_int fun w => by simp [binOp, Op.intCmp]
theorem BinR.geq {k : IntKind} {a b : Int} : BinR P .geq t (.int k a) (.int k b) (.bool (decide (b ≤ a))) := .of_int fun w => by simp [binOp, Op.intCmp]
theorem BinR.eql {k : IntKind} {a b : Int} : BinR P .eql t (.int k a) (.int k b) (.bool (a == b)) := .of_int fun w => by simp [binOp, Op.intCmp]
theorem BinR.neq {k : IntKind} {a b : Int} : BinR P .neq t (.int k a) (.int k b) (.bool (a != b)) := .of_int fun w => by simp [binOp, Op.intCmp]
theorem BinR.quoI {a b : Int} (ha : 0 ≤ a) (hb : 0 < b) (hx : a ≤ 9223372036854775807) : BinR P .quo t (.int .i64 a) (.int .i64 b) (.int .i64 (a / b)) := .of_int fun w => by
  have e : a.tdiv b = a / b := Int.tdiv_eq_ediv_of_nonneg ha
  have h1 : 0 ≤ a / b := Int.ediv_nonneg ha (by omega)
  have h2 : a / b ≤ a := Int.ediv_le_self b ha
  simp [binOp, Op.intDiv, show b ≠ 0 by omega, e, IntWalk.i64_in _ (⟨by omega, by omega⟩ : -9223372036854775808 ≤ a / b ∧ a / b ≤ 9223372036854775807)]
theorem BinR.remI {a b : Int} (ha : 0 ≤ a) (hb : b ≠ 0) : BinR P .rem t (.int .i64 a) (.int .i64 b) (.int .i64 (a % b)) := .of_int fun w => by
  simp [binOp, Op.intDiv, hb, Int.tmod_eq_emod_of_nonneg ha]

/-! #### bit vectors -/
theorem toInt_ofInt_id (x : BitVec 64) : BitVec.ofInt 64 x.toInt = x := by simp
theorem ofInt_toNat_id {w : Nat} (x : BitVec w) : BitVec.ofInt w (x.toNat : Int) = x := by
  apply BitVec.eq_of_toNat_eq; simp
theorem BinR.add64 {x y : BitVec 64} : BinR P .add t (I64 x) (I64 y) (I64 (x + y)) := by
  have := BinR.add (P := P) (t := t) (k := .i64) (a := x.toInt) (b := y.toInt)
  rwa [wrap_i64_bv, BitVec.ofInt_add, toInt_ofInt_id, toInt_ofInt_id] at this
theorem BinR.sub64 {x y : BitVec 64} : BinR P .sub t (I64 x) (I64 y) (I64 (x - y)) := by
  have := BinR.sub (P := P) (t := t) (k := .i64) (a := x.toInt) (b := y.toInt)
  rw [wrap_i64_bv] at this
  have e : BitVec.ofInt 64 (x.toInt - y.toInt) = x - y := by rw [Int.sub_eq_add_neg, BitVec.ofInt_add, BitVec.ofInt_neg]; simp [BitVec.sub_eq_add_neg]
  rwa [e] at this
theorem BinR.mul64 {x y : BitVec 64} : BinR P .mul t (I64 x) (I64 y) (I64 (x * y)) := by
  have := BinR.mul (P := P) (t := t) (k := .i64) (a := x.toInt) (b := y.toInt)
  rwa [wrap_i64_bv, BitVec.ofInt_mul, toInt_ofInt_id, toInt_ofInt_id] at this
theorem BinR.addU64 {x y : BitVec 64} : BinR P .add t (U64 x) (U64 y) (U64 (x + y)) := by
  have := BinR.add (P := P) (t := t) (k := .u64) (a := x.toNat) (b := y.toNat)
  rwa [wrap_u64_bv, BitVec.ofInt_add, ofInt_toNat_id, ofInt_toNat_id] at this
theorem BinR.subU64 {x y : BitVec 64} : BinR P .sub t (U64 x) (U64 y) (U64 (x - y)) := by
  have := BinR.sub (P := P) (t := t) (k := .u64) (a := x.toNat) (b := y.toNat)
  rw [wrap_u64_bv] at this
  have e : BitVec.ofInt 64 ((x.toNat : Int) - y.toNat) = x - y := by rw [Int.sub_eq_add_neg, BitVec.ofInt_add, BitVec.ofInt_neg, ofInt_toNat_id, ofInt_toNat_id, BitVec.sub_eq_add_neg]
  rwa [e] at this
theorem BinR.mulU64 {x y : BitVec 64} : BinR P .mul t (U64 x) (U64 y) (U64 (x * y)) := by
  have := BinR.mul (P := P) (t := t) (k := .u64) (a := x.toNat) (b := y.toNat)
  rwa [wrap_u64_bv, BitVec.ofInt_mul, ofInt_toNat_id, ofInt_toNat_id] at this

theorem BinR.and64 {x y : BitVec 64} : BinR P .and t (I64 x) (I64 y) (I64 (x &&& y)) := .of_int fun w => by
  have e : Op.intBits .and .i64 x.toInt y.toInt = pure (.int .i64 (IntKind.i64.wrap ((x &&& y).toNat : Int))) := by unfold Op.intBits; simp only [IntKind.bits, toInt_ofInt_id]; rfl
  simp only [binOp, ne_eq, not_true_eq_false, if_false, e, wrap_i64_bv, ofInt_toNat_id, Sem.run_pure]
theorem BinR.or64 {x y : BitVec 64} : BinR P .or t (I64 x) (I64 y) (I64 (x ||| y)) := .of_int fun w => by
  have e : Op.intBits .or .i64 x.toInt y.toInt = pure (.int .i64 (IntKind.i64.wrap ((x ||| y).toNat : Int))) := by unfold Op.intBits; simp only [IntKind.bits, toInt_ofInt_id]; rfl
  simp only [binOp, ne_eq, not_true_eq_false, if_false, e, wrap_i64_bv, ofInt_toNat_id, Sem.run_pure]
theorem BinR.xor64 {x y : BitVec 64} : BinR P .xor t (I64 x) (I64 y) (I64 (x ^^^ y)) := .of_int fun w => by
  have e : Op.intBits .xor .i64 x.toInt y.toInt = pure (.int .i64 (IntKind.i64.wrap ((x ^^^ y).toNat : Int))) := by unfold Op.intBits; simp only [IntKind.bits, toInt_ofInt_id]; rfl
  simp only [binOp, ne_eq, not_true_eq_false, if_false, e, wrap_i64_bv, ofInt_toNat_id, Sem.run_pure]
theorem BinR.andU64 {x y : BitVec 64} : BinR P .and t (U64 x) (U64 y) (U64 (x &&& y)) := .of_int fun w => by
  have e : Op.intBits .and .u64 (x.toNat : Int) (y.toNat : Int) = pure (.int .u64 (IntKind.u64.wrap ((x &&& y).toNat : Int))) := by unfold Op.intBits; simp only [IntKind.bits, ofInt_toNat_id]; rfl
  simp only [binOp, ne_eq, not_true_eq_false, if_false, e, wrap_u64_bv, ofInt_toNat_id, Sem.run_pure]
theorem BinR.orU64 {x y : BitVec 64} : BinR P .or t (U64 x) (U64 y) (U64 (x ||| y)) := .of_int fun w => by
  have e : Op.intBits .or .u64 (x.toNat : Int) (y.toNat : Int) = pure (.int .u64 (IntKind.u64.wrap ((x ||| y).toNat : Int))) := by unfold Op.intBits; simp only [IntKind.bits, ofInt_toNat_id]; rfl
  simp only [binOp, ne_eq, not_true_eq_false, if_false, e, wrap_u64_bv, ofInt_toNat_id, Sem.run_pure]
theorem BinR.xorU64 {x y : BitVec 64} : BinR P .xor t (U64 x) (U64 y) (U64 (x ^^^ y)) := .of_int fun w => by
  have e : Op.intBits .xor .u64 (x.toNat : Int) (y.toNat : Int) = pure (.int .u64 (IntKind.u64.wrap ((x ^^^ y).toNat : Int))) := by unfold Op.intBits; simp only [IntKind.bits, ofInt_toNat_id]; rfl
  simp only [binOp, ne_eq, not_true_eq_false, if_false, e, wrap_u64_bv, ofInt_toNat_id, Sem.run_pure]

theorem shl_min (x : BitVec 64) (s : Nat) : BitVec.ofInt 64 (x.toInt * 2 ^ min s 64) = x <<< s := by
  rw [BitVec.ofInt_mul, toInt_ofInt_id]
  have e : BitVec.ofInt 64 (2 ^ min s 64 : Int) = BitVec.ofNat 64 (2 ^ min s 64) := by
    have : (2 ^ min s 64 : Int) = ((2 ^ min s 64 : Nat) : Int) := by norm_cast
    rw [this, BitVec.ofInt_natCast]
  rw [e]
  apply BitVec.eq_of_toNat_eq
  simp only [BitVec.toNat_mul, BitVec.toNat_ofNat, BitVec.toNat_shiftLeft, Nat.shiftLeft_eq, Nat.mul_mod_mod]
  by_cases h : s ≤ 64
  · rw [Nat.min_eq_left h]
  · rw [Nat.min_eq_right (by omega)]
    have : x.toNat * 2 ^ s = x.toNat * 2 ^ (s - 64) * 2 ^ 64 := by rw [Nat.mul_assoc, ← Nat.pow_add]; congr 2; omega
    rw [this]; simp
theorem shlU_min (x : BitVec 64) (s : Nat) : BitVec.ofInt 64 ((x.toNat : Int) * 2 ^ min s 64) = x <<< s := by
  have h := shl_min x s
  rw [BitVec.ofInt_mul, toInt_ofInt_id] at h
  rw [BitVec.ofInt_mul, ofInt_toNat_id, h]

theorem BinR.shl64 {x : BitVec 64} {yk : IntKind} {s : Nat} : BinR P .shl t (I64 x) (.int yk (s : Int)) (I64 (x <<< s)) := .of_int fun w => by
  have h0 : ¬ ((s : Int) < 0) := by omega
  simp only [binOp, Op.shift, if_neg h0, Int.toNat_natCast, IntKind.bits, Sem.run_pure, wrap_i64_bv, shl_min]
theorem BinR.shlU64 {x : BitVec 64} {yk : IntKind} {s : Nat} : BinR P .shl t (U64 x) (.int yk (s : Int)) (U64 (x <<< s)) := .of_int fun w => by
  have h0 : ¬ ((s : Int) < 0) := by omega
  simp only [binOp, Op.shift, if_neg h0, Int.toNat_natCast, IntKind.bits, Sem.run_pure, wrap_u64_bv, shlU_min]
theorem BinR.shrU64 {x : BitVec 64} {yk : IntKind} {s : Nat} : BinR P .shr t (U64 x) (.int yk (s : Int)) (U64 (x >>> s)) := .of_int fun w => by
  have h0 : ¬ ((s : Int) < 0) := by omega
  have e : (x.toNat : Int).fdiv (2 ^ min s 64) = ((x >>> s).toNat : Int) := by
    rw [Int.fdiv_eq_ediv_of_nonneg _ (Int.pow_nonneg (by decide)), BitVec.toNat_ushiftRight, Nat.shiftRight_eq_div_pow]
    by_cases h : s ≤ 64
    · rw [Nat.min_eq_left h]; norm_cast
    · rw [Nat.min_eq_right (by omega)]
      have h1 : x.toNat / 2 ^ s = 0 := Nat.div_eq_of_lt (Nat.lt_of_lt_of_le x.isLt (Nat.pow_le_pow_right (by decide) (by omega)))
      rw [h1]
      have := x.isLt
      omega
  simp only [binOp, Op.shift, if_neg h0, Int.toNat_natCast, IntKind.bits, Sem.run_pure, e]
theorem BinR.shr64 {x : BitVec 64} {yk : IntKind} {s : Nat} : BinR P .shr t (I64 x) (.int yk (s : Int)) (I64 (x.sshiftRight s)) := .of_int fun w => by
  have h0 : ¬ ((s : Int) < 0) := by omega
  have e : x.toInt.fdiv (2 ^ min s 64) = (x.sshiftRight s).toInt := by
    rw [Int.fdiv_eq_ediv_of_nonneg _ (Int.pow_nonneg (by decide)), BitVec.toInt_sshiftRight, Int.shiftRight_eq_div_pow]
    by_cases h : s ≤ 64
    · rw [Nat.min_eq_left h]; norm_cast
    · rw [Nat.min_eq_right (by omega)]
      have hx := BitVec.two_mul_toInt_lt (x := x)
      have hy := BitVec.le_two_mul_toInt (x := x)
      have hp : (2 : Int) ^ 64 ≤ ((2 ^ s : Nat) : Int) := by
        have := Nat.pow_le_pow_right (n := 2) (by decide) (show 64 ≤ s by omega)
        exact_mod_cast this
      rcases Int.lt_or_le x.toInt 0 with hn | hn
      · have e1 : x.toInt / 2 ^ 64 = -1 := by omega
        have e2 : x.toInt / ((2 ^ s : Nat) : Int) = -1 := by
          rw [Int.ediv_eq_iff_of_pos (by omega)]; omega
        rw [e1, e2]
      · have e1 : x.toInt / 2 ^ 64 = 0 := by omega
        rw [e1, Int.ediv_eq_zero_of_lt hn (by omega)]
  simp only [binOp, Op.shift, if_neg h0, Int.toNat_natCast, IntKind.bits, Sem.run_pure, e]

theorem BinR.lss64 {x y : BitVec 64} : BinR P .lss t (I64 x) (I64 y) (.bool (x.slt y)) := by
  have := BinR.lss (P := P) (t := t) (k := .i64) (a := x.toInt) (b := y.toInt); rwa [← BitVec.slt_eq_decide] at this
theorem BinR.gtr64 {x y : BitVec 64} : BinR P .gtr t (I64 x) (I64 y) (.bool (y.slt x)) := by
  have := BinR.gtr (P := P) (t := t) (k := .i64) (a := x.toInt) (b := y.toInt); rwa [← BitVec.slt_eq_decide] at this
theorem BinR.lssU64 {x y : BitVec 64} : BinR P .lss t (U64 x) (U64 y) (.bool (x.ult y)) := by
  have := BinR.lss (P := P) (t := t) (k := .u64) (a := x.toNat) (b := y.toNat)
  have e : decide ((x.toNat : Int) < (y.toNat : Int)) = x.ult y := by simp [BitVec.ult]
  rwa [e] at this
theorem eqB {x y : BitVec 64} : (x.toInt == y.toInt) = (x == y) := by
  rw [Bool.eq_iff_iff, beq_iff_eq, beq_iff_eq]; exact ⟨BitVec.eq_of_toInt_eq, fun h => by rw [h]⟩
theorem eqUB {w : Nat} {x y : BitVec w} : ((x.toNat : Int) == (y.toNat : Int)) = (x == y) := by
  rw [Bool.eq_iff_iff, beq_iff_eq, beq_iff_eq]; exact ⟨fun h => BitVec.eq_of_toNat_eq (by omega), fun h => by rw [h]⟩
theorem BinR.eql64 {x y : BitVec 64} : BinR P .eql t (I64 x) (I64 y) (.bool (x == y)) := by
  have := BinR.eql (P := P) (t := t) (k := .i64) (a := x.toInt) (b := y.toInt); rwa [eqB] at this
theorem BinR.neq64 {x y : BitVec 64} : BinR P .neq t (I64 x) (I64 y) (.bool (x != y)) := by
  have := BinR.neq (P := P) (t := t) (k := .i64) (a := x.toInt) (b := y.toInt); rwa [bne, eqB, ← bne] at this
theorem BinR.eqlU64 {x y : BitVec 64} : BinR P .eql t (U64 x) (U64 y) (.bool (x == y)) := by
  have := BinR.eql (P := P) (t := t) (k := .u64) (a := x.toNat) (b := y.toNat); rwa [eqUB] at this
theorem BinR.neqU64 {x y : BitVec 64} : BinR P .neq t (U64 x) (U64 y) (.bool (x != y)) := by
  have := BinR.neq (P := P) (t := t) (k := .u64) (a := x.toNat) (b := y.toNat); rwa [bne, eqUB, ← bne] at this

theorem BinR.leq64 {x y : BitVec 64} : BinR P .leq t (I64 x) (I64 y) (.bool (x.sle y)) := by
  have := BinR.leq (P := P) (t := t) (k := .i64) (a := x.toInt) (b := y.toInt); rwa [← BitVec.sle_eq_decide] at this
theorem BinR.geq64 {x y : BitVec 64} : BinR P .geq t (I64 x) (I64 y) (.bool (y.sle x)) := by
  have := BinR.geq (P := P) (t := t) (k := .i64) (a := x.toInt) (b := y.toInt); rwa [← BitVec.sle_eq_decide] at this
theorem BinR.gtrU64 {x y : BitVec 64} : BinR P .gtr t (U64 x) (U64 y) (.bool (y.ult x)) := by
  have := BinR.gtr (P := P) (t := t) (k := .u64) (a := x.toNat) (b := y.toNat)
  have e : decide ((y.toNat : Int) < (x.toNat : Int)) = y.ult x := by simp [BitVec.ult]
  rwa [e] at this
theorem BinR.quo64 {x y : BitVec 64} (h : y ≠ 0#64) : BinR P .quo t (I64 x) (I64 y) (I64 (x.sdiv y)) := .of_int fun w => by
  have h0 : y.toInt ≠ 0 := fun e => h (BitVec.eq_of_toInt_eq (by simpa using e))
  simp only [binOp, ne_eq, not_true_eq_false, if_false, Op.intDiv, if_neg h0, Sem.run_pure, wrap_i64_bv]
  have e : BitVec.ofInt 64 (x.toInt.tdiv y.toInt) = x.sdiv y := by apply BitVec.eq_of_toInt_eq; rw [BitVec.toInt_ofInt, BitVec.toInt_sdiv]
  rw [e]
theorem BinR.rem64 {x y : BitVec 64} (h : y ≠ 0#64) : BinR P .rem t (I64 x) (I64 y) (I64 (x.srem y)) := .of_int fun w => by
  have h0 : y.toInt ≠ 0 := fun e => h (BitVec.eq_of_toInt_eq (by simpa using e))
  simp only [binOp, ne_eq, not_true_eq_false, if_false, Op.intDiv, if_neg h0, Sem.run_pure]
  show _ = Result.ok (Value.int IntKind.i64 (x.srem y).toInt) w
  rw [BitVec.toInt_srem]
theorem BinR.quoU64 {x y : BitVec 64} (h : y ≠ 0#64) : BinR P .quo t (U64 x) (U64 y) (U64 (x / y)) := .of_int fun w => by
  have h0 : (y.toNat : Int) ≠ 0 := fun e => h (BitVec.eq_of_toNat_eq (by simpa using e))
  simp only [binOp, ne_eq, not_true_eq_false, if_false, Op.intDiv, if_neg h0, Sem.run_pure, wrap_u64_bv]
  have e : BitVec.ofInt 64 ((x.toNat : Int).tdiv y.toNat) = x / y := by
    rw [Int.tdiv_eq_ediv_of_nonneg (by omega)]
    have : ((x.toNat : Int) / (y.toNat : Int)) = ((x / y).toNat : Int) := by rw [BitVec.toNat_udiv]; norm_cast
    rw [this, ofInt_toNat_id]
  rw [e]
theorem BinR.remU64 {x y : BitVec 64} (h : y ≠ 0#64) : BinR P .rem t (U64 x) (U64 y) (U64 (x % y)) := .of_int fun w => by
  have h0 : (y.toNat : Int) ≠ 0 := fun e => h (BitVec.eq_of_toNat_eq (by simpa using e))
  simp only [binOp, ne_eq, not_true_eq_false, if_false, Op.intDiv, if_neg h0, Sem.run_pure]
  have e : (x.toNat : Int).tmod y.toNat = ((x % y).toNat : Int) := by rw [Int.tmod_eq_emod_of_nonneg (by omega), BitVec.toNat_umod]; norm_cast
  rw [e]
theorem BinR.shl64z {x z : BitVec 64} (h : z.toInt = (z.toNat : Int)) : BinR P .shl t (I64 x) (I64 z) (I64 (x <<< z.toNat)) := by
  have := BinR.shl64 (P := P) (t := t) (x := x) (yk := .i64) (s := z.toNat); rwa [← h] at this
theorem BinR.shr64z {x z : BitVec 64} (h : z.toInt = (z.toNat : Int)) : BinR P .shr t (I64 x) (I64 z) (I64 (x.sshiftRight z.toNat)) := by
  have := BinR.shr64 (P := P) (t := t) (x := x) (yk := .i64) (s := z.toNat); rwa [← h] at this
theorem BinR.shrU64z {x z : BitVec 64} (h : z.toInt = (z.toNat : Int)) : BinR P .shr t (U64 x) (I64 z) (U64 (x >>> z.toNat)) := by
  have := BinR.shrU64 (P := P) (t := t) (x := x) (yk := .i64) (s := z.toNat); rwa [← h] at this

theorem BinR.eqlB {a b : Bool} (h : P.underlying t = some .bool) : BinR P .eql t (.bool a) (.bool b) (.bool (a == b)) := fun x y w => by
  simp only [eqGuard, binOp, Sem.run_bind, run_equal_bool (h := h), Sem.run_pure, Result.andThen]; simp
theorem BinR.neqB {a b : Bool} (h : P.underlying t = some .bool) : BinR P .neq t (.bool a) (.bool b) (.bool (a != b)) := fun x y w => by
  simp only [eqGuard, binOp, Sem.run_bind, run_equal_bool (h := h), Sem.run_pure, Result.andThen]; simp [bne]

theorem equalIn_funcnil (d : Nat) {ps rs : Array TypeId} {b : Bool} (fn : Fn) (u v : Array Value) (h : P.underlying t = some (.func ps rs b)) (w : World) : (Op.equalIn (d + 1) t (.func fn u v) .nilFunc).run P w = .ok false w := by
  simp [Op.equalIn, run_underlying h]
theorem equalIn_nilnil (d : Nat) {ps rs : Array TypeId} {b : Bool} (h : P.underlying t = some (.func ps rs b)) (w : World) : (Op.equalIn (d + 1) t .nilFunc .nilFunc).run P w = .ok true w := by
  simp [Op.equalIn, run_underlying h]
theorem BinR.eqlFnil {ps rs : Array TypeId} {b : Bool} {fn : Fn} {u v : Array Value} (h : P.underlying t = some (.func ps rs b)) : BinR P .eql t (.func fn u v) .nilFunc (.bool false) := fun x y w => by
  have e : (Op.equal t (.func fn u v) .nilFunc).run P w = .ok false w := equalIn_funcnil 9999 fn u v h w
  simp only [eqGuard, binOp, Sem.run_bind, Sem.run_pure, Result.andThen]; simp [e]
theorem BinR.neqFnil {ps rs : Array TypeId} {b : Bool} {fn : Fn} {u v : Array Value} (h : P.underlying t = some (.func ps rs b)) : BinR P .neq t (.func fn u v) .nilFunc (.bool true) := fun x y w => by
  have e : (Op.equal t (.func fn u v) .nilFunc).run P w = .ok false w := equalIn_funcnil 9999 fn u v h w
  simp only [eqGuard, binOp, Sem.run_bind, Sem.run_pure, Result.andThen]; simp [e]
theorem BinR.eqlNil {ps rs : Array TypeId} {b : Bool} (h : P.underlying t = some (.func ps rs b)) : BinR P .eql t .nilFunc .nilFunc (.bool true) := fun x y w => by
  have e : (Op.equal t .nilFunc .nilFunc).run P w = .ok true w := equalIn_nilnil 9999 h w
  simp only [eqGuard, binOp, Sem.run_bind, Sem.run_pure, Result.andThen]; simp [e]
theorem BinR.neqNil {ps rs : Array TypeId} {b : Bool} (h : P.underlying t = some (.func ps rs b)) : BinR P .neq t .nilFunc .nilFunc (.bool false) := fun x y w => by
  have e : (Op.equal t .nilFunc .nilFunc).run P w = .ok true w := equalIn_nilnil 9999 h w
  simp only [eqGuard, binOp, Sem.run_bind, Sem.run_pure, Result.andThen]; simp [e]

theorem UnR.not {b : Bool} : UnR P .not (.bool b) (.bool !b) := fun w => by simp [Op.unary]
theorem UnR.com64 {x : BitVec 64} : UnR P .xor (I64 x) (I64 (~~~x)) := fun w => by
  have e : Op.intBits .xor .i64 (-1) x.toInt = pure (.int .i64 (IntKind.i64.wrap ((~~~x).toNat : Int))) := by
    unfold Op.intBits
    simp only [IntKind.bits, toInt_ofInt_id]
    have h : BitVec.ofInt 64 (-1) ^^^ x = ~~~x := by
      have : BitVec.ofInt 64 (-1) = BitVec.allOnes 64 := by decide
      rw [this, BitVec.allOnes_xor]
    exact congrArg (fun z : BitVec 64 => (pure (Value.int .i64 (IntKind.i64.wrap (z.toNat : Int))) : Sem Value)) h
  simp only [Op.unary, IntKind.signed, if_true, e, wrap_i64_bv, ofInt_toNat_id, Sem.run_pure]
theorem UnR.neg64 {x : BitVec 64} : UnR P .neg (I64 x) (I64 (-x)) := fun w => by
  simp only [Op.unary, Op.intArith]; simp [wrap_i64_bv, BitVec.ofInt_neg]

theorem UnR.negU64 {x : BitVec 64} : UnR P .neg (U64 x) (U64 (-x)) := fun w => by
  simp only [Op.unary, Op.intArith, Sem.run_pure, wrap_u64_bv]
  have e : BitVec.ofInt 64 (0 - (x.toNat : Int)) = -x := by rw [Int.zero_sub, BitVec.ofInt_neg, ofInt_toNat_id]
  rw [e]

theorem ConvR.int {s u : TypeId} {k k' : IntKind} {a : Int} {td : TypeDesc} (h1 : P.underlying s = some td) (h2 : P.underlying u = some (.int k')) : ConvR P s u (.int k a) (.int k' (k'.wrap a)) := fun w => by
  simp [convert, run_underlying h1, run_underlying h2, Conv.intToInt]
theorem ConvR.i64u64 {s u : TypeId} {x : BitVec 64} {td : TypeDesc} (h1 : P.underlying s = some td) (h2 : P.underlying u = some (.int .u64)) : ConvR P s u (I64 x) (U64 x) := by
  have := ConvR.int (k := .i64) (a := x.toInt) h1 h2; rwa [wrap_u64_bv, toInt_ofInt_id] at this
theorem ConvR.u64i64 {s u : TypeId} {x : BitVec 64} {td : TypeDesc} (h1 : P.underlying s = some td) (h2 : P.underlying u = some (.int .i64)) : ConvR P s u (U64 x) (I64 x) := by
  have := ConvR.int (k := .u64) (a := x.toNat) h1 h2; rwa [wrap_i64_bv, ofInt_toNat_id] at this
theorem ConvR.toI {s u : TypeId} {k : IntKind} {a : Int} {td : TypeDesc} (h1 : P.underlying s = some td) (h2 : P.underlying u = some (.int .i64)) (h : -9223372036854775808 ≤ a ∧ a ≤ 9223372036854775807) : ConvR P s u (.int k a) (.int .i64 a) := by
  have := ConvR.int (k := k) (a := a) h1 h2; rwa [IntWalk.i64_in _ (by omega)] at this

end
end Go.Ux
