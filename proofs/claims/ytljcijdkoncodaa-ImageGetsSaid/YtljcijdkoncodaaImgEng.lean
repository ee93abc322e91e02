/- Bytes out of numbers and back, as the model counts. No program in sight. -/
import Derived.Test.YtljcijdkoncodaaImgPure
namespace Go.Ux
open Go Go.Ux.Image
variable {P : Program} {t : TypeId}
theorem BinR.shrI {n : Int} {yk : IntKind} {s : Nat} (hs : s < 64) : BinR P .shr t (.int .i64 n) (.int yk (s : Int)) (.int .i64 (n / (2 ^ s : Nat))) := .of_int fun w => by
  have h0 : ¬ ((s : Int) < 0) := by omega
  have e : n.fdiv (2 ^ min s 64) = n / (2 ^ s : Nat) := by
    rw [Int.fdiv_eq_ediv_of_nonneg _ (Int.pow_nonneg (by decide)), Nat.min_eq_left (by omega)]
    norm_cast
  simp only [binOp, Op.shift, if_neg h0, Int.toNat_natCast, IntKind.bits, Sem.run_pure, e]
theorem dig_val (n : Int) (i : Nat) : ((dig n i).toNat : Int) = (n / (2 ^ (8 * i) : Nat)) % 256 := by
  unfold dig
  have h1 : 0 ≤ (n / (2 ^ (8 * i) : Nat)) % 256 := Int.emod_nonneg _ (by decide)
  have h2 : (n / (2 ^ (8 * i) : Nat)) % 256 < 256 := Int.emod_lt_of_pos _ (by decide)
  rw [UInt8.toNat_ofNat']
  omega
theorem ConvR.byte {s u : TypeId} {td : TypeDesc} (h1 : P.underlying s = some td) (h2 : P.underlying u = some (.int .u8)) {n : Int} {i : Nat} : ConvR P s u (.int .i64 (n / (2 ^ (8 * i) : Nat))) (.int .u8 ((dig n i).toNat : Int)) := by
  have h := ConvR.int (P := P) (k := .i64) (a := n / (2 ^ (8 * i) : Nat)) h1 h2
  rw [wrap_u8_bv, BitVec.toNat_ofInt] at h
  rw [dig_val]
  have e : (((n / (2 ^ (8 * i) : Nat)) % (2 ^ 8 : Nat)).toNat : Int) = (n / (2 ^ (8 * i) : Nat)) % 256 := by
    have h1 : 0 ≤ (n / (2 ^ (8 * i) : Nat)) % 256 := Int.emod_nonneg _ (by decide)
    show (((n / (2 ^ (8 * i) : Nat)) % 256).toNat : Int) = _
    omega
  rwa [e] at h
theorem BinR.subI' {a b c : Int} (e : a - b = c) (h : -9223372036854775808 ≤ c ∧ c ≤ 9223372036854775807) : BinR P .sub t (.int .i64 a) (.int .i64 b) (.int .i64 c) := e ▸ BinR.subI (e ▸ h)
theorem BinR.addI' {a b c : Int} (e : a + b = c) (h : -9223372036854775808 ≤ c ∧ c ≤ 9223372036854775807) : BinR P .add t (.int .i64 a) (.int .i64 b) (.int .i64 c) := e ▸ BinR.addI (e ▸ h)
theorem BinR.mulI' {a b c : Int} (e : a * b = c) (h : -9223372036854775808 ≤ c ∧ c ≤ 9223372036854775807) : BinR P .mul t (.int .i64 a) (.int .i64 b) (.int .i64 c) := e ▸ BinR.mulI (e ▸ h)
namespace Image
theorem be_take (k : Nat) (n : Int) : ∀ m, m < k → (be k n).take (k - (m + 1)) ++ [dig n m] = (be k n).take (k - m) := by
  induction k with
  | zero => intro m h; omega
  | succ k ih =>
    intro m h
    by_cases e : m = k
    · subst e; simp [be, Nat.sub_self]
    · have := ih m (by omega)
      rw [show k + 1 - (m + 1) = (k - (m + 1)) + 1 by omega, show k + 1 - m = (k - m) + 1 by omega, be, List.take_succ_cons, List.take_succ_cons, List.cons_append, this]
theorem be_all (k : Nat) (n : Int) : (be k n).take (k - 0) = be k n := List.take_of_length_le (by rw [be_length]; omega)
end Image
end Go.Ux
