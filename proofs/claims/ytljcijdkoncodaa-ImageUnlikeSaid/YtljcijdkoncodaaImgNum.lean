/- Numbers out of bytes, the highest first; there and back. No program in sight. -/
import Derived.Test.YtljcijdkoncodaaImgEng
namespace Go.Ux
open Go Go.Ux.Image
namespace Image
def numFrom (a : Nat) (l : List UInt8) : Nat := l.foldl (fun a b => a * 256 + b.toNat) a
def num (l : List UInt8) : Nat := numFrom 0 l
theorem numFrom_append (a : Nat) (x y : List UInt8) : numFrom a (x ++ y) = numFrom (numFrom a x) y := by simp [numFrom]
theorem numFrom_eq (a : Nat) (l : List UInt8) : numFrom a l = a * 256 ^ l.length + num l := by
  induction l generalizing a with
  | nil => simp [numFrom, num]
  | cons b r ih =>
    show numFrom (a * 256 + b.toNat) r = _
    have h2 : num (b :: r) = numFrom (0 * 256 + b.toNat) r := rfl
    rw [h2, ih, ih (0 * 256 + b.toNat), List.length_cons, Nat.pow_succ]
    rw [Nat.add_mul, Nat.zero_mul, Nat.zero_add, Nat.mul_assoc, Nat.mul_comm 256, Nat.add_assoc]
theorem num_lt (l : List UInt8) : num l < 256 ^ l.length := by
  induction l with
  | nil => decide
  | cons b r ih =>
    have h : num (b :: r) = b.toNat * 256 ^ r.length + num r := by
      show numFrom (0 * 256 + b.toNat) r = _
      rw [numFrom_eq, Nat.zero_mul, Nat.zero_add]
    have hb : b.toNat < 256 := b.toNat_lt
    rw [h, List.length_cons, Nat.pow_succ]
    have : (b.toNat + 1) * 256 ^ r.length ≤ 256 * 256 ^ r.length := Nat.mul_le_mul_right _ (by omega)
    rw [Nat.add_mul] at this
    omega
theorem num_take (l : List UInt8) (j : Nat) (h : j < l.length) : num (l.take (j + 1)) = num (l.take j) * 256 + l[j].toNat := by
  rw [List.take_succ_eq_append_getElem h]
  show numFrom 0 _ = _
  rw [numFrom_append]; rfl
theorem num_take_lt (l : List UInt8) (j k : Nat) (hj : j ≤ k) (hk : k ≤ 6) : num (l.take j) < 281474976710656 := by
  have h := num_lt (l.take j)
  have h2 : (l.take j).length ≤ 6 := by rw [List.length_take]; omega
  have : 256 ^ (l.take j).length ≤ 256 ^ 6 := Nat.pow_le_pow_right (by decide) h2
  have e : (256 : Nat) ^ 6 = 281474976710656 := by decide
  omega
theorem num_drop_take (l : List UInt8) (a j : Nat) (h : a + j < l.length) : num ((l.drop a).take (j + 1)) = num ((l.drop a).take j) * 256 + l[a + j].toNat := by
  rw [num_take (l.drop a) j (by rw [List.length_drop]; omega), List.getElem_drop]
end Image
variable {P : Program} {t : TypeId}
theorem IN_I64 (a : Nat) (h : a < 9223372036854775808) : IN a = I64 (BitVec.ofNat 64 a) := by
  show Value.int .i64 (a : Int) = Value.int .i64 (BitVec.ofNat 64 a).toInt
  rw [BitVec.toInt_eq_toNat_cond, BitVec.toNat_ofNat, Nat.mod_eq_of_lt (by omega), if_pos (by omega)]
theorem BinR.shl8 {a : Nat} {yk : IntKind} (h : a < 281474976710656) : BinR P .shl t (IN a) (.int yk 8) (IN (a * 256)) := by
  have h1 := BinR.shl64 (P := P) (t := t) (x := BitVec.ofNat 64 a) (yk := yk) (s := 8)
  rw [← IN_I64 a (by omega)] at h1
  have e : BitVec.ofNat 64 a <<< 8 = BitVec.ofNat 64 (a * 256) := by
    apply BitVec.eq_of_toNat_eq
    rw [BitVec.toNat_shiftLeft, BitVec.toNat_ofNat, BitVec.toNat_ofNat, Nat.mod_eq_of_lt (a := a) (by omega), Nat.shiftLeft_eq]
  rw [e, ← IN_I64 _ (by omega)] at h1
  exact h1
theorem BinR.orN {a b : Nat} (h : a < 281474976710656) (hb : b < 256) : BinR P .or t (IN (a * 256)) (IN b) (IN (a * 256 + b)) := by
  have h1 := BinR.or64 (P := P) (t := t) (x := BitVec.ofNat 64 (a * 256)) (y := BitVec.ofNat 64 b)
  rw [← IN_I64 _ (by omega), ← IN_I64 _ (by omega)] at h1
  have e : BitVec.ofNat 64 (a * 256) ||| BitVec.ofNat 64 b = BitVec.ofNat 64 (a * 256 + b) := by
    apply BitVec.eq_of_toNat_eq
    rw [BitVec.toNat_or, BitVec.toNat_ofNat, BitVec.toNat_ofNat, BitVec.toNat_ofNat, Nat.mod_eq_of_lt (by omega), Nat.mod_eq_of_lt (by omega), Nat.mod_eq_of_lt (by omega)]
    have := Nat.two_pow_add_eq_or_of_lt (i := 8) (b := b) (by simpa using hb) a
    rw [Nat.mul_comm]
    exact this.symm
  rw [e, ← IN_I64 _ (by omega)] at h1
  exact h1
end Go.Ux
