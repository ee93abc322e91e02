/- The upper half of a product. No program in sight. -/
import Derived.Test.YtgjhmdnbpnpkaaaDoorWordPop
namespace Go.Ux.Word

def highU (x y : BitVec 64) : BitVec 64 := BitVec.ofNat 64 (x.toNat * y.toNat / 2 ^ 64)
def highW (x y : BitVec 64) (first second : Bool) : BitVec 64 :=
  highU x y - (bif first && x.slt 0#64 then y else 0#64) - (bif second && y.slt 0#64 then x else 0#64)

def m32 : BitVec 64 := 4294967295#64
def hiF (x y : BitVec 64) : BitVec 64 :=
  let w0 := (x &&& m32) * (y &&& m32)
  let t := (x >>> 32) * (y &&& m32) + w0 >>> 32
  ((x >>> 32) * (y >>> 32) + t >>> 32) + ((t &&& m32) + (x &&& m32) * (y >>> 32)) >>> 32

theorem m32_and (x : BitVec 64) : (x &&& m32).toNat = x.toNat % 4294967296 := by
  rw [BitVec.toNat_and]
  have : m32.toNat = 2 ^ 32 - 1 := rfl
  rw [this, Nat.and_two_pow_sub_one_eq_mod]
theorem shr32 (x : BitVec 64) : (x >>> 32).toNat = x.toNat / 4294967296 := by
  rw [BitVec.toNat_ushiftRight, Nat.shiftRight_eq_div_pow]
theorem prod_lt (a b : Nat) (ha : a ≤ 4294967295) (hb : b ≤ 4294967295) : a * b ≤ 18446744065119617025 := by
  have := Nat.mul_le_mul ha hb; simpa using this
theorem hi_arith (p00 p10 p01 p11 : Nat) (h0 : p00 ≤ 18446744065119617025) (h1 : p10 ≤ 18446744065119617025) :
    (p00 + 4294967296 * (p10 + p01) + 18446744073709551616 * p11) / 18446744073709551616 = p11 + (p10 + p00 / 4294967296) / 4294967296 + ((p10 + p00 / 4294967296) % 4294967296 + p01) / 4294967296 := by omega
theorem prod_parts (a b c d : Nat) : (a + 4294967296 * b) * (c + 4294967296 * d) = a * c + 4294967296 * (b * c + a * d) + 18446744073709551616 * (b * d) := by
  have e : 18446744073709551616 = 4294967296 * 4294967296 := rfl
  rw [e]
  simp only [Nat.add_mul, Nat.mul_add, Nat.mul_assoc]
  have e1 : a * (4294967296 * d) = 4294967296 * (a * d) := by rw [Nat.mul_left_comm]
  have e2 : b * (4294967296 * d) = 4294967296 * (b * d) := by rw [Nat.mul_left_comm]
  rw [e1, e2]; omega
theorem mod_split (n : Nat) : n = n % 4294967296 + 4294967296 * (n / 4294967296) := by omega
theorem hi_eq (x y : BitVec 64) : hiF x y = highU x y := by
  have hx := x.isLt
  have hy := y.isLt
  obtain ⟨x0, hx0⟩ : ∃ n, n = x.toNat % 4294967296 := ⟨_, rfl⟩
  obtain ⟨x1, hx1⟩ : ∃ n, n = x.toNat / 4294967296 := ⟨_, rfl⟩
  obtain ⟨y0, hy0⟩ : ∃ n, n = y.toNat % 4294967296 := ⟨_, rfl⟩
  obtain ⟨y1, hy1⟩ : ∃ n, n = y.toNat / 4294967296 := ⟨_, rfl⟩
  have b1 : x0 ≤ 4294967295 := by omega
  have b2 : x1 ≤ 4294967295 := by omega
  have b3 : y0 ≤ 4294967295 := by omega
  have b4 : y1 ≤ 4294967295 := by omega
  have ex : x.toNat = x0 + 4294967296 * x1 := by omega
  have ey : y.toNat = y0 + 4294967296 * y1 := by omega
  have p00 := prod_lt x0 y0 b1 b3
  have p10 := prod_lt x1 y0 b2 b3
  have p01 := prod_lt x0 y1 b1 b4
  have p11 := prod_lt x1 y1 b2 b4
  have hA : x.toNat * y.toNat = x0 * y0 + 4294967296 * (x1 * y0 + x0 * y1) + 18446744073709551616 * (x1 * y1) := by rw [ex, ey, prod_parts]
  have hB := hi_arith (x0 * y0) (x1 * y0) (x0 * y1) (x1 * y1) p00 p10
  rw [← hA] at hB
  have w0 : ((x &&& m32) * (y &&& m32)).toNat = x0 * y0 := by rw [BitVec.toNat_mul, m32_and, m32_and, ← hx0, ← hy0]; exact Nat.mod_eq_of_lt (by omega)
  have q10 : ((x >>> 32) * (y &&& m32)).toNat = x1 * y0 := by rw [BitVec.toNat_mul, shr32, m32_and, ← hx1, ← hy0]; exact Nat.mod_eq_of_lt (by omega)
  have q01 : ((x &&& m32) * (y >>> 32)).toNat = x0 * y1 := by rw [BitVec.toNat_mul, shr32, m32_and, ← hx0, ← hy1]; exact Nat.mod_eq_of_lt (by omega)
  have q11 : ((x >>> 32) * (y >>> 32)).toNat = x1 * y1 := by rw [BitVec.toNat_mul, shr32, shr32, ← hx1, ← hy1]; exact Nat.mod_eq_of_lt (by omega)
  have ht : ((x >>> 32) * (y &&& m32) + ((x &&& m32) * (y &&& m32)) >>> 32).toNat = x1 * y0 + (x0 * y0) / 4294967296 := by
    rw [BitVec.toNat_add, q10, shr32, w0]; exact Nat.mod_eq_of_lt (by omega)
  apply BitVec.eq_of_toNat_eq
  unfold hiF highU
  have hp : x.toNat * y.toNat / 2 ^ 64 < 2 ^ 64 := by
    apply Nat.div_lt_of_lt_mul
    exact Nat.mul_lt_mul_of_lt_of_lt hx hy
  simp only []
  rw [BitVec.toNat_ofNat, Nat.mod_eq_of_lt hp]
  have hw1 : (((x >>> 32) * (y &&& m32) + ((x &&& m32) * (y &&& m32)) >>> 32) &&& m32).toNat + ((x &&& m32) * (y >>> 32)).toNat = (x1 * y0 + (x0 * y0) / 4294967296) % 4294967296 + x0 * y1 := by rw [m32_and, ht, q01]
  have hw2 : ((((x >>> 32) * (y &&& m32) + ((x &&& m32) * (y &&& m32)) >>> 32) &&& m32) + ((x &&& m32) * (y >>> 32))).toNat = (x1 * y0 + (x0 * y0) / 4294967296) % 4294967296 + x0 * y1 := by
    rw [BitVec.toNat_add, hw1]; exact Nat.mod_eq_of_lt (by omega)
  have hs : ((x >>> 32) * (y >>> 32) + ((x >>> 32) * (y &&& m32) + ((x &&& m32) * (y &&& m32)) >>> 32) >>> 32).toNat = x1 * y1 + (x1 * y0 + (x0 * y0) / 4294967296) / 4294967296 := by
    rw [BitVec.toNat_add, q11, shr32, ht]; exact Nat.mod_eq_of_lt (by omega)
  rw [BitVec.toNat_add, hs, shr32, hw2]
  rw [show (2 : Nat) ^ 64 = 18446744073709551616 from rfl, hB]
  rw [show (2 : Nat) ^ 64 = 18446744073709551616 from rfl, hB] at hp
  exact Nat.mod_eq_of_lt hp

/-! ### bit by bit -/
structure HighAt (x y h l : BitVec 64) (k : Nat) : Prop where
  eq : h.toNat * 18446744073709551616 + l.toNat = x.toNat * (y.toNat % 2 ^ k)
theorem high_start (x y : BitVec 64) : HighAt x y 0#64 0#64 0 := ⟨by simp [Nat.mod_one]⟩
theorem high_end (x y h l : BitVec 64) (e : HighAt x y h l 64) : h = highU x y := by
  have h1 := e.eq
  rw [Nat.mod_eq_of_lt (show y.toNat < 2 ^ 64 from y.isLt)] at h1
  apply BitVec.eq_of_toNat_eq
  have hl : l.toNat < 18446744073709551616 := l.isLt
  have hh : h.toNat < 18446744073709551616 := h.isLt
  unfold highU
  rw [BitVec.toNat_ofNat, show (2 : Nat) ^ 64 = 18446744073709551616 from rfl, ← h1]
  have : (h.toNat * 18446744073709551616 + l.toNat) / 18446744073709551616 = h.toNat := by rw [Nat.mul_comm, Nat.mul_add_div (by decide), Nat.div_eq_of_lt hl]; rfl
  rw [this, Nat.mod_eq_of_lt hh]
theorem mod_succ_bit (n k : Nat) : n % 2 ^ (k + 1) = n % 2 ^ k + 2 ^ k * (n.testBit k).toNat := by
  have h2 : (n.testBit k).toNat = (n / 2 ^ k) % 2 := by rw [Nat.testBit_eq_decide_div_mod_eq]; rcases Nat.mod_two_eq_zero_or_one (n / 2 ^ k) with e | e <;> simp [e]
  rw [Nat.pow_succ, Nat.mod_mul, h2]
theorem high_skip (x y h l : BitVec 64) (k : Nat) (e : HighAt x y h l k) (hb : y.getLsbD k = false) : HighAt x y h l (k + 1) := by
  refine ⟨?_⟩
  rw [mod_succ_bit, show y.toNat.testBit k = y.getLsbD k from rfl, hb, e.eq]; simp
/-- What is carried up of x moved by k. -/
def upW (x : BitVec 64) (k : Nat) : BitVec 64 := if 0 < k then x >>> (64 - k) else 0#64
theorem up_part (x : BitVec 64) (k : Nat) (hk : k < 64) : x.toNat * 2 ^ k = (upW x k).toNat * 18446744073709551616 + (x <<< k).toNat := by
  rw [BitVec.toNat_shiftLeft, Nat.shiftLeft_eq, show (2 : Nat) ^ 64 = 18446744073709551616 from rfl]
  unfold upW
  split
  · rename_i h
    rw [BitVec.toNat_ushiftRight, Nat.shiftRight_eq_div_pow]
    have e : (18446744073709551616 : Nat) = 2 ^ (64 - k) * 2 ^ k := by rw [← Nat.pow_add, show 64 - k + k = 64 by omega]
    have h2 : x.toNat * 2 ^ k / 18446744073709551616 = x.toNat / 2 ^ (64 - k) := by rw [e]; exact Nat.mul_div_mul_right _ _ (Nat.two_pow_pos k)
    rw [← h2, Nat.mul_comm (x.toNat * 2 ^ k / 18446744073709551616)]
    exact (Nat.div_add_mod (x.toNat * 2 ^ k) (18446744073709551616)).symm
  · have : k = 0 := by omega
    subst this
    have : x.toNat < 18446744073709551616 := x.isLt
    simp; omega
theorem carry_yes (z u q p : Nat) (hq : q < 18446744073709551616) (hp : p < 18446744073709551616) (hlt : (z + u) * 18446744073709551616 + (q + p) < 18446744073709551616 * 18446744073709551616) (hc : (q + p) % 18446744073709551616 < q) :
    (z + (u + 1) % 18446744073709551616) % 18446744073709551616 * 18446744073709551616 + (q + p) % 18446744073709551616 = (z + u) * 18446744073709551616 + (q + p) := by omega
theorem carry_no (z u q p : Nat) (hq : q < 18446744073709551616) (hp : p < 18446744073709551616) (hlt : (z + u) * 18446744073709551616 + (q + p) < 18446744073709551616 * 18446744073709551616) (hc : ¬ (q + p) % 18446744073709551616 < q) :
    (z + u) % 18446744073709551616 * 18446744073709551616 + (q + p) % 18446744073709551616 = (z + u) * 18446744073709551616 + (q + p) := by omega
theorem high_step (x y h l : BitVec 64) (k : Nat) (hk : k < 64) (e : HighAt x y h l k) (hb : y.getLsbD k = true) :
    ((l + x <<< k).ult l = true → HighAt x y (h + (upW x k + 1#64)) (l + x <<< k) (k + 1)) ∧ ((l + x <<< k).ult l = false → HighAt x y (h + upW x k) (l + x <<< k) (k + 1)) := by
  have h1 := e.eq
  have hu := up_part x k hk
  have hx : x.toNat < 18446744073709551616 := x.isLt
  have hm : y.toNat % 2 ^ (k + 1) = y.toNat % 2 ^ k + 2 ^ k := by rw [mod_succ_bit, show y.toNat.testBit k = y.getLsbD k from rfl, hb]; simp
  have htot : x.toNat * (y.toNat % 2 ^ (k + 1)) = (h.toNat + (upW x k).toNat) * 18446744073709551616 + (l.toNat + (x <<< k).toNat) := by
    rw [hm, Nat.mul_add, ← h1, hu, Nat.add_mul, Nat.add_add_add_comm]
  have hlt : x.toNat * (y.toNat % 2 ^ (k + 1)) < 18446744073709551616 * 18446744073709551616 := by
    have h2 : y.toNat % 2 ^ (k + 1) < 18446744073709551616 := Nat.lt_of_lt_of_le (Nat.mod_lt _ (Nat.two_pow_pos _)) (show 2 ^ (k + 1) ≤ 2 ^ 64 from Nat.pow_le_pow_right (by decide) (by omega))
    exact Nat.mul_lt_mul_of_lt_of_lt hx h2
  have hl : l.toNat < 18446744073709551616 := l.isLt
  have hp : (x <<< k).toNat < 18446744073709551616 := (x <<< k).isLt
  have hsum : (l + x <<< k).toNat = (l.toNat + (x <<< k).toNat) % 18446744073709551616 := BitVec.toNat_add _ _
  generalize (x <<< k).toNat = p at *
  rw [htot] at hlt
  constructor
  · intro hc
    simp only [BitVec.ult, decide_eq_true_eq, hsum] at hc
    refine ⟨?_⟩
    rw [htot, BitVec.toNat_add, BitVec.toNat_add, hsum, show (2 : Nat) ^ 64 = 18446744073709551616 from rfl]
    exact carry_yes _ _ _ _ hl hp hlt hc
  · intro hc
    simp only [BitVec.ult, decide_eq_false_iff_not, hsum] at hc
    refine ⟨?_⟩
    rw [htot, BitVec.toNat_add, hsum, show (2 : Nat) ^ 64 = 18446744073709551616 from rfl]
    exact carry_no _ _ _ _ hl hp hlt hc
end Go.Ux.Word
