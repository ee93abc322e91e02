/- More plain facts on words: signed quotients, moves, what each operation makes. -/
import Derived.Test.YtgjhmdnbpnpkaaaDoorWordPure
namespace Go.Ux.Word

theorem slt0 (x : BitVec 64) : x.slt 0#64 = x.msb := by simp [BitVec.slt_zero_eq_msb]
def absW (x : BitVec 64) : BitVec 64 := bif x.slt 0#64 then -x else x
theorem signed_fin (x y : BitVec 64) : x.sdiv y = (bif x.slt 0#64 != y.slt 0#64 then -(absW x / absW y) else absW x / absW y) ∧ x.srem y = (bif x.slt 0#64 then -(absW x % absW y) else absW x % absW y) := by
  unfold absW
  rw [slt0, slt0]
  simp only [BitVec.sdiv, BitVec.srem]
  cases hx : x.msb <;> cases hy : y.msb <;> simp [BitVec.udiv_eq]
theorem abs_ne (y : BitVec 64) (h : y ≠ 0#64) : absW y ≠ 0#64 := by
  unfold absW
  cases y.slt 0#64
  · exact h
  · intro e; exact h (by simpa using e)

/-- One bit of what is moved. -/
def mvBit (x : BitVec 64) (up fb : Bool) (s i : Nat) : Bool :=
  if up then (if i < s then false else x.getLsbD (i - s)) else (if i + s < 64 then x.getLsbD (i + s) else fb)
def mvW (x : BitVec 64) (up fb : Bool) (s : Nat) : BitVec 64 := if up then x <<< s else if fb then ~~~((~~~x) >>> s) else x >>> s
theorem mvW_bit (x : BitVec 64) (up fb : Bool) (s i : Nat) (hi : i < 64) : (mvW x up fb s).getLsbD i = mvBit x up fb s i := by
  unfold mvW mvBit
  cases up
  · cases fb
    · simp only [Bool.false_eq_true, if_false, BitVec.getLsbD_ushiftRight]
      split
      · rw [Nat.add_comm]
      · exact BitVec.getLsbD_of_ge x _ (by omega)
    · simp only [Bool.false_eq_true, if_false, if_true, BitVec.getLsbD_not, BitVec.getLsbD_ushiftRight, hi, decide_true, Bool.true_and]
      split
      · rename_i h; simp [show s + i < 64 by omega, Nat.add_comm]
      · rename_i h; simp [show ¬ s + i < 64 by omega]
  · simp only [if_true, BitVec.getLsbD_shiftLeft, hi, decide_true, Bool.true_and]
    split
    · rename_i h; simp [h]
    · rename_i h; simp [h]
def b01 (b : Bool) : BitVec 64 := if b then 1#64 else 0#64
theorem bitU_b01 (x : BitVec 64) (j : Nat) : bitU x j = b01 (x.getLsbD j) := bitU_eq x j
theorem mv_bit (x : BitVec 64) (up fb : Bool) (s i : Nat) (hi : i < 64) : bitU (mvW x up fb s) i = b01 (mvBit x up fb s i) := by rw [bitU_eq, mvW_bit _ _ _ _ _ hi]; rfl
theorem mv_sar (x : BitVec 64) (s : Nat) : mvW x false (x.getLsbD 63) s = x.sshiftRight s := by
  have hm : x.getLsbD 63 = x.msb := by rw [BitVec.msb_eq_getLsbD_last]
  apply BitVec.eq_of_getLsbD_eq
  intro i hi
  rw [mvW_bit _ _ _ _ _ hi, BitVec.getLsbD_sshiftRight, hm]
  simp only [mvBit, Bool.false_eq_true, if_false, show ¬ 64 ≤ i by omega, decide_false, Bool.not_false, Bool.true_and]
  split
  · rw [if_pos (by omega), Nat.add_comm]
  · rw [if_neg (by omega)]

/-- 1 of what is so. -/
def oneW (b : Bool) : BitVec 64 := if b then 1#64 else 0#64
theorem neg_eq (x : BitVec 64) : ~~~x + 1#64 = -x := (BitVec.neg_eq_not_add x).symm
theorem div64 (x y : BitVec 64) : x.toNat / 2 ^ 64 = y.toNat / 2 ^ 64 := by rw [Nat.div_eq_of_lt x.isLt, Nat.div_eq_of_lt y.isLt]
/-- The lowest six bits. -/
def six (y : BitVec 64) : Nat := (y &&& 63#64).toNat
theorem six_lt (y : BitVec 64) : six y < 64 := by
  unfold six; rw [BitVec.toNat_and]
  exact Nat.lt_of_le_of_lt Nat.and_le_right (by decide)
theorem six_int (y : BitVec 64) : (y &&& 63#64).toInt = ((y &&& 63#64).toNat : Int) := by
  have := six_lt y
  unfold six at this
  rw [BitVec.toInt_eq_toNat_of_msb]
  rw [BitVec.msb_eq_decide, decide_eq_false_iff_not]; omega

def minusOne : BitVec 64 := BitVec.ofInt 64 (-1)
/-- What an operation makes: P1.2. -/
def opW (n : Nat) (x y : BitVec 64) : BitVec 64 :=
  match n with
  | 1 => x + y
  | 2 => x - y
  | 3 => x * y
  | 4 => if y = 0#64 then minusOne else x.sdiv y
  | 5 => if y = 0#64 then x else x.srem y
  | 6 => if y = 0#64 then minusOne else x / y
  | 7 => if y = 0#64 then x else x % y
  | 8 => x &&& y
  | 9 => x ||| y
  | 10 => x ^^^ y
  | 11 => x <<< six y
  | 12 => x >>> six y
  | 13 => x.sshiftRight (six y)
  | 14 => oneW (x.slt y)
  | 15 => oneW (x.ult y)
  | 16 => oneW (x == y)
  | _ => 0#64
theorem opW_none (n : Nat) (h : n = 0 ∨ 16 < n) (x y : BitVec 64) : opW n x y = 0#64 := by
  unfold opW; split <;> first | rfl | omega

def lowestW : BitVec 64 := BitVec.ofInt 64 (-9223372036854775808)
theorem xor_low (x : BitVec 64) : x ^^^ BitVec.intMin 64 = x + BitVec.intMin 64 := by
  have key : ∀ z : BitVec 64, z.msb = false → z ^^^ BitVec.intMin 64 = z + BitVec.intMin 64 := by
    intro z hz
    have h : z &&& BitVec.intMin 64 = 0#64 := by
      apply BitVec.eq_of_getLsbD_eq
      intro i hi
      rw [BitVec.getLsbD_and, BitVec.getLsbD_intMin]
      by_cases h63 : i = 63
      · subst h63
        have : z.getLsbD 63 = z.msb := by rw [BitVec.msb_eq_getLsbD_last]
        rw [this, hz]; simp
      · simp [show ¬ i + 1 = 64 by omega]
    rw [BitVec.add_eq_or_of_and_eq_zero _ _ h]
    apply BitVec.eq_of_getLsbD_eq
    intro i hi
    have hb : (z &&& BitVec.intMin 64).getLsbD i = false := by rw [h, BitVec.getLsbD_zero]
    rw [BitVec.getLsbD_and] at hb
    rw [BitVec.getLsbD_xor, BitVec.getLsbD_or]
    generalize z.getLsbD i = p at hb ⊢
    generalize (BitVec.intMin 64).getLsbD i = q at hb ⊢
    cases p <;> cases q <;> first | rfl | cases hb
  cases hx : x.msb
  · exact key x hx
  · have h2 := key (x ^^^ BitVec.intMin 64) (by rw [BitVec.msb_xor, hx]; decide)
    rw [BitVec.xor_assoc, BitVec.xor_self, BitVec.xor_zero] at h2
    have h3 : BitVec.intMin 64 + BitVec.intMin 64 = 0#64 := by decide
    calc x ^^^ BitVec.intMin 64 = (x ^^^ BitVec.intMin 64) + (BitVec.intMin 64 + BitVec.intMin 64) := by rw [h3, BitVec.add_zero]
      _ = x + BitVec.intMin 64 := by rw [← BitVec.add_assoc, ← h2]
theorem slt_ult (x y : BitVec 64) : (x ^^^ lowestW).ult (y ^^^ lowestW) = x.slt y := by
  have h : lowestW = BitVec.intMin 64 := by decide
  have hn : ∀ z : BitVec 64, ((z + BitVec.intMin 64).toNat : Int) = z.toInt + 2 ^ 63 := by
    intro z
    have := z.isLt
    rw [BitVec.toNat_add, BitVec.toInt_eq_toNat_cond]
    have hm : (BitVec.intMin 64).toNat = 2 ^ 63 := by decide
    rw [hm]
    split <;> omega
  have h1 := hn x
  have h2 := hn y
  rw [h, xor_low, xor_low, BitVec.slt_eq_decide, BitVec.ult, decide_eq_decide]
  omega
theorem sdiv_minus (x : BitVec 64) : x.sdiv minusOne = -x := by
  have h : minusOne.msb = true := by decide
  have h2 : -minusOne = 1#64 := by decide
  simp only [BitVec.sdiv, h]
  cases x.msb <;> simp [h2, BitVec.udiv_eq]
theorem srem_minus (x : BitVec 64) : x.srem minusOne = 0#64 := by
  have h : minusOne.msb = true := by decide
  have h2 : -minusOne = 1#64 := by decide
  simp only [BitVec.srem, h]
  cases x.msb <;> simp [h2]
def knownW (n : Nat) : Bool := match n with | 0 => false | 1 | 2 | 3 | 4 | 5 | 6 | 7 | 8 | 9 | 10 | 11 | 12 | 13 | 14 | 15 | 16 => true | _ => false
def swapsW (n : Nat) : Bool := match n with | 1 | 3 | 8 | 9 | 10 | 16 => true | _ => false
def groupsW (n : Nat) : Bool := match n with | 1 | 3 | 8 | 9 | 10 => true | _ => false
def keepsW (n : Nat) : BitVec 64 × Bool := match n with | 1 | 2 | 9 | 10 | 11 | 12 | 13 | 5 | 7 => (0#64, true) | 3 | 4 | 6 => (1#64, true) | 8 => (minusOne, true) | _ => (0#64, false)
theorem knownW_none (n : Nat) (h : n = 0 ∨ 16 < n) : knownW n = false := by unfold knownW; split <;> first | rfl | omega
theorem swapsW_none (n : Nat) (h : n = 0 ∨ 16 < n) : swapsW n = false := by unfold swapsW; split <;> first | rfl | omega
theorem groupsW_none (n : Nat) (h : n = 0 ∨ 16 < n) : groupsW n = false := by unfold groupsW; split <;> first | rfl | omega
theorem keepsW_none (n : Nat) (h : n = 0 ∨ 16 < n) : keepsW n = (0#64, false) := by unfold keepsW; split <;> first | rfl | omega
end Go.Ux.Word
