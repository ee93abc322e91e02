/- Plain facts on words of 64 bits: no program in sight. -/
import Derived.Lib.Hide
namespace Go.Ux.Word

def bitU (x : BitVec 64) (j : Nat) : BitVec 64 := (x >>> j) &&& 1#64
theorem bitU_eq (x : BitVec 64) (j : Nat) : bitU x j = if x.getLsbD j then 1#64 else 0#64 := by
  apply BitVec.eq_of_getLsbD_eq
  intro i hi
  simp only [bitU, BitVec.getLsbD_and, BitVec.getLsbD_ushiftRight]
  by_cases h0 : i = 0
  · subst h0; cases x.getLsbD j <;> simp
  · have h1 : (1#64).getLsbD i = false := by rw [BitVec.getLsbD_one]; simp [h0]
    rw [h1]; split <;> simp [h1]
/-- The lower j bits. -/
def low (r : BitVec 64) (j : Nat) : BitVec 64 := BitVec.ofNat 64 (r.toNat % 2 ^ j)
theorem low_getLsbD (r : BitVec 64) (j i : Nat) (hi : i < 64) : (low r j).getLsbD i = (decide (i < j) && r.getLsbD i) := by
  rw [low, BitVec.getLsbD_ofNat, Nat.testBit_mod_two_pow]; simp [hi, BitVec.getLsbD]
theorem low_zero (r : BitVec 64) : low r 0 = 0#64 := by simp [low, Nat.mod_one]
theorem low_all (r : BitVec 64) : low r 64 = r := by
  apply BitVec.eq_of_toNat_eq; have := r.isLt; simp [low]; omega
theorem getLsbD_bit_shl (b : Bool) (j i : Nat) (hi : i < 64) : ((if b then 1#64 else 0#64) <<< j).getLsbD i = (decide (i = j) && b) := by
  rw [BitVec.getLsbD_shiftLeft]
  cases b
  · simp
  · simp only [if_true, BitVec.getLsbD_one, hi, decide_true, Bool.true_and, Bool.and_true]
    by_cases h : i < j
    · simp [h]; omega
    · have : decide (i - j = 0) = decide (i = j) := by rw [decide_eq_decide]; omega
      simp [h, this]; 
theorem low_step (r : BitVec 64) (j : Nat) : low r j ||| (bitU r j) <<< j = low r (j + 1) := by
  apply BitVec.eq_of_getLsbD_eq
  intro i hi
  rw [BitVec.getLsbD_or, low_getLsbD _ _ _ hi, low_getLsbD _ _ _ hi, bitU_eq, getLsbD_bit_shl _ _ _ hi]
  by_cases h1 : i < j
  · simp [h1, show i < j + 1 by omega, show ¬ i = j by omega]
  · by_cases h2 : i = j
    · subst h2; simp
    · simp [h1, h2, show ¬ i < j + 1 by omega]

def carU (x y : BitVec 64) (j : Nat) : BitVec 64 := if BitVec.carry j x y false then 1#64 else 0#64
theorem car_zero (x y : BitVec 64) : carU x y 0 = 0#64 := by simp [carU, BitVec.carry_zero]
theorem add_step (x y : BitVec 64) (j : Nat) (h : j < 64) :
    (bitU x j + bitU y j + carU x y j) &&& 1#64 = bitU (x + y) j ∧ (bitU x j + bitU y j + carU x y j) >>> 1 = carU x y (j + 1) := by
  rw [bitU_eq, bitU_eq, bitU_eq, carU, carU, BitVec.carry_succ, BitVec.getLsbD_add h]
  cases x.getLsbD j <;> cases y.getLsbD j <;> cases BitVec.carry j x y false <;> decide

theorem low_succ_add (y : BitVec 64) (j : Nat) : low y (j + 1) = low y j + (if y.getLsbD j then 1#64 <<< j else 0#64) := by
  have h1 := low_step y j
  rw [bitU_eq] at h1
  rw [← h1]
  have hz : low y j &&& ((if y.getLsbD j = true then 1#64 else 0#64) <<< j) = 0#64 := by
    apply BitVec.eq_of_getLsbD_eq
    intro i hi
    rw [BitVec.getLsbD_and, low_getLsbD _ _ _ hi, getLsbD_bit_shl _ _ _ hi]
    by_cases h : i < j
    · simp [show ¬ i = j by omega]
    · simp [h]
  rw [← BitVec.add_eq_or_of_and_eq_zero _ _ hz]
  split <;> simp
theorem mul_step (x y : BitVec 64) (j : Nat) : x * low y (j + 1) = if y.getLsbD j then x * low y j + x <<< j else x * low y j := by
  rw [low_succ_add]
  split
  · rw [BitVec.mul_add, BitVec.shiftLeft_eq_mul_twoPow x j, ← BitVec.twoPow_eq]; 
  · simp
theorem bit_one (x : BitVec 64) (j : Nat) : (bitU x j == 1#64) = x.getLsbD j := by
  rw [bitU_eq]; cases x.getLsbD j <;> decide
theorem bit_ne (x y : BitVec 64) (j : Nat) : (bitU x j != bitU y j) = (x.getLsbD j != y.getLsbD j) := by
  rw [bitU_eq, bitU_eq]; cases x.getLsbD j <;> cases y.getLsbD j <;> decide

/-! ### below -/
theorem div_bit (n j : Nat) : n / 2 ^ j = 2 * (n / 2 ^ (j + 1)) + (n.testBit j).toNat := by
  have h : n / 2 ^ (j + 1) = n / 2 ^ j / 2 := by rw [Nat.div_div_eq_div_mul, Nat.pow_succ]
  have h2 : (n.testBit j).toNat = (n / 2 ^ j) % 2 := by rw [Nat.testBit_eq_decide_div_mod_eq]; rcases Nat.mod_two_eq_zero_or_one (n / 2 ^ j) with e | e <;> simp [e]
  rw [h, h2]; omega
theorem below_step (x y : BitVec 64) (j : Nat) (h : x.toNat / 2 ^ (j + 1) = y.toNat / 2 ^ (j + 1)) :
    (x.getLsbD j = y.getLsbD j → x.toNat / 2 ^ j = y.toNat / 2 ^ j) ∧ (x.getLsbD j ≠ y.getLsbD j → x.ult y = y.getLsbD j) := by
  have hx := div_bit x.toNat j
  have hy := div_bit y.toNat j
  rw [show x.toNat.testBit j = x.getLsbD j from rfl] at hx
  rw [show y.toNat.testBit j = y.getLsbD j from rfl] at hy
  refine ⟨fun e => by rw [hx, hy, h, e], fun hne => ?_⟩
  have hlt : ∀ a b : Nat, a / 2 ^ j < b / 2 ^ j → a < b := fun a b hab => Nat.lt_of_not_le fun hle => by have := Nat.div_le_div_right (c := 2 ^ j) hle; omega
  cases hxb : x.getLsbD j <;> cases hyb : y.getLsbD j
  · rw [hxb, hyb] at hne; exact (hne rfl).elim
  · rw [hxb] at hx; rw [hyb] at hy
    simp only [BitVec.ult, decide_eq_true_eq]
    exact hlt _ _ (by simp at hx hy; omega)
  · rw [hxb] at hx; rw [hyb] at hy
    simp only [BitVec.ult, decide_eq_false_iff_not]
    have := hlt y.toNat x.toNat (by simp at hx hy; omega)
    omega
  · rw [hxb, hyb] at hne; exact (hne rfl).elim
theorem below_end (x y : BitVec 64) (h : x.toNat / 2 ^ 0 = y.toNat / 2 ^ 0) : x.ult y = false := by
  simp at h; simp [BitVec.ult, h]

/-! ### divide -/
theorem shl1_or (r : BitVec 64) (b : Bool) : ((r <<< 1) ||| (if b then 1#64 else 0#64)).toNat = (2 * r.toNat + b.toNat) % 2 ^ 64 := by
  have h : (r <<< 1) &&& (if b then 1#64 else 0#64) = 0#64 := by
    apply BitVec.eq_of_getLsbD_eq
    intro i hi
    rw [BitVec.getLsbD_and, BitVec.getLsbD_shiftLeft]
    cases b
    · simp
    · by_cases h0 : i < 1
      · simp [h0]
      · simp [show i ≠ 0 by omega]
  rw [← BitVec.add_eq_or_of_and_eq_zero _ _ h, BitVec.toNat_add, BitVec.toNat_shiftLeft]
  cases b <;> simp [Nat.shiftLeft_eq] <;> omega
/-- After the upper bits down to number m: quotient and rest of what was seen. -/
structure DivAt (a b q r : BitVec 64) (m : Nat) : Prop where
  eq : a.toNat / 2 ^ m = (q.toNat / 2 ^ m) * b.toNat + r.toNat
  lt : r.toNat < b.toNat
  up : q.toNat % 2 ^ m = 0
theorem div_start (a b : BitVec 64) (hb : b ≠ 0#64) : DivAt a b 0#64 0#64 64 := by
  have := a.isLt
  refine ⟨?_, ?_, by simp⟩
  · simp; omega
  · have h : b.toNat ≠ 0 := fun e => hb (BitVec.eq_of_toNat_eq (by simpa using e))
    simp; omega
theorem div_end (a b q r : BitVec 64) (h : DivAt a b q r 0) : q = a / b ∧ r = a % b := by
  obtain ⟨h1, h2, _⟩ := h
  simp only [Nat.pow_zero, Nat.div_one] at h1
  have hb : 0 < b.toNat := by omega
  constructor
  · apply BitVec.eq_of_toNat_eq; rw [BitVec.toNat_udiv, h1]
    rw [Nat.mul_comm, Nat.mul_add_div hb, Nat.div_eq_of_lt h2]; rfl
  · apply BitVec.eq_of_toNat_eq; rw [BitVec.toNat_umod, h1, Nat.mul_comm, Nat.mul_add_mod, Nat.mod_eq_of_lt h2]
theorem q_or (q : BitVec 64) (m : Nat) (hm : m < 64) (h : q.toNat % 2 ^ (m + 1) = 0) : (q ||| 1#64 <<< m).toNat = q.toNat + 2 ^ m := by
  have hz : q &&& (1#64 <<< m) = 0#64 := by
    apply BitVec.eq_of_getLsbD_eq
    intro i hi
    rw [BitVec.getLsbD_and]
    have e := getLsbD_bit_shl true m i hi
    simp only [if_true, Bool.and_true] at e
    rw [e]
    by_cases hi2 : i = m
    · subst hi2
      have : q.getLsbD i = false := by
        have h3 : (q.toNat % 2 ^ (i + 1)).testBit i = q.toNat.testBit i := by rw [Nat.testBit_mod_two_pow]; simp
        rw [h] at h3; simpa [BitVec.getLsbD] using h3.symm
      simp [this]
    · simp [hi2]
  rw [← BitVec.add_eq_or_of_and_eq_zero _ _ hz, BitVec.toNat_add, BitVec.toNat_shiftLeft]
  have h1 : (1#64).toNat <<< m % 2 ^ 64 = 2 ^ m := by
    rw [Nat.shiftLeft_eq]; simp only [BitVec.toNat_ofNat]
    have : 2 ^ m < 2 ^ 64 := Nat.pow_lt_pow_right (by decide) hm
    simp [Nat.mod_eq_of_lt this]
  rw [h1, Nat.mod_eq_of_lt]
  have hq := q.isLt
  have h4 : (2 : Nat) ^ 64 = 2 ^ (m + 1) * 2 ^ (63 - m) := by rw [← Nat.pow_add]; congr 1; omega
  have h5 : q.toNat = 2 ^ (m + 1) * (q.toNat / 2 ^ (m + 1)) := by have := Nat.div_add_mod q.toNat (2 ^ (m + 1)); omega
  have h6 : q.toNat / 2 ^ (m + 1) + 1 ≤ 2 ^ (63 - m) := by
    rw [h4] at hq
    exact Nat.div_lt_of_lt_mul hq
  have h7 : 2 ^ (m + 1) * (q.toNat / 2 ^ (m + 1) + 1) ≤ 2 ^ (m + 1) * 2 ^ (63 - m) := Nat.mul_le_mul_left _ h6
  rw [← h4, Nat.mul_add, ← h5] at h7
  have h8 : 2 ^ m < 2 ^ (m + 1) := Nat.pow_lt_pow_right (by decide) (by omega)
  omega
theorem div_step (a b q r : BitVec 64) (m : Nat) (hm : m < 64) (h : DivAt a b q r (m + 1)) :
    let r2 := (r <<< 1) ||| bitU a m
    let c := (bitU r 63 == 1#64) || !(r2.ult b)
    (c = true → DivAt a b (q ||| 1#64 <<< m) (r2 + -b) m) ∧ (c = false → DivAt a b q r2 m) := by
  intro r2 c
  obtain ⟨h1, h2, h3⟩ := h
  have hr2 : r2.toNat = (2 * r.toNat + (a.getLsbD m).toNat) % 2 ^ 64 := by
    show ((r <<< 1) ||| bitU a m).toNat = _
    rw [bitU_eq, shl1_or]
  have ha := div_bit a.toNat m
  rw [show a.toNat.testBit m = a.getLsbD m from rfl, h1] at ha
  have hb := b.isLt
  have hbit : (a.getLsbD m).toNat ≤ 1 := by cases a.getLsbD m <;> simp
  have htop : (bitU r 63 == 1#64) = decide (2 ^ 63 ≤ r.toNat) := by
    rw [bit_one]
    have : r.getLsbD 63 = r.msb := by rw [BitVec.msb_eq_getLsbD_last]
    rw [this, BitVec.msb_eq_decide]
  have hc : c = decide (b.toNat ≤ 2 * r.toNat + (a.getLsbD m).toNat) := by
    show ((bitU r 63 == 1#64) || !(r2.ult b)) = _
    rw [htop, BitVec.ult, hr2]
    have hrl := r.isLt
    by_cases ht : 2 ^ 63 ≤ r.toNat
    · simp only [ht, decide_true, Bool.true_or]
      symm; simp only [decide_eq_true_eq]; omega
    · simp only [ht, decide_false, Bool.false_or]
      rw [Nat.mod_eq_of_lt (by omega)]
      rw [Bool.eq_iff_iff]; simp
  have hq2 : q.toNat / 2 ^ m = 2 * (q.toNat / 2 ^ (m + 1)) := by
    have := div_bit q.toNat m
    have h9 : q.toNat.testBit m = false := by
      have h3' : (q.toNat % 2 ^ (m + 1)).testBit m = q.toNat.testBit m := by rw [Nat.testBit_mod_two_pow]; simp
      rw [h3] at h3'; simpa using h3'.symm
    rw [h9] at this; simpa using this
  have hqm : q.toNat % 2 ^ m = 0 := by
    have : (2 : Nat) ^ m ∣ q.toNat := Nat.dvd_trans (Nat.pow_dvd_pow 2 (by omega)) (Nat.dvd_of_mod_eq_zero h3)
    exact Nat.mod_eq_zero_of_dvd this
  constructor
  · intro hct
    rw [hc, decide_eq_true_eq] at hct
    have hsub : (r2 + -b).toNat = 2 * r.toNat + (a.getLsbD m).toNat - b.toNat := by
      rw [BitVec.toNat_add, BitVec.toNat_neg, hr2]; omega
    refine ⟨?_, by rw [hsub]; omega, ?_⟩
    · rw [hsub, q_or q m hm h3, ha, Nat.add_div_right _ (Nat.two_pow_pos m), hq2, Nat.add_mul, Nat.one_mul]
      rw [Nat.mul_add]
      have : 2 * (q.toNat / 2 ^ (m + 1) * b.toNat) = 2 * (q.toNat / 2 ^ (m + 1)) * b.toNat := by rw [Nat.mul_assoc]
      omega
    · rw [q_or q m hm h3]; simp [Nat.add_mod_right, hqm]
  · intro hcf
    rw [hc, decide_eq_false_iff_not] at hcf
    have hr3 : r2.toNat = 2 * r.toNat + (a.getLsbD m).toNat := by rw [hr2, Nat.mod_eq_of_lt (by omega)]
    refine ⟨?_, by omega, hqm⟩
    rw [hr3, ha, hq2]
    have : 2 * (q.toNat / 2 ^ (m + 1) * b.toNat) = 2 * (q.toNat / 2 ^ (m + 1)) * b.toNat := by rw [Nat.mul_assoc]
    omega
end Go.Ux.Word
