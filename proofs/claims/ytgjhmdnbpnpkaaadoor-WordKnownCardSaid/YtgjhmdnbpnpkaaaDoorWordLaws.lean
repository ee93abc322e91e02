/- What follows about words: the laws. No program in sight. -/
import Derived.Test.YtgjhmdnbpnpkaaaDoorWordHigh
namespace Go.Ux.Word
theorem and63_lt (x : BitVec 64) : (x &&& 63#64).toNat < 64 := six_lt x
theorem and63_id (z : BitVec 64) (h : z.toNat < 64) : z &&& 63#64 = z := by
  apply BitVec.eq_of_toNat_eq
  rw [BitVec.toNat_and]
  have : (63#64).toNat = 2 ^ 6 - 1 := rfl
  rw [this, Nat.and_two_pow_sub_one_eq_mod]; exact Nat.mod_eq_of_lt h
theorem six_id (z : BitVec 64) (h : z.toNat < 64) : six z = z.toNat := by unfold six; rw [and63_id z h]
theorem small_lt (x y : BitVec 64) (h : ((x &&& 63#64) + (y &&& 63#64)).slt 64#64 = true) : ((x &&& 63#64) + (y &&& 63#64)).toNat = (x &&& 63#64).toNat + (y &&& 63#64).toNat ∧ (x &&& 63#64).toNat + (y &&& 63#64).toNat < 64 := by
  have h1 := and63_lt x
  have h2 := and63_lt y
  have e : ((x &&& 63#64) + (y &&& 63#64)).toNat = (x &&& 63#64).toNat + (y &&& 63#64).toNat := by rw [BitVec.toNat_add]; exact Nat.mod_eq_of_lt (by omega)
  refine ⟨e, ?_⟩
  rw [BitVec.slt_eq_decide, decide_eq_true_eq, BitVec.toInt_eq_toNat_cond, e, if_pos (by omega)] at h
  have : (64#64).toInt = 64 := by decide
  omega
theorem shl_shl (a : BitVec 64) (s t : Nat) : (a <<< s) <<< t = a <<< (s + t) := by rw [BitVec.shiftLeft_add]
theorem shr_shr (a : BitVec 64) (s t : Nat) : (a >>> s) >>> t = a >>> (s + t) := by rw [BitVec.shiftRight_add]
theorem sar_sar (a : BitVec 64) (s t : Nat) : (a.sshiftRight s).sshiftRight t = a.sshiftRight (s + t) := by rw [BitVec.sshiftRight_add]
def opl (j : Nat) : Nat := [11, 12, 13].getD j 0
theorem opl_cases (j : Nat) (h : j < 3) : opl j = 11 ∨ opl j = 12 ∨ opl j = 13 := by
  match j, h with
  | 0, _ => exact .inl rfl
  | 1, _ => exact .inr (.inl rfl)
  | 2, _ => exact .inr (.inr rfl)
theorem opl_lt (j : Nat) (h : j < 3) : opl j < 256 := by rcases opl_cases j h with e | e | e <;> omega
theorem moves1 (j : Nat) (hj : j < 3) (a x y : BitVec 64) (h : ((x &&& 63#64) + (y &&& 63#64)).slt 64#64 = true) :
    opW (opl j) (opW (opl j) a (x &&& 63#64)) (y &&& 63#64) = opW (opl j) a ((x &&& 63#64) + (y &&& 63#64)) := by
  obtain ⟨e, hlt⟩ := small_lt x y h
  have e1 := six_id _ (and63_lt x)
  have e2 := six_id _ (and63_lt y)
  have e3 := six_id ((x &&& 63#64) + (y &&& 63#64)) (by omega)
  rcases opl_cases j hj with h | h | h <;> rw [h] <;> simp only [opW, e1, e2, e3, e]
  · exact shl_shl _ _ _
  · exact shr_shr _ _ _
  · exact sar_sar _ _ _
theorem moves2 (j : Nat) (hj : j < 3) (a x : BitVec 64) : opW (opl j) a x = opW (opl j) a (x &&& 63#64) := by
  have e1 := six_id _ (and63_lt x)
  have e2 : six x = (x &&& 63#64).toNat := rfl
  rcases opl_cases j hj with h | h | h <;> rw [h] <;> simp only [opW, e1, e2]
theorem moves3 (a x : BitVec 64) : opW 12 (opW 11 a (x &&& 63#64)) (x &&& 63#64) = opW 8 a (opW 12 minusOne (x &&& 63#64)) := by
  simp only [opW, six_id _ (and63_lt x)]
  generalize (x &&& 63#64).toNat = s
  apply BitVec.eq_of_getLsbD_eq
  intro i hi
  have hm : minusOne = BitVec.allOnes 64 := by decide
  rw [BitVec.getLsbD_ushiftRight, BitVec.getLsbD_shiftLeft, BitVec.getLsbD_and, BitVec.getLsbD_ushiftRight, hm, BitVec.getLsbD_allOnes]
  by_cases h : s + i < 64
  · simp [h, show s + i - s = i by omega, show ¬ s + i < s by omega]
  · simp [h]
theorem moves4 (a x : BitVec 64) (h : a.slt 0#64 = false) : opW 13 a (x &&& 63#64) = opW 12 a (x &&& 63#64) := by
  rw [slt0] at h
  simp only [opW]
  exact BitVec.sshiftRight_eq_of_msb_false h

/-! ### orders, sums, sets -/
theorem xor_or (a b : BitVec 64) : (a ^^^ b) + (a &&& b) = a ||| b := by
  have h : (a ^^^ b) &&& (a &&& b) = 0#64 := by
    apply BitVec.eq_of_getLsbD_eq; intro i _
    simp only [BitVec.getLsbD_and, BitVec.getLsbD_xor, BitVec.getLsbD_zero]
    cases a.getLsbD i <;> cases b.getLsbD i <;> rfl
  rw [BitVec.add_eq_or_of_and_eq_zero _ _ h]
  apply BitVec.eq_of_getLsbD_eq; intro i _
  simp only [BitVec.getLsbD_and, BitVec.getLsbD_xor, BitVec.getLsbD_or]
  cases a.getLsbD i <;> cases b.getLsbD i <;> rfl
theorem part_or (a b : BitVec 64) : (a &&& ~~~b) + (a &&& b) = a := by
  have h : (a &&& ~~~b) &&& (a &&& b) = 0#64 := by
    apply BitVec.eq_of_getLsbD_eq; intro i hi
    simp only [BitVec.getLsbD_and, BitVec.getLsbD_not, BitVec.getLsbD_zero]
    cases a.getLsbD i <;> cases b.getLsbD i <;> simp
  rw [BitVec.add_eq_or_of_and_eq_zero _ _ h]
  apply BitVec.eq_of_getLsbD_eq; intro i hi
  simp only [BitVec.getLsbD_and, BitVec.getLsbD_not, BitVec.getLsbD_or, hi, decide_true, Bool.true_and]
  cases a.getLsbD i <;> cases b.getLsbD i <;> rfl
theorem part_xor (a b : BitVec 64) : (a &&& ~~~b) + (b &&& ~~~a) = a ^^^ b := by
  have h : (a &&& ~~~b) &&& (b &&& ~~~a) = 0#64 := by
    apply BitVec.eq_of_getLsbD_eq; intro i hi
    simp only [BitVec.getLsbD_and, BitVec.getLsbD_not, BitVec.getLsbD_zero]
    cases a.getLsbD i <;> cases b.getLsbD i <;> simp
  rw [BitVec.add_eq_or_of_and_eq_zero _ _ h]
  apply BitVec.eq_of_getLsbD_eq; intro i hi
  simp only [BitVec.getLsbD_and, BitVec.getLsbD_not, BitVec.getLsbD_or, BitVec.getLsbD_xor, hi, decide_true, Bool.true_and]
  cases a.getLsbD i <;> cases b.getLsbD i <;> rfl
theorem two_mul' (a : BitVec 64) : 2#64 * a = a + a := by rw [BitVec.mul_comm, show (2#64 : BitVec 64) = 1#64 + 1#64 from by decide, BitVec.mul_add, BitVec.mul_one]
theorem order5 (a b : BitVec 64) : (a ^^^ b) + 2#64 * (a &&& b) = a + b := by
  have h1 := part_or a b
  have h2 := part_or b a
  have h3 := part_xor a b
  rw [BitVec.and_comm b a] at h2
  rw [two_mul', ← h3]
  calc (a &&& ~~~b) + (b &&& ~~~a) + ((a &&& b) + (a &&& b)) = ((a &&& ~~~b) + (a &&& b)) + ((b &&& ~~~a) + (a &&& b)) := by ac_rfl
    _ = a + b := by rw [h1, h2]
theorem order6 (a b : BitVec 64) : (a ||| b) - (a &&& b) = a ^^^ b := by rw [← xor_or]; simp [BitVec.add_sub_cancel]
theorem order4 (a b c : BitVec 64) : a &&& (b ||| c) = (a &&& b) ||| (a &&& c) := by
  apply BitVec.eq_of_getLsbD_eq; intro i _
  simp only [BitVec.getLsbD_and, BitVec.getLsbD_or]
  cases a.getLsbD i <;> cases b.getLsbD i <;> rfl
theorem order2 (a b c : BitVec 64) : (a == b) = (a + c == b + c) := by
  rw [Bool.eq_iff_iff, beq_iff_eq, beq_iff_eq]
  exact ⟨fun h => by rw [h], fun h => by have := congrArg (· - c) h; simpa [BitVec.add_sub_cancel] using this⟩
def opl2 (j : Nat) : Nat := [14, 15].getD j 0
theorem opl2_cases (j : Nat) (h : j < 2) : opl2 j = 14 ∨ opl2 j = 15 := by
  match j, h with
  | 0, _ => exact .inl rfl
  | 1, _ => exact .inr rfl
theorem opl2_lt (j : Nat) (h : j < 2) : opl2 j < 256 := by rcases opl2_cases j h with e | e <;> omega
theorem one_eq (b : Bool) : (oneW b == 1#64) = b := by cases b <;> decide
theorem order3 (j : Nat) (hj : j < 2) (a b c : BitVec 64) (h1 : (opW (opl2 j) a b == 1#64) = true) (h2 : (opW (opl2 j) b c == 1#64) = true) : (opW (opl2 j) a c != 1#64) = false := by
  rcases opl2_cases j hj with e | e <;> rw [e] at h1 h2 ⊢ <;> simp only [opW, bne, one_eq, Bool.not_eq_false'] at h1 h2 ⊢
  · rw [BitVec.slt_eq_decide, decide_eq_true_eq] at *; omega
  · simp only [BitVec.ult, decide_eq_true_eq] at *; omega

/-! ### what goes together -/
theorem laws1 (n : Nat) (a b : BitVec 64) (h : swapsW n = true) : opW n a b = opW n b a := by
  unfold swapsW at h
  split at h <;> first | (simp only [opW]; done) | cases h | skip
  · exact BitVec.add_comm a b
  · exact BitVec.mul_comm a b
  · exact BitVec.and_comm a b
  · exact BitVec.or_comm a b
  · exact BitVec.xor_comm a b
  · show oneW (a == b) = oneW (b == a)
    rw [Bool.beq_comm (a := a)] 
theorem laws2 (n : Nat) (a b c : BitVec 64) (h : groupsW n = true) : opW n (opW n a b) c = opW n a (opW n b c) := by
  unfold groupsW at h
  split at h <;> first | cases h | skip
  · exact BitVec.add_assoc a b c
  · exact BitVec.mul_assoc a b c
  · exact BitVec.and_assoc a b c
  · exact BitVec.or_assoc a b c
  · exact BitVec.xor_assoc a b c
theorem laws3 : ∀ (n : Nat) (a : BitVec 64), (keepsW n).2 = true → opW n a (keepsW n).1 = a
  | 1, a, _ => BitVec.add_zero a
  | 2, a, _ => BitVec.sub_zero a
  | 3, a, _ => BitVec.mul_one a
  | 4, a, _ => by show opW 4 a 1#64 = a; simp only [opW, show ¬ (1#64 = 0#64) by decide, if_false]; exact BitVec.sdiv_one
  | 5, a, _ => by show opW 5 a 0#64 = a; simp only [opW, if_true]
  | 6, a, _ => by show opW 6 a 1#64 = a; simp only [opW, show ¬ (1#64 = 0#64) by decide, if_false]; exact BitVec.udiv_one
  | 7, a, _ => by show opW 7 a 0#64 = a; simp only [opW, if_true]
  | 8, a, _ => by show a &&& minusOne = a; rw [show minusOne = BitVec.allOnes 64 from by decide, BitVec.and_allOnes]
  | 9, a, _ => BitVec.or_zero
  | 10, a, _ => BitVec.xor_zero
  | 11, a, _ => by show a <<< (0 : Nat) = a; simp
  | 12, a, _ => by show a >>> (0 : Nat) = a; simp
  | 13, a, _ => by show a.sshiftRight 0 = a; simp
  | 0, _, h => by cases h
  | 14, _, h => by cases h
  | 15, _, h => by cases h
  | 16, _, h => by cases h
  | n + 17, _, h => by rw [keepsW_none (n + 17) (by omega)] at h; cases h
theorem udiv_law (a b : BitVec 64) : a / b * b + a % b = a := by
  apply BitVec.eq_of_toNat_eq
  have h : a.toNat / b.toNat * b.toNat + a.toNat % b.toNat = a.toNat := by rw [Nat.mul_comm]; exact Nat.div_add_mod _ _
  have ha := a.isLt
  rw [BitVec.toNat_add, BitVec.toNat_mul, BitVec.toNat_udiv, BitVec.toNat_umod, Nat.mod_eq_of_lt (a := a.toNat / b.toNat * b.toNat) (by omega), h, Nat.mod_eq_of_lt ha]
theorem sdiv_law (a b : BitVec 64) : a.sdiv b * b + a.srem b = a := by
  simp only [BitVec.sdiv, BitVec.srem]
  have h := udiv_law
  cases a.msb <;> cases b.msb <;> simp only [BitVec.udiv_eq, BitVec.umod_eq, BitVec.neg_eq]
  · exact h a b
  · have := h a (-b); rw [BitVec.neg_mul]; rw [BitVec.mul_neg] at this; exact this
  · have := h (-a) b
    rw [BitVec.neg_mul, ← BitVec.sub_eq_add_neg, ← BitVec.neg_add, this, BitVec.neg_neg]
  · have := h (-a) (-b)
    rw [BitVec.mul_neg] at this
    have h3 : -a / -b * b + -(-a % -b) = -(-(-a / -b * b) + -a % -b) := by rw [BitVec.neg_add, BitVec.neg_neg, BitVec.sub_eq_add_neg]
    rw [h3, this, BitVec.neg_neg]
theorem laws4 (a b : BitVec 64) (hb : b ≠ 0#64) : opW 1 (opW 3 (opW 4 a b) b) (opW 5 a b) = a := by simp only [opW, if_neg hb]; exact sdiv_law a b
theorem laws5 (a b : BitVec 64) (hb : b ≠ 0#64) : opW 1 (opW 3 (opW 6 a b) b) (opW 7 a b) = a := by simp only [opW, if_neg hb]; exact udiv_law a b
theorem laws6 (a b : BitVec 64) (hb : b ≠ 0#64) : opW 15 (opW 7 a b) b = 1#64 := by
  simp only [opW, if_neg hb]
  have : (a % b).ult b = true := by
    simp only [BitVec.ult, decide_eq_true_eq, BitVec.toNat_umod]
    exact Nat.mod_lt _ (Nat.pos_of_ne_zero fun e => hb (BitVec.eq_of_toNat_eq (by simpa using e)))
  rw [this]; rfl
theorem powW_true (b : BitVec 64) (h : (powW b).2 = true) : ∃ k, k < 64 ∧ b = 1#64 <<< k ∧ (powW b).1 = BitVec.ofNat 64 k := by
  by_cases hex : ∃ k, k < 64 ∧ b = 1#64 <<< k
  · obtain ⟨k, hk, rfl⟩ := hex
    exact ⟨k, hk, rfl, by rw [powW_yes k hk]⟩
  · rw [powW_no b (fun k hk e => hex ⟨k, hk, e⟩)] at h; cases h
theorem six_ofNat (k : Nat) (hk : k < 64) : six (BitVec.ofNat 64 k) = k := by
  rw [six_id _ (by simp; omega)]; simp; omega
theorem laws7 (a b : BitVec 64) (h : (powW b).2 = true) : opW 3 a b = opW 11 a (powW b).1 := by
  obtain ⟨k, hk, rfl, e⟩ := powW_true b h
  simp only [opW, e, six_ofNat k hk]
  rw [BitVec.shiftLeft_eq_mul_twoPow a k, ← BitVec.twoPow_eq]
theorem laws8 (a b : BitVec 64) (h : (powW b).2 = true) : opW 6 a b = opW 12 a (powW b).1 := by
  obtain ⟨k, hk, rfl, e⟩ := powW_true b h
  have hne : (1#64 <<< k) ≠ 0#64 := fun h0 => by have := congrArg BitVec.toNat h0; rw [shl_one k hk] at this; exact absurd this (Nat.ne_of_gt (Nat.two_pow_pos k))
  simp only [opW, if_neg hne, e, six_ofNat k hk]
  apply BitVec.eq_of_toNat_eq
  rw [BitVec.toNat_udiv, shl_one k hk, BitVec.toNat_ushiftRight, Nat.shiftRight_eq_div_pow]
theorem laws9 (a b : BitVec 64) (h : (powW b).2 = true) : opW 7 a b = opW 8 a (opW 2 b 1#64) := by
  obtain ⟨k, hk, rfl, e⟩ := powW_true b h
  have hne : (1#64 <<< k) ≠ 0#64 := fun h0 => by have := congrArg BitVec.toNat h0; rw [shl_one k hk] at this; exact absurd this (Nat.ne_of_gt (Nat.two_pow_pos k))
  simp only [opW, if_neg hne]
  apply BitVec.eq_of_toNat_eq
  have hp := Nat.two_pow_pos k
  have hlt : 2 ^ k < 2 ^ 64 := Nat.pow_lt_pow_right (by decide) hk
  have e1 : (1#64 <<< k - 1#64).toNat = 2 ^ k - 1 := by
    rw [BitVec.toNat_sub, shl_one k hk]
    have : (1#64).toNat = 1 := rfl
    rw [this]; omega
  rw [BitVec.toNat_umod, shl_one k hk, BitVec.toNat_and, e1, Nat.and_two_pow_sub_one_eq_mod]
theorem laws10 (a b : BitVec 64) : opW 2 a b = opW 1 a (opW 2 0#64 b) := by
  simp only [opW]; rw [BitVec.zero_sub, BitVec.sub_eq_add_neg]
theorem laws11 (a b : BitVec 64) : opW 14 a b + opW 14 b a + opW 16 a b = 1#64 := by
  simp only [opW]
  have h : (a == b) = (a.toInt == b.toInt) := by rw [Bool.eq_iff_iff, beq_iff_eq, beq_iff_eq]; exact ⟨fun h => by rw [h], BitVec.eq_of_toInt_eq⟩
  rw [h, BitVec.slt_eq_decide, BitVec.slt_eq_decide]
  rcases Int.lt_trichotomy a.toInt b.toInt with h1 | h1 | h1
  · simp only [h1, show ¬ b.toInt < a.toInt by omega, show (a.toInt == b.toInt) = false by simp; omega, decide_true, decide_false]; decide
  · simp only [h1, Int.lt_irrefl, decide_false, beq_self_eq_true]; decide
  · simp only [h1, show ¬ a.toInt < b.toInt by omega, show (a.toInt == b.toInt) = false by simp; omega, decide_true, decide_false]; decide
theorem laws12 (a b : BitVec 64) : opW 15 a b + opW 15 b a + opW 16 a b = 1#64 := by
  simp only [opW]
  have h : (a == b) = (a.toNat == b.toNat) := by rw [Bool.eq_iff_iff, beq_iff_eq, beq_iff_eq]; exact ⟨fun h => by rw [h], BitVec.eq_of_toNat_eq⟩
  rw [h]
  simp only [BitVec.ult]
  rcases Nat.lt_trichotomy a.toNat b.toNat with h1 | h1 | h1
  · simp only [h1, show ¬ b.toNat < a.toNat by omega, show (a.toNat == b.toNat) = false by simp; omega, decide_true, decide_false]; decide
  · simp only [h1, Nat.lt_irrefl, decide_false, beq_self_eq_true]; decide
  · simp only [h1, show ¬ a.toNat < b.toNat by omega, show (a.toNat == b.toNat) = false by simp; omega, decide_true, decide_false]; decide
end Go.Ux.Word
namespace Go.Ux.Word
theorem ne_of {a b : BitVec 64} (h : a = b) : (a != b) = false := by rw [h]; exact bne_self_eq_false _
theorem eq_of {a b : BitVec 64} (h : a = b) : (a == b) = true := by rw [h]; exact beq_self_eq_true _
theorem order1 (x y : BitVec 64) : opW 14 x y = opW 15 (opW 10 x (BitVec.ofInt 64 (-9223372036854775808))) (opW 10 y (BitVec.ofInt 64 (-9223372036854775808))) := congrArg oneW (slt_ult x y).symm
end Go.Ux.Word
