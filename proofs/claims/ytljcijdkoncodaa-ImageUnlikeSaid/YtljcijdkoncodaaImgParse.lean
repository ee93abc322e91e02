/- Bytes there and back: numbers, symbols, words, images. No program in sight. -/
import Derived.Test.YtljcijdkoncodaaImgBytes
namespace Go.Ux.Image
open Go Go.Ux
theorem num_cons (b : UInt8) (r : List UInt8) : num (b :: r) = b.toNat * 256 ^ r.length + num r := by
  show numFrom (0 * 256 + b.toNat) r = _
  rw [numFrom_eq, Nat.zero_mul, Nat.zero_add]
theorem dig_nat (m i : Nat) : (dig (m : Int) i).toNat = m / 256 ^ i % 256 := by
  have h := dig_val (m : Int) i
  have e : (2 : Nat) ^ (8 * i) = 256 ^ i := by rw [Nat.pow_mul]
  rw [e] at h
  have h2 : ((dig (m : Int) i).toNat : Int) = ((m / 256 ^ i % 256 : Nat) : Int) := by rw [h, Int.natCast_emod, Int.natCast_ediv]; rfl
  omega
theorem num_be (k m : Nat) : num (be k (m : Int)) = m % 256 ^ k := by
  induction k with
  | zero => simp [be, num, numFrom, Nat.mod_one]
  | succ k ih =>
    rw [be, num_cons, be_length, ih, dig_nat, Nat.pow_succ, Nat.mod_mul, Nat.mul_comm (256 ^ k)]
    omega
theorem num_be' (k : Nat) (n : Int) (h0 : 0 ≤ n) (h1 : n < ((256 ^ k : Nat) : Int)) : ((num (be k n) : Nat) : Int) = n := by
  obtain ⟨m, rfl⟩ := Int.eq_ofNat_of_zero_le h0
  rw [num_be, Nat.mod_eq_of_lt (by omega)]
theorem num_inj : ∀ (a b : List UInt8), a.length = b.length → num a = num b → a = b
  | [], [], _, _ => rfl
  | [], _ :: _, h, _ => by cases h
  | _ :: _, [], h, _ => by cases h
  | x :: a, y :: b, h, e => by
    have hl : a.length = b.length := by simpa using h
    rw [num_cons, num_cons, hl] at e
    have ha := num_lt a
    have hb := num_lt b
    rw [hl] at ha
    have hp : 0 < 256 ^ b.length := Nat.pow_pos (by decide)
    have e1 : x.toNat = y.toNat := by
      have h1 : (x.toNat * 256 ^ b.length + num a) / 256 ^ b.length = x.toNat := by rw [Nat.mul_comm, Nat.mul_add_div hp, Nat.div_eq_of_lt ha]; omega
      have h2 : (y.toNat * 256 ^ b.length + num b) / 256 ^ b.length = y.toNat := by rw [Nat.mul_comm, Nat.mul_add_div hp, Nat.div_eq_of_lt hb]; omega
      rw [e, h2] at h1; exact h1.symm
    have e2 : num a = num b := by rw [e1] at e; omega
    rw [UInt8.toNat_inj.1 e1, num_inj a b hl e2]
theorem be_num (l : List UInt8) (k : Nat) (h : l.length = k) : be k ((num l : Nat) : Int) = l := by
  subst h
  refine num_inj _ _ (be_length _ _) ?_
  rw [num_be, Nat.mod_eq_of_lt (num_lt l)]

/-- What is still to be read at symbol j; at word j. -/
def wordsT (I : Img) (j : Nat) : List UInt8 := wordsB (I.words.drop j)
def symsT (I : Img) (j : Nat) : List UInt8 := symsB (I.syms.drop j) ++ (be 4 (I.words.length : Int) ++ wordsT I 0)
theorem bytesOf_T (I : Img) : bytesOf I = magic ++ (be 4 I.entry ++ (be 2 (I.syms.length : Int) ++ symsT I 0)) := by
  simp only [bytesOf, symsT, wordsT, List.drop_zero, List.append_assoc]
theorem symsT_step (I : Img) (j : Nat) (h : j < I.syms.length) : symsT I j = be 1 ((I.syms[j]).1.length : Int) ++ ((I.syms[j]).1 ++ (be 4 (I.syms[j]).2 ++ symsT I (j + 1))) := by
  unfold symsT symsB
  rw [List.drop_eq_getElem_cons h, List.flatMap_cons]
  simp only [symB, List.append_assoc]
theorem symsT_end (I : Img) (j : Nat) (h : I.syms.length ≤ j) : symsT I j = be 4 (I.words.length : Int) ++ wordsT I 0 := by
  unfold symsT; rw [List.drop_of_length_le h]; rfl
theorem wordsT_step (I : Img) (j : Nat) (h : j < I.words.length) : wordsT I j = be 4 ((I.words[j]).toNat : Int) ++ wordsT I (j + 1) := by
  unfold wordsT wordsB
  rw [List.drop_eq_getElem_cons h, List.flatMap_cons]
theorem wordsT_end (I : Img) (j : Nat) (h : I.words.length ≤ j) : wordsT I j = [] := by
  unfold wordsT; rw [List.drop_of_length_le h]; rfl
theorem wordsT_len (I : Img) (j : Nat) (h : j ≤ I.words.length) : (wordsT I j).length = 4 * (I.words.length - j) := by
  unfold wordsT wordsB
  generalize hl : I.words.drop j = l
  have : l.length = I.words.length - j := by rw [← hl, List.length_drop]
  rw [← this]
  clear hl this
  induction l with
  | nil => rfl
  | cons a r ih => rw [List.flatMap_cons, List.length_append, be_length, ih, List.length_cons]; omega
theorem wordsB_append (a : List (BitVec 32)) (x : BitVec 32) : wordsB (a ++ [x]) = wordsB a ++ be 4 (x.toNat : Int) := by simp [wordsB]
theorem symsB_append (a : List (List UInt8 × Int)) (s : List UInt8 × Int) : symsB (a ++ [s]) = symsB a ++ symB s := by simp [symsB]
end Go.Ux.Image
