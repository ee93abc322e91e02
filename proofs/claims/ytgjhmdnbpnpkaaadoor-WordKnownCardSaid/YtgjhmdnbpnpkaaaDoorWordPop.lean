/- How many bits are set, by sums of fields; powers of 2. No program in sight. -/
import Derived.Test.YtgjhmdnbpnpkaaaDoorWordPure2
namespace Go.Ux.Word

theorem land_split (k u v p q : Nat) (hu : u < 2 ^ k) (hp : p < 2 ^ k) : (u + 2 ^ k * v) &&& (p + 2 ^ k * q) = (u &&& p) + 2 ^ k * (v &&& q) := by
  apply Nat.eq_of_testBit_eq
  intro i
  have ha : (u &&& p) < 2 ^ k := Nat.lt_of_le_of_lt Nat.and_le_left hu
  rw [Nat.testBit_and, Nat.add_comm u, Nat.add_comm p, Nat.add_comm (u &&& p), Nat.testBit_two_pow_mul_add _ hu, Nat.testBit_two_pow_mul_add _ hp, Nat.testBit_two_pow_mul_add _ ha]
  split <;> simp [Nat.testBit_and]

/-- The number with these digits, the lowest first, in base 2^s. -/
def val (s : Nat) : List Nat → Nat
  | [] => 0
  | d :: r => d + 2 ^ s * val s r
def evens : List Nat → List Nat
  | [] => []
  | [a] => [a]
  | a :: _ :: r => a :: evens r
def mask (s : Nat) : Nat → Nat
  | 0 => 0
  | n + 1 => (2 ^ s - 1) + 2 ^ (2 * s) * mask s n

theorem land_mask (s : Nat) : ∀ (n : Nat) (l : List Nat), (∀ d ∈ l, d < 2 ^ s) → l.length ≤ 2 * n → val s l &&& mask s n = val (2 * s) (evens l)
  | 0, l, _, hl => by have : l = [] := List.eq_nil_of_length_eq_zero (by omega); subst this; simp [val, mask, evens]
  | n + 1, [], _, _ => by simp [val, evens]
  | n + 1, [a], h, _ => by
    have ha : a < 2 ^ s := h a (by simp)
    have e : a &&& (2 ^ s - 1) = a := by rw [Nat.and_two_pow_sub_one_eq_mod, Nat.mod_eq_of_lt ha]
    have hlt : a < 2 ^ (2 * s) := Nat.lt_of_lt_of_le ha (Nat.pow_le_pow_right (by decide) (by omega))
    have hm : 2 ^ s - 1 < 2 ^ (2 * s) := Nat.lt_of_lt_of_le (by have := Nat.two_pow_pos s; omega) (Nat.pow_le_pow_right (by decide) (show s ≤ 2 * s by omega))
    have := land_split (2 * s) a 0 (2 ^ s - 1) (mask s n) hlt hm
    simp only [val, mask, evens, Nat.mul_zero, Nat.add_zero] at this ⊢
    rw [this, e]; simp
  | n + 1, a :: b :: r, h, hl => by
    have ha : a < 2 ^ s := h a (by simp)
    have hb : b < 2 ^ s := h b (by simp)
    have ih := land_mask s n r (fun d hd => h d (by simp [hd])) (by simp at hl; omega)
    have hp : 0 < 2 ^ s := Nat.two_pow_pos s
    have e2 : 2 ^ (2 * s) = 2 ^ s * 2 ^ s := by rw [← Nat.pow_add]; congr 1; omega
    have hab : a + 2 ^ s * b < 2 ^ (2 * s) := by
      rw [e2]
      have : 2 ^ s * (b + 1) ≤ 2 ^ s * 2 ^ s := Nat.mul_le_mul_left _ hb
      rw [Nat.mul_add] at this; omega
    have hm : 2 ^ s - 1 < 2 ^ (2 * s) := by rw [e2]; exact Nat.lt_of_lt_of_le (by omega) (Nat.le_mul_of_pos_right _ hp)
    have ev : val s (a :: b :: r) = (a + 2 ^ s * b) + 2 ^ (2 * s) * val s r := by simp only [val, e2]; rw [Nat.mul_add, Nat.mul_assoc]; omega
    rw [ev, mask, land_split (2 * s) _ _ _ _ hab hm, ih]
    have e : (a + 2 ^ s * b) &&& (2 ^ s - 1) = a := by rw [Nat.and_two_pow_sub_one_eq_mod, Nat.add_mul_mod_self_left, Nat.mod_eq_of_lt ha]
    rw [e]; rfl

theorem val_div (s a : Nat) (r : List Nat) (ha : a < 2 ^ s) : val s (a :: r) / 2 ^ s = val s r := by
  simp only [val]; rw [Nat.add_mul_div_left _ _ (Nat.two_pow_pos s), Nat.div_eq_of_lt ha]; omega
theorem val_zip (s : Nat) : ∀ (l m : List Nat), l.length = m.length → val s l + val s m = val s (List.zipWith (· + ·) l m)
  | [], [], _ => rfl
  | a :: l, b :: m, h => by
    have ih := val_zip s l m (by simpa using h)
    simp only [val, List.zipWith_cons_cons, ← ih, Nat.mul_add]; omega
  | [], _ :: _, h => by simp at h
  | _ :: _, [], h => by simp at h
/-- Pairs added up. -/
def pairs : List Nat → List Nat
  | a :: b :: r => (a + b) :: pairs r
  | _ => []
theorem zip_evens : ∀ (a : Nat) (l : List Nat) (n : Nat), l.length = 2 * n + 1 → List.zipWith (· + ·) (evens l) (evens (a :: l)) = pairs (a :: l) ∧ (evens l).length = (evens (a :: l)).length
  | a, [b], 0, _ => by simp [evens, pairs, Nat.add_comm]
  | a, b :: c :: l, n, h => by
    match n, h with
    | 0, h => simp at h
    | n + 1, h =>
      have ih := zip_evens c l n (by simp at h; omega)
      simp only [evens, pairs, List.zipWith_cons_cons, List.length_cons]
      constructor
      · rw [ih.1, Nat.add_comm]
      · rw [ih.2]
  | _, [], n, h => by simp at h
  | _, [_], n + 1, h => by simp at h
theorem step_pairs (s n : Nat) (l : List Nat) (h : ∀ d ∈ l, d < 2 ^ s) (hl : l.length = 2 * n) (hn : 0 < n) :
    (val s l / 2 ^ s &&& mask s n) + (val s l &&& mask s n) = val (2 * s) (pairs l) := by
  match l, hl with
  | [], hl => simp at hl; omega
  | a :: l, hl =>
    have hl' : l.length = 2 * (n - 1) + 1 := by simp at hl; omega
    have z := zip_evens a l (n - 1) hl'
    rw [val_div s a l (h a (by simp)), land_mask s n l (fun d hd => h d (by simp [hd])) (by omega), land_mask s n (a :: l) h (by omega), val_zip _ _ _ z.2, z.1]
theorem pairs_sum : ∀ (l : List Nat) (n : Nat), l.length = 2 * n → (pairs l).sum = l.sum ∧ (pairs l).length = n
  | [], n, h => by simp at h; simp [pairs]; omega
  | [_], n, h => by simp at h; omega
  | a :: b :: r, n, h => by
    match n, h with
    | 0, h => simp at h
    | n + 1, h =>
      have ih := pairs_sum r n (by simp at h; omega)
      simp only [pairs, List.sum_cons, List.length_cons, ih.1, ih.2]; constructor <;> first | omega | trivial
theorem pairs_le (m : Nat) : ∀ (l : List Nat), (∀ d ∈ l, d ≤ m) → ∀ d ∈ pairs l, d ≤ 2 * m
  | [], _, d, hd => by simp [pairs] at hd
  | [_], _, d, hd => by simp [pairs] at hd
  | a :: b :: r, h, d, hd => by
    simp only [pairs, List.mem_cons] at hd
    rcases hd with rfl | hd
    · have := h a (by simp); have := h b (by simp); omega
    · exact pairs_le m r (fun x hx => h x (by simp [hx])) d hd

/-- The bits of a number. -/
def bitsN (n : Nat) : Nat → List Nat
  | 0 => []
  | k + 1 => n % 2 :: bitsN (n / 2) k
theorem bits_val : ∀ (k n : Nat), n < 2 ^ k → val 1 (bitsN n k) = n ∧ (bitsN n k).length = k ∧ ∀ d ∈ bitsN n k, d ≤ 1
  | 0, n, h => by simp at h; subst h; simp [bitsN, val]
  | k + 1, n, h => by
    have ih := bits_val k (n / 2) (by rw [Nat.pow_succ] at h; omega)
    simp only [bitsN, val, List.length_cons, ih.1, ih.2.1]
    refine ⟨by omega, trivial, ?_⟩
    intro d hd
    rcases List.mem_cons.1 hd with rfl | hd
    · omega
    · exact ih.2.2 d hd
theorem bits_sum_zero : ∀ (k n : Nat), n < 2 ^ k → (bitsN n k).sum = 0 → n = 0
  | 0, n, h, _ => by simp at h; exact h
  | k + 1, n, h, hs => by
    simp only [bitsN, List.sum_cons] at hs
    have := bits_sum_zero k (n / 2) (by rw [Nat.pow_succ] at h; omega) (by omega)
    omega
theorem bits_zero (k : Nat) : (bitsN 0 k).sum = 0 := by induction k with | zero => rfl | succ k ih => simp [bitsN, ih]
theorem bits_sum_one : ∀ (k n : Nat), n < 2 ^ k → ((bitsN n k).sum = 1 ↔ ∃ j, j < k ∧ n = 2 ^ j)
  | 0, n, h => by simp at h; subst h; simp [bitsN]
  | k + 1, n, h => by
    have h2 : n / 2 < 2 ^ k := by rw [Nat.pow_succ] at h; omega
    have ih := bits_sum_one k (n / 2) h2
    simp only [bitsN, List.sum_cons]
    constructor
    · intro hs
      rcases Nat.mod_two_eq_zero_or_one n with e | e
      · obtain ⟨j, hj, hn⟩ := ih.1 (by omega)
        exact ⟨j + 1, by omega, by rw [Nat.pow_succ]; omega⟩
      · have := bits_sum_zero k (n / 2) h2 (by omega)
        exact ⟨0, by omega, by simp; omega⟩
    · rintro ⟨j, hj, rfl⟩
      cases j with
      | zero => simp [bits_zero]
      | succ j =>
        have e1 : 2 ^ (j + 1) % 2 = 0 := by rw [Nat.pow_succ]; omega
        have e2 : 2 ^ (j + 1) / 2 = 2 ^ j := by rw [Nat.pow_succ]; omega
        rw [e1, e2]
        rw [e2] at ih
        have := ih.2 ⟨j, by omega, rfl⟩
        omega

def m0 : BitVec 64 := 6148914691236517205#64
def m1 : BitVec 64 := 3689348814741910323#64
def m2 : BitVec 64 := 1085102592571150095#64
def pop1 (x : BitVec 64) : BitVec 64 := ((x >>> 1) &&& m0) + (x &&& m0)
def pop2 (x : BitVec 64) : BitVec 64 := ((x >>> 2) &&& m1) + (x &&& m1)
def pop3 (x : BitVec 64) : BitVec 64 := ((x >>> 4) + x) &&& m2
def pop4 (x : BitVec 64) : BitVec 64 :=
  let a := x + x >>> 8
  let b := a + a >>> 16
  let c := b + b >>> 32
  c &&& 127#64
def pop (x : BitVec 64) : BitVec 64 := pop4 (pop3 (pop2 (pop1 x)))

theorem val_lt (s m : Nat) : ∀ (l : List Nat), (∀ d ∈ l, d < 2 ^ s) → val s l < 2 ^ (s * l.length)
  | [], _ => by simp [val]
  | a :: l, h => by
    have ih := val_lt s m l (fun d hd => h d (by simp [hd]))
    have ha := h a (by simp)
    simp only [val, List.length_cons]
    have e : 2 ^ (s * (l.length + 1)) = 2 ^ s * 2 ^ (s * l.length) := by rw [← Nat.pow_add]; congr 1; rw [Nat.mul_add]; omega
    have : 2 ^ s * (val s l + 1) ≤ 2 ^ s * 2 ^ (s * l.length) := Nat.mul_le_mul_left _ ih
    rw [e]; rw [Nat.mul_add] at this; omega
theorem pop1_val (x : BitVec 64) : (pop1 x).toNat = val 2 (pairs (bitsN x.toNat 64)) := by
  obtain ⟨h1, h2, h3⟩ := bits_val 64 x.toNat x.isLt
  have hs := step_pairs 1 32 (bitsN x.toNat 64) (fun d hd => by have := h3 d hd; omega) (by rw [h2]) (by decide)
  rw [h1] at hs
  have hm : m0.toNat = mask 1 32 := by decide
  have hlt := val_lt 2 0 (pairs (bitsN x.toNat 64)) (fun d hd => by have := pairs_le 1 _ h3 d hd; omega)
  rw [(pairs_sum _ 32 (by rw [h2])).2] at hlt
  unfold pop1
  rw [BitVec.toNat_add, BitVec.toNat_and, BitVec.toNat_and, hm, BitVec.toNat_ushiftRight, Nat.shiftRight_eq_div_pow, hs]
  exact Nat.mod_eq_of_lt (by simpa using hlt)
theorem pop2_val (x : BitVec 64) (l : List Nat) (h : x.toNat = val 2 l) (hl : l.length = 32) (hd : ∀ d ∈ l, d ≤ 2) : (pop2 x).toNat = val 4 (pairs l) := by
  have hs := step_pairs 2 16 l (fun d hx => by have := hd d hx; omega) (by rw [hl]) (by decide)
  rw [← h] at hs
  have hm : m1.toNat = mask 2 16 := by decide
  have hlt := val_lt 4 0 (pairs l) (fun d hx => by have := pairs_le 2 _ hd d hx; omega)
  rw [(pairs_sum _ 16 (by rw [hl])).2] at hlt
  unfold pop2
  rw [BitVec.toNat_add, BitVec.toNat_and, BitVec.toNat_and, hm, BitVec.toNat_ushiftRight, Nat.shiftRight_eq_div_pow, hs]
  exact Nat.mod_eq_of_lt (by simpa using hlt)
theorem eight {l : List Nat} (h : l.length = 8) : ∃ a b c d e f g i, l = [a, b, c, d, e, f, g, i] := by
  match l, h with
  | [a, b, c, d, e, f, g, i], _ => exact ⟨a, b, c, d, e, f, g, i, rfl⟩
theorem dv8 (m lo hi : Nat) (hm : lo < m) : (lo + m * hi) / m = hi := by
  rw [Nat.add_mul_div_left _ _ (by omega), Nat.div_eq_of_lt hm, Nat.zero_add]
theorem dgd1 (a b c d e f g i : Nat) : (a + 256 * (b + 256 * (c + 256 * (d + 256 * (e + 256 * (f + 256 * (g + 256 * i))))))) + (b + 256 * (c + 256 * (d + 256 * (e + 256 * (f + 256 * (g + 256 * i)))))) = ((a + b) + 256 * (b + c)) + 65536 * ((c + d) + 256 * (d + e) + 65536 * ((e + f) + 256 * (f + g) + 65536 * ((g + i) + 256 * i))) := by omega
theorem dgd2 (a b c d e f g i : Nat) : (((a + b) + 256 * (b + c)) + 65536 * ((c + d) + 256 * (d + e) + 65536 * ((e + f) + 256 * (f + g) + 65536 * ((g + i) + 256 * i)))) + ((c + d) + 256 * (d + e) + 65536 * ((e + f) + 256 * (f + g) + 65536 * ((g + i) + 256 * i)))
   = ((a + b + c + d) + 256 * (b + c + d + e) + 65536 * ((c + d + e + f) + 256 * (d + e + f + g))) + 4294967296 * ((e + f + g + i) + 256 * (f + g + i) + 65536 * ((g + i) + 256 * i)) := by omega
theorem dgd3 (a b c d e f g i : Nat) : ((a + b + c + d) + 256 * (b + c + d + e) + 65536 * ((c + d + e + f) + 256 * (d + e + f + g))) + 4294967296 * ((e + f + g + i) + 256 * (f + g + i) + 65536 * ((g + i) + 256 * i)) + ((e + f + g + i) + 256 * (f + g + i) + 65536 * ((g + i) + 256 * i))
   = (a + b + c + d + e + f + g + i) + 128 * (2 * (b + c + d + e + f + g + i) + 512 * ((c + d + e + f) + 256 * (d + e + f + g)) + 33554432 * ((e + f + g + i) + 256 * (f + g + i) + 65536 * ((g + i) + 256 * i)) + 512 * ((g + i) + 256 * i)) := by omega
theorem dgl1 (a b c : Nat) (ha : a ≤ 8) (hb : b ≤ 8) (hc : c ≤ 8) : a + b + 256 * (b + c) < 65536 := by omega
theorem dgl2 (a b c d e f g : Nat) (ha : a ≤ 8) (hb : b ≤ 8) (hc : c ≤ 8) (hd : d ≤ 8) (he : e ≤ 8) (hf : f ≤ 8) (hg : g ≤ 8) : (a + b + c + d) + 256 * (b + c + d + e) + 65536 * ((c + d + e + f) + 256 * (d + e + f + g)) < 4294967296 := by omega
theorem dgl3 (a b c d e f g i : Nat) (ha : a ≤ 8) (hb : b ≤ 8) (hc : c ≤ 8) (hd : d ≤ 8) (he : e ≤ 8) (hf : f ≤ 8) (hg : g ≤ 8) (hi : i ≤ 8) : a + b + c + d + e + f + g + i < 128 := by omega
theorem digs8 (X a b c d e f g i : Nat) (h : X = a + 256 * (b + 256 * (c + 256 * (d + 256 * (e + 256 * (f + 256 * (g + 256 * i))))))) (ha : a ≤ 8) (hb : b ≤ 8) (hc : c ≤ 8) (hd : d ≤ 8) (he : e ≤ 8) (hf : f ≤ 8) (hg : g ≤ 8) (hi : i ≤ 8) :
    (X + X / 256 + (X + X / 256) / 65536 + (X + X / 256 + (X + X / 256) / 65536) / 4294967296) % 128 = a + b + c + d + e + f + g + i := by
  have q1 : X / 256 = b + 256 * (c + 256 * (d + 256 * (e + 256 * (f + 256 * (g + 256 * i))))) := (congrArg (· / 256) h).trans (dv8 256 _ _ (Nat.lt_of_le_of_lt ha (by decide)))
  have r1 := (congrArg (X + ·) q1).trans ((congrArg (· + _) h).trans (dgd1 a b c d e f g i))
  have r2 := (congrArg (· / 65536) r1).trans (dv8 65536 _ _ (dgl1 _ _ _ ha hb hc))
  have r3 := (congrArg (X + X / 256 + ·) r2).trans ((congrArg (· + _) r1).trans (dgd2 a b c d e f g i))
  have r4 := (congrArg (· / 4294967296) r3).trans (dv8 4294967296 _ _ (dgl2 _ _ _ _ _ _ _ ha hb hc hd he hf hg))
  have r5 := (congrArg (X + X / 256 + (X + X / 256) / 65536 + ·) r4).trans ((congrArg (· + _) r3).trans (dgd3 a b c d e f g i))
  exact (congrArg (· % 128) r5).trans ((Nat.add_mul_mod_self_left _ 128 _).trans (Nat.mod_eq_of_lt (dgl3 _ _ _ _ _ _ _ _ ha hb hc hd he hf hg hi)))
theorem val8_lt (x a b c d e f g i : Nat) (h : x = a + 256 * (b + 256 * (c + 256 * (d + 256 * (e + 256 * (f + 256 * (g + 256 * i))))))) (ha : a ≤ 8) (hb : b ≤ 8) (hc : c ≤ 8) (hd : d ≤ 8) (he : e ≤ 8) (hf : f ≤ 8) (hg : g ≤ 8) (hi : i ≤ 8) : x < 2 ^ 60 := by
  subst h; omega
theorem pop4_val (x : BitVec 64) (l : List Nat) (h : x.toNat = val 8 l) (hl : l.length = 8) (hd : ∀ d ∈ l, d ≤ 8) : (pop4 x).toNat = l.sum := by
  obtain ⟨a, b, c, d, e, f, g, i, rfl⟩ := eight hl
  simp only [List.mem_cons, List.not_mem_nil, or_false, forall_eq_or_imp, forall_eq] at hd
  obtain ⟨ha, hb, hc, hd', he, hf, hg, hi⟩ := hd
  have h' : x.toNat = a + 256 * (b + 256 * (c + 256 * (d + 256 * (e + 256 * (f + 256 * (g + 256 * i)))))) := by simpa [val] using h
  have hx := val8_lt _ _ _ _ _ _ _ _ _ h' ha hb hc hd' he hf hg hi
  have hs := digs8 _ _ _ _ _ _ _ _ _ h' ha hb hc hd' he hf hg hi
  clear h h'
  have e1 : (x + x >>> 8).toNat = (x.toNat + x.toNat / 256) := by
    rw [BitVec.toNat_add, BitVec.toNat_ushiftRight, Nat.shiftRight_eq_div_pow]; exact Nat.mod_eq_of_lt (by omega)
  have e2 : ((x + x >>> 8) + (x + x >>> 8) >>> 16).toNat = (x + x >>> 8).toNat + (x + x >>> 8).toNat / 65536 := by
    rw [BitVec.toNat_add (x + x >>> 8), BitVec.toNat_ushiftRight, Nat.shiftRight_eq_div_pow]; exact Nat.mod_eq_of_lt (by omega)
  have e3 : (((x + x >>> 8) + (x + x >>> 8) >>> 16) + ((x + x >>> 8) + (x + x >>> 8) >>> 16) >>> 32).toNat = ((x + x >>> 8) + (x + x >>> 8) >>> 16).toNat + ((x + x >>> 8) + (x + x >>> 8) >>> 16).toNat / 4294967296 := by
    rw [BitVec.toNat_add ((x + x >>> 8) + (x + x >>> 8) >>> 16), BitVec.toNat_ushiftRight, Nat.shiftRight_eq_div_pow]; exact Nat.mod_eq_of_lt (by omega)
  unfold pop4
  have e7 : (127#64).toNat = 2 ^ 7 - 1 := rfl
  rw [BitVec.toNat_and, e7, Nat.and_two_pow_sub_one_eq_mod]
  rw [e2, e1] at e3
  refine (congrArg (· % 2 ^ 7) e3).trans (hs.trans ?_)
  simp only [List.sum_cons, List.sum_nil]; omega
theorem sixteen {l : List Nat} (h : l.length = 16) : ∃ a b c d e f g i a' b' c' d' e' f' g' i', l = [a, b, c, d, e, f, g, i, a', b', c', d', e', f', g', i'] := by
  match l, h with
  | [a, b, c, d, e, f, g, i, a', b', c', d', e', f', g', i'], _ => exact ⟨a, b, c, d, e, f, g, i, a', b', c', d', e', f', g', i', rfl⟩
theorem pop3_val (x : BitVec 64) (l : List Nat) (h : x.toNat = val 4 l) (hl : l.length = 16) (hd : ∀ d ∈ l, d ≤ 4) : (pop3 x).toNat = val 8 (pairs l) := by
  have hm : m2.toNat = mask 4 8 := by decide
  obtain ⟨a, b, c, d, e, f, g, i, a', b', c', d', e', f', g', i', rfl⟩ := sixteen hl
  have hz : val 4 [b, c, d, e, f, g, i, a', b', c', d', e', f', g', i'] = val 4 [b, c, d, e, f, g, i, a', b', c', d', e', f', g', i', 0] := by simp only [val, Nat.mul_zero, Nat.add_zero]
  have hsum : x.toNat / 2 ^ 4 + x.toNat = val 4 [b + a, c + b, d + c, e + d, f + e, g + f, i + g, a' + i, b' + a', c' + b', d' + c', e' + d', f' + e', g' + f', i' + g', 0 + i'] := by
    have ha := hd a (by simp)
    have hq := val_div 4 a [b, c, d, e, f, g, i, a', b', c', d', e', f', g', i'] (by omega)
    rw [h, hq, hz]
    exact val_zip 4 [b, c, d, e, f, g, i, a', b', c', d', e', f', g', i', 0] [a, b, c, d, e, f, g, i, a', b', c', d', e', f', g', i'] rfl
  have hb : ∀ z ∈ [b + a, c + b, d + c, e + d, f + e, g + f, i + g, a' + i, b' + a', c' + b', d' + c', e' + d', f' + e', g' + f', i' + g', 0 + i'], z < 2 ^ 4 := by
    clear h hz hsum
    simp only [List.mem_cons, List.not_mem_nil, or_false, forall_eq_or_imp, forall_eq] at hd ⊢
    obtain ⟨q1, q2, q3, q4, q5, q6, q7, q8, q9, q10, q11, q12, q13, q14, q15, q16⟩ := hd
    refine ⟨?_, ?_, ?_, ?_, ?_, ?_, ?_, ?_, ?_, ?_, ?_, ?_, ?_, ?_, ?_, ?_⟩ <;> omega
  have hlt := val_lt 4 0 _ hb
  unfold pop3
  rw [BitVec.toNat_and, BitVec.toNat_add, BitVec.toNat_ushiftRight, Nat.shiftRight_eq_div_pow, hsum, Nat.mod_eq_of_lt (by simpa using hlt), hm, land_mask 4 8 _ hb (by simp)]
  simp only [evens, pairs]
  rw [Nat.add_comm b, Nat.add_comm d, Nat.add_comm f, Nat.add_comm i, Nat.add_comm b', Nat.add_comm d', Nat.add_comm f', Nat.add_comm i']
theorem pop_sum (x : BitVec 64) : (pop x).toNat = (bitsN x.toNat 64).sum := by
  obtain ⟨h1, h2, h3⟩ := bits_val 64 x.toNat x.isLt
  have p1 := pop1_val x
  have s1 := pairs_sum (bitsN x.toNat 64) 32 (by rw [h2])
  have d1 := pairs_le 1 _ h3
  have p2 := pop2_val _ _ p1 s1.2 d1
  have s2 := pairs_sum _ 16 (by rw [s1.2])
  have d2 := pairs_le 2 _ d1
  have p3 := pop3_val _ _ p2 s2.2 d2
  have s3 := pairs_sum _ 8 (by rw [s2.2])
  have d3 := pairs_le 4 _ d2
  have p4 := pop4_val _ _ p3 s3.2 d3
  unfold pop
  rw [p4, s3.1, s2.1, s1.1]
theorem shl_one (k : Nat) (h : k < 64) : (1#64 <<< k).toNat = 2 ^ k := by
  rw [BitVec.toNat_shiftLeft, Nat.shiftLeft_eq]
  have : 2 ^ k < 2 ^ 64 := Nat.pow_lt_pow_right (by decide) h
  simp only [BitVec.toNat_ofNat]
  omega
theorem pop_one (x : BitVec 64) : pop x = 1#64 ↔ ∃ k, k < 64 ∧ x = 1#64 <<< k := by
  constructor
  · intro h
    have h1 := pop_sum x
    rw [h] at h1
    obtain ⟨j, hj, e⟩ := (bits_sum_one 64 x.toNat x.isLt).1 (by simpa using h1.symm)
    exact ⟨j, hj, BitVec.eq_of_toNat_eq (by rw [shl_one j hj, e])⟩
  · rintro ⟨k, hk, rfl⟩
    apply BitVec.eq_of_toNat_eq
    rw [pop_sum, shl_one k hk]
    exact (bits_sum_one 64 (2 ^ k) (Nat.pow_lt_pow_right (by decide) hk)).2 ⟨k, hk, rfl⟩

/-- Which power of 2. -/
def powW (x : BitVec 64) : BitVec 64 × Bool :=
  match (List.range 64).find? (fun k => x == 1#64 <<< k) with
  | some k => (BitVec.ofNat 64 k, true)
  | none => (0#64, false)
theorem shl_inj (j k : Nat) (hj : j < 64) (hk : k < 64) (h : 1#64 <<< j = 1#64 <<< k) : j = k := by
  have := congrArg BitVec.toNat h
  rw [shl_one j hj, shl_one k hk] at this
  exact (Nat.pow_right_inj (by decide)).1 this
theorem powW_yes (k : Nat) (hk : k < 64) : powW (1#64 <<< k) = (BitVec.ofNat 64 k, true) := by
  unfold powW
  cases h : (List.range 64).find? (fun j => 1#64 <<< k == 1#64 <<< j) with
  | none => rw [List.find?_eq_none] at h; have := h k (by simpa using hk); simp at this
  | some j =>
    have h1 := List.find?_some h
    have h2 := List.mem_of_find?_eq_some h
    rw [shl_inj k j hk (by simpa using h2) (by simpa using h1)]
theorem powW_no (x : BitVec 64) (h : ∀ k, k < 64 → x ≠ 1#64 <<< k) : powW x = (0#64, false) := by
  unfold powW
  cases hf : (List.range 64).find? (fun j => x == 1#64 <<< j) with
  | none => rfl
  | some j =>
    have h1 := List.find?_some hf
    have h2 := List.mem_of_find?_eq_some hf
    exact (h j (by simpa using h2) (by simpa using h1)).elim
theorem ofNat_int (k : Nat) (hk : k < 64) : (BitVec.ofNat 64 k).toInt = (k : Int) := by
  rw [BitVec.toInt_eq_toNat_of_msb]
  · simp; omega
  · rw [BitVec.msb_eq_decide, decide_eq_false_iff_not]; simp; omega
end Go.Ux.Word
