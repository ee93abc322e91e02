/- An image's bytes, from front to back. No program in sight. -/
import Derived.Test.YtljcijdkoncodaaImgBig
namespace Go.Ux.Image
open Go Go.Ux
def headOf (I : Img) : List UInt8 := magic ++ be 4 I.entry ++ be 2 (I.syms.length : Int)
def bytesTo (I : Img) (i : Nat) : List UInt8 := headOf I ++ symsB (I.syms.take i)
def codeTo (I : Img) (i : Nat) : List UInt8 := bytesTo I I.syms.length ++ be 4 (I.words.length : Int) ++ wordsB (I.words.take i)
theorem headOf_length (I : Img) : (headOf I).length = 10 := by simp [headOf, magic, be_length]
theorem bytesTo_zero (I : Img) : bytesTo I 0 = headOf I := by simp [bytesTo, symsB]
theorem codeTo_zero (I : Img) : codeTo I 0 = bytesTo I I.syms.length ++ be 4 (I.words.length : Int) := by simp [codeTo, wordsB]
theorem bytesTo_step (I : Img) (i : Nat) (h : i < I.syms.length) : bytesTo I (i + 1) = bytesTo I i ++ be 1 ((I.syms[i]).1.length : Int) ++ (I.syms[i]).1 ++ be 4 (I.syms[i]).2 := by
  unfold bytesTo symsB
  rw [List.take_succ_eq_append_getElem h, List.flatMap_append]
  simp only [List.flatMap_cons, List.flatMap_nil, symB, List.append_nil, List.append_assoc]
theorem bytesTo_len (I : Img) (i : Nat) (h : i < I.syms.length) : (bytesTo I (i + 1)).length = (bytesTo I i).length + 1 + (I.syms[i]).1.length + 4 := by
  rw [bytesTo_step I i h]; simp only [List.length_append, be_length]
theorem codeTo_step (I : Img) (i : Nat) (h : i < I.words.length) : codeTo I (i + 1) = codeTo I i ++ be 4 ((I.words[i]).toNat : Int) := by
  unfold codeTo wordsB
  rw [List.take_succ_eq_append_getElem h, List.flatMap_append]
  simp only [List.flatMap_cons, List.flatMap_nil, List.append_nil, List.append_assoc]
theorem codeTo_len (I : Img) (i : Nat) (h : i < I.words.length) : (codeTo I (i + 1)).length = (codeTo I i).length + 4 := by
  rw [codeTo_step I i h]; simp only [List.length_append, be_length]
theorem codeTo_all (I : Img) : codeTo I I.words.length = bytesOf I := by
  simp [codeTo, bytesTo, headOf, bytesOf, List.append_assoc]
theorem bytesTo_le (I : Img) (hn : ∀ s ∈ I.syms, s.1.length ≤ 64) : ∀ i, i ≤ I.syms.length → (bytesTo I i).length ≤ 10 + 69 * i
  | 0, _ => by rw [bytesTo_zero, headOf_length]; omega
  | i + 1, h => by
    rw [bytesTo_len I i (by omega)]
    have := bytesTo_le I hn i (by omega)
    have := hn _ (List.getElem_mem (show i < I.syms.length by omega))
    omega
theorem codeTo_le (I : Img) : ∀ i, i ≤ I.words.length → (codeTo I i).length = (bytesTo I I.syms.length).length + 4 + 4 * i
  | 0, _ => by rw [codeTo_zero, List.length_append, be_length]
  | i + 1, h => by rw [codeTo_len I i (by omega), codeTo_le I i (by omega)]; omega
theorem symsOk_names (nw : Nat) : ∀ (l : List (List UInt8 × Int)) (ns : List (List UInt8)) (last : Int), symsOk nw ns last l = true → ∀ s ∈ l, 1 ≤ s.1.length ∧ s.1.length ≤ 64 ∧ last < s.2 ∧ s.2 < 4 * (nw : Int)
  | [], _, _, _, s, hs => by cases hs
  | a :: r, ns, last, h, s, hs => by
    simp only [symsOk, Bool.and_eq_true] at h
    obtain ⟨h1, h2⟩ := h
    simp only [symOk, Bool.and_eq_true, decide_eq_true_eq] at h1
    rcases List.mem_cons.1 hs with rfl | hs
    · exact ⟨by omega, by omega, by omega, by omega⟩
    · have := symsOk_names nw r _ _ h2 s hs
      exact ⟨by omega, by omega, by omega, by omega⟩
theorem right_bounds {I : Img} (h : rightB I = true) : 1 ≤ I.syms.length ∧ I.syms.length ≤ 65 ∧ (∀ s ∈ I.syms, s.1.length ≤ 64) ∧ 1 ≤ I.words.length ∧ I.words.length ≤ 262144 ∧ 0 ≤ I.entry ∧ I.entry ≤ 524288 ∧ ∀ s ∈ I.syms, 1 ≤ s.1.length ∧ 0 ≤ s.2 ∧ s.2 < 4 * (I.words.length : Int) := by
  simp only [rightB, Bool.and_eq_true] at h
  obtain ⟨⟨⟨h2, h3⟩, h4⟩, h5⟩ := h
  simp only [right2, right3, right4, Bool.and_eq_true, decide_eq_true_eq] at h2 h3 h4
  have := symsOk_names _ _ _ _ h5
  exact ⟨by omega, by omega, fun s hs => by have := this s hs; omega, by omega, by omega, by omega, by omega, fun s hs => by have := this s hs; omega⟩
end Go.Ux.Image
namespace Go.Ux
open Go
theorem srcSt {P : Program} {w : World} {tx : TypeId} (hk : P.underlying tx = some .string) (l : List UInt8) : Src P 1 tx (St l) l.length (bs l) w := by
  have h := Src.ofString (P := P) (w := w) hk ⟨l.toArray⟩
  have e : byteCells ⟨l.toArray⟩ = bs l := by simp [byteCells, bs]
  rw [e] at h
  exact h
theorem conv_u8 {P : Program} {s u : TypeId} {td : TypeDesc} (h1 : P.underlying s = some td) (h2 : P.underlying u = some (.int .u8)) (n : Nat) : ConvR P s u (IN n) (.int .u8 ((Image.dig (n : Int) 0).toNat : Int)) := by
  have h := ConvR.byte (P := P) (n := (n : Int)) (i := 0) h1 h2
  rw [show ((2 ^ (8 * 0) : Nat) : Int) = 1 from rfl, Int.ediv_one] at h
  exact h
theorem From.slice {B g : Nat} {n c : Nat} (h : B ≤ g) : From B (.slice (some ⟨g, 0, none⟩) n c) := fun k hk => by cases hk; exact h
theorem ne_slice {g b : Nat} {n c : Nat} (h : b < g) : (Value.slice (some ⟨g, 0, none⟩) n c).ownBlock ≠ some b := by
  intro e
  have : g = b := by simpa [Value.ownBlock] using e
  omega
end Go.Ux
