/- Bytes tell the image: what begins with an image's bytes begins with no other's. No program in sight. -/
import Derived.Test.YtljcijdkoncodaaImgPre
namespace Go.Ux.Image
open Go Go.Ux
theorem be_inj {k : Nat} {a b : Int} {r s : List UInt8} (h : be k a ++ r = be k b ++ s) (ha : 0 ≤ a ∧ a < ((256 ^ k : Nat) : Int)) (hb : 0 ≤ b ∧ b < ((256 ^ k : Nat) : Int)) : a = b ∧ r = s := by
  obtain ⟨h1, h2⟩ := List.append_inj h (by rw [be_length, be_length])
  refine ⟨?_, h2⟩
  rw [← num_be' k a ha.1 ha.2, ← num_be' k b hb.1 hb.2, h1]
def SymIn (s : List UInt8 × Int) : Prop := s.1.length ≤ 64 ∧ 0 ≤ s.2 ∧ s.2 < 4294967296
theorem symsB_inj : ∀ (l m : List (List UInt8 × Int)) (r s : List UInt8), l.length = m.length → (∀ x ∈ l, SymIn x) → (∀ x ∈ m, SymIn x) → symsB l ++ r = symsB m ++ s → l = m ∧ r = s
  | [], [], r, s, _, _, _, h => ⟨rfl, h⟩
  | [], _ :: _, _, _, h, _, _, _ => by cases h
  | _ :: _, [], _, _, h, _, _, _ => by cases h
  | x :: l, y :: m, r, s, hl, hx, hy, h => by
    have h1 := hx x (by simp)
    have h2 := hy y (by simp)
    obtain ⟨n, a⟩ := x
    obtain ⟨n', a'⟩ := y
    simp only [symsB, List.flatMap_cons, symB, List.append_assoc] at h
    obtain ⟨e1, h⟩ := be_inj h ⟨by omega, by have := h1.1; simp at this; omega⟩ ⟨by omega, by have := h2.1; simp at this; omega⟩
    obtain ⟨e2, h⟩ := List.append_inj h (by omega)
    obtain ⟨e3, h⟩ := be_inj h ⟨h1.2.1, h1.2.2⟩ ⟨h2.2.1, h2.2.2⟩
    obtain ⟨e4, e5⟩ := symsB_inj l m r s (by simpa using hl) (fun x h => hx x (by simp [h])) (fun x h => hy x (by simp [h])) h
    exact ⟨by rw [e2, e3, e4], e5⟩
theorem wordsB_inj : ∀ (l m : List (BitVec 32)) (r s : List UInt8), l.length = m.length → wordsB l ++ r = wordsB m ++ s → l = m ∧ r = s
  | [], [], r, s, _, h => ⟨rfl, h⟩
  | [], _ :: _, _, _, h, _ => by cases h
  | _ :: _, [], _, _, h, _ => by cases h
  | x :: l, y :: m, r, s, hl, h => by
    simp only [wordsB, List.flatMap_cons, List.append_assoc] at h
    have hx := x.isLt
    have hy := y.isLt
    obtain ⟨e1, h⟩ := be_inj h ⟨by omega, by omega⟩ ⟨by omega, by omega⟩
    obtain ⟨e4, e5⟩ := wordsB_inj l m r s (by simpa using hl) h
    have e : x = y := BitVec.eq_of_toNat_eq (by omega)
    exact ⟨by rw [e, e4], e5⟩
theorem bytes_inj {I K : Img} (hI : rightB I = true) (hK : rightB K = true) {r s : List UInt8} (h : bytesOf I ++ r = bytesOf K ++ s) : I = K ∧ r = s := by
  obtain ⟨a1, a2, a3, a4, a5, a6, a7, a8⟩ := right_bounds hI
  obtain ⟨b1, b2, b3, b4, b5, b6, b7, b8⟩ := right_bounds hK
  simp only [bytesOf, List.append_assoc] at h
  have h := List.append_cancel_left h
  obtain ⟨e1, h⟩ := be_inj h ⟨by omega, by omega⟩ ⟨by omega, by omega⟩
  obtain ⟨e2, h⟩ := be_inj h ⟨by omega, by omega⟩ ⟨by omega, by omega⟩
  obtain ⟨e3, h⟩ := symsB_inj _ _ _ _ (by omega) (fun x hx => ⟨a3 x hx, by have := a8 x hx; omega, by have := a8 x hx; omega⟩) (fun x hx => ⟨b3 x hx, by have := b8 x hx; omega, by have := b8 x hx; omega⟩) h
  obtain ⟨e4, h⟩ := be_inj h ⟨by omega, by omega⟩ ⟨by omega, by omega⟩
  obtain ⟨e5, hf⟩ := wordsB_inj _ _ _ _ (by omega) h
  obtain ⟨en, sy, wo⟩ := I
  obtain ⟨en', sy', wo'⟩ := K
  simp only at e1 e3 e5
  exact ⟨by rw [e1, e3, e5], hf⟩
theorem bytes_eq {I K : Img} (hI : rightB I = true) (hK : rightB K = true) : (bytesOf I == bytesOf K) = (I == K) := by
  rw [Bool.eq_iff_iff, beq_iff_eq, beq_iff_eq]
  refine ⟨fun h => ?_, fun h => by rw [h]⟩
  exact (bytes_inj (r := []) (s := []) hI hK (by rw [h])).1
/-- More bytes behind are no image's; fewer neither. -/
theorem bytes_more {I : Img} (hI : rightB I = true) {m : List UInt8} (hm : 0 < m.length) : ∀ K, rightB K = true → bytesOf K ≠ bytesOf I ++ m := fun K hK h => by
  have := (bytes_inj (r := []) (s := m) hK hI (by rw [List.append_nil, h])).2
  rw [← this] at hm; exact absurd hm (by decide)
theorem bytes_less {I : Img} (hI : rightB I = true) {k : Nat} (hk : k < (bytesOf I).length) : ∀ K, rightB K = true → bytesOf K ≠ (bytesOf I).take k := fun K hK h => by
  have e : bytesOf K ++ (bytesOf I).drop k = bytesOf I ++ [] := by rw [h, List.take_append_drop, List.append_nil]
  have := congrArg List.length (bytes_inj hK hI e).2
  rw [List.length_drop] at this
  simp at this; omega
theorem bytesOf_le {I : Img} (h : rightB I = true) : 14 ≤ (bytesOf I).length ∧ (bytesOf I).length ≤ 14 + 69 * I.syms.length + 4 * I.words.length := by
  obtain ⟨_, _, h3, _⟩ := right_bounds h
  have h1 := codeTo_le I I.words.length (Nat.le_refl _)
  have h2 := bytesTo_le I h3 I.syms.length (Nat.le_refl _)
  have h4 : 10 ≤ (bytesTo I I.syms.length).length := by unfold bytesTo; rw [List.length_append, headOf_length]; omega
  rw [← codeTo_all]; omega
end Go.Ux.Image
