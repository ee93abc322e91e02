/- When an image is large, as the laws count. No program in sight. -/
import Derived.Test.YtljcijdkoncodaaImgRight
namespace Go.Ux.Image
open Go.Ux
def largeB (I : Img) : Bool := decide (70 < (I.syms.length : Int)) || decide (500 < (I.words.length : Int)) || I.syms.any fun s => decide (100 < (s.1.length : Int))
theorem largeB_at {I : Img} {i : Nat} (hi : i < I.syms.length) (h : decide (100 < ((I.syms[i]).1.length : Int)) = true) : largeB I = true := by
  have : (I.syms.any fun s => decide (100 < (s.1.length : Int))) = true := List.any_eq_true.2 ⟨_, List.getElem_mem hi, h⟩
  unfold largeB; rw [this]; simp
theorem largeB_none {I : Img} {i : Nat} (hi : I.syms.length ≤ i) (h1 : decide (70 < (I.syms.length : Int)) = false) (h2 : decide (500 < (I.words.length : Int)) = false)
    (h : ∀ m (_ : m < i) (h2 : m < I.syms.length), decide (100 < ((I.syms[m]).1.length : Int)) = false) : largeB I = false := by
  have : (I.syms.any fun s => decide (100 < (s.1.length : Int))) = false := by
    rw [List.any_eq_false]
    intro x hx
    obtain ⟨m, hm, rfl⟩ := List.getElem_of_mem hx
    rw [h m (by omega) hm]; decide
  unfold largeB; rw [h1, h2, this]; rfl
theorem largeB_no {I : Img} (h : largeB I = false) : I.syms.length ≤ 70 ∧ I.words.length ≤ 500 ∧ ∀ s ∈ I.syms, s.1.length ≤ 100 := by
  simp only [largeB, Bool.or_eq_false_iff, decide_eq_false_iff_not, List.any_eq_false, decide_eq_true_eq] at h
  exact ⟨by omega, by omega, fun s hs => by have := h.2 s hs; omega⟩
end Go.Ux.Image
