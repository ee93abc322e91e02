/- When an image is right, symbol by symbol. No program in sight. -/
import Derived.Test.YtljcijdkoncodaaImgNum
namespace Go.Ux.Image
open Go.Ux
def namesB (l : List (List UInt8 × Int)) (i : Nat) : List (List UInt8) := ((l.take i).map Prod.fst).reverse
def lastAt (l : List (List UInt8 × Int)) : Nat → Int
  | 0 => -1
  | i + 1 => (l.getD i ([], 0)).2
def restOk (I : Img) (i : Nat) : Bool := symsOk I.words.length (namesB I.syms i) (lastAt I.syms i) (I.syms.drop i)
theorem restOk_step (I : Img) (i : Nat) (h : i < I.syms.length) : restOk I i = (symOk I.words.length (namesB I.syms i) (lastAt I.syms i) I.syms[i] && restOk I (i + 1)) := by
  unfold restOk
  rw [List.drop_eq_getElem_cons h]
  have h1 : namesB I.syms (i + 1) = (I.syms[i]).1 :: namesB I.syms i := by
    unfold namesB; rw [List.take_succ_eq_append_getElem h, List.map_append, List.reverse_append]; rfl
  have h2 : lastAt I.syms (i + 1) = (I.syms[i]).2 := by
    show (I.syms.getD i ([], 0)).2 = _
    rw [List.getD, List.getElem?_eq_getElem h]; rfl
  rw [h1, h2]; rfl
theorem restOk_end (I : Img) (i : Nat) (h : I.syms.length ≤ i) : restOk I i = true := by
  unfold restOk; rw [List.drop_of_length_le h]; rfl
def headBad (I : Img) : Bool := decide (I.entry < 0) || decide (524288 < I.entry) || (I.entry.tmod 8 != 0) || decide ((I.syms.length : Int) < 1) || decide (65 < (I.syms.length : Int)) || decide ((I.words.length : Int) < 1) || decide (262144 < (I.words.length : Int))
theorem tmod8 (a : Int) (h : 0 ≤ a) : a.tmod 8 = a % 8 := Int.tmod_eq_emod_of_nonneg h
theorem headBad_no (I : Img) (h : headBad I = true) : rightB I = false := by
  cases hr : rightB I with
  | false => rfl
  | true =>
    exfalso
    simp only [headBad, rightB, right2, right3, right4, Bool.or_eq_true, Bool.and_eq_true, decide_eq_true_eq, bne_iff_ne, beq_iff_eq, ne_eq] at h hr
    rw [tmod8 _ (by omega)] at h
    omega
theorem headBad_ok (I : Img) (h : headBad I = false) : rightB I = (headAt I.syms == 0 && restOk I 0) := by
  have h5 : right5 I = restOk I 0 := rfl
  simp only [headBad, Bool.or_eq_false_iff, decide_eq_false_iff_not, bne_eq_false_iff_eq] at h
  rw [tmod8 _ (by omega)] at h
  have h2 : right2 I = true := by simp only [right2, Bool.and_eq_true, decide_eq_true_eq, beq_iff_eq]; omega
  have h3 : right3 I = true := by simp only [right3, Bool.and_eq_true, decide_eq_true_eq]; omega
  have h4 : right4 I = (headAt I.syms == 0) := by
    have : (decide (1 ≤ I.syms.length) && decide (I.syms.length ≤ 65)) = true := by simp only [Bool.and_eq_true, decide_eq_true_eq]; omega
    unfold right4; rw [this]; rfl
  rw [rightB, h2, h3, h4, h5]; rfl
def symBad (nw i : Nat) (last : Int) (s : List UInt8 × Int) : Bool :=
  decide ((s.1.length : Int) < 1) || decide (64 < (s.1.length : Int)) || (s.2.tmod 4 != 0) || decide (((4 * nw : Nat) : Int) ≤ s.2) || (((i : Int) == 0) && (s.2 != 0)) || (decide (0 < (i : Int)) && decide (s.2 ≤ last))
theorem tmod4 (a : Int) : (a.tmod 4 != 0) = (a % 4 != 0) := by
  rw [Bool.eq_iff_iff]
  simp only [bne_iff_ne, ne_eq]
  rw [Int.tmod_eq_emod]
  split <;> omega
def todo (I : Img) (i : Nat) : Bool := if i = 0 then headAt I.syms == 0 && restOk I 0 else restOk I i
theorem headAt_get' : ∀ (l : List (List UInt8 × Int)) (h : 0 < l.length), headAt l = (l[0]).2
  | [], h => absurd h (by decide)
  | _ :: _, _ => rfl
theorem headAt_get (I : Img) (h : 0 < I.syms.length) : headAt I.syms = (I.syms[0]).2 := headAt_get' _ h
theorem lastAt_get (l : List (List UInt8 × Int)) (i : Nat) (h : i < l.length) : lastAt l (i + 1) = (l[i]).2 := by
  show (l.getD i ([], 0)).2 = _
  rw [List.getD, List.getElem?_eq_getElem h]; rfl
theorem lastAt_pred (l : List (List UInt8 × Int)) (i : Nat) (h0 : 0 < i) (h : i - 1 < l.length) : lastAt l i = (l[i - 1]).2 := by
  have := lastAt_get l (i - 1) h
  rwa [show i - 1 + 1 = i by omega] at this
theorem symOk_bad {nw i : Nat} {ns : List (List UInt8)} {last : Int} {s : List UInt8 × Int} (hi : 0 < i) (h : symBad nw i last s = true) : symOk nw ns last s = false := by
  cases hr : symOk nw ns last s with
  | false => rfl
  | true =>
    exfalso
    rw [symBad, tmod4] at h
    simp only [symOk, Bool.or_eq_true, Bool.and_eq_true, decide_eq_true_eq, bne_iff_ne, beq_iff_eq, ne_eq] at h hr
    omega
theorem todo_bad {I : Img} {i : Nat} (hi : i < I.syms.length) (h : symBad I.words.length i (lastAt I.syms i) I.syms[i] = true) : todo I i = false := by
  unfold todo
  by_cases h0 : i = 0
  · subst h0
    rw [if_pos rfl, headAt_get I hi, restOk_step I 0 hi]
    by_cases hz : (I.syms[0]).2 = 0
    · have : symOk I.words.length (namesB I.syms 0) (lastAt I.syms 0) I.syms[0] = false := by
        cases hr : symOk I.words.length (namesB I.syms 0) (lastAt I.syms 0) I.syms[0] with
        | false => rfl
        | true =>
          exfalso
          rw [symBad, tmod4] at h
          simp only [symOk, Bool.or_eq_true, Bool.and_eq_true, decide_eq_true_eq, bne_iff_ne, beq_iff_eq, ne_eq] at h hr
          omega
      rw [this]; simp
    · rw [beq_eq_false_iff_ne.2 hz]; rfl
  · rw [if_neg h0, restOk_step I i hi, symOk_bad (by omega) h]; rfl
theorem todo_dup {I : Img} {i : Nat} (hi : i < I.syms.length) (h : (namesB I.syms i).contains (I.syms[i]).1 = true) : todo I i = false := by
  have hs : symOk I.words.length (namesB I.syms i) (lastAt I.syms i) I.syms[i] = false := by unfold symOk; rw [h]; simp
  unfold todo
  by_cases h0 : i = 0
  · subst h0; rw [if_pos rfl, restOk_step I 0 hi, hs]; simp
  · rw [if_neg h0, restOk_step I i hi, hs]; rfl
theorem todo_next {I : Img} {i : Nat} (hi : i < I.syms.length) (hl : 0 < i → 0 ≤ lastAt I.syms i) (h : symBad I.words.length i (lastAt I.syms i) I.syms[i] = false) (hc : (namesB I.syms i).contains (I.syms[i]).1 = false) :
    todo I i = todo I (i + 1) ∧ 0 ≤ lastAt I.syms (i + 1) := by
  have hla : i = 0 → lastAt I.syms i = -1 := fun e => by subst e; rfl
  rw [symBad, tmod4] at h
  simp only [Bool.or_eq_false_iff, Bool.and_eq_false_iff, decide_eq_false_iff_not, bne_eq_false_iff_eq, beq_eq_false_iff_ne, ne_eq] at h
  have hs : symOk I.words.length (namesB I.syms i) (lastAt I.syms i) I.syms[i] = true := by
    unfold symOk
    rw [hc]
    simp only [Bool.and_eq_true, decide_eq_true_eq, beq_iff_eq, Bool.not_false, and_true]
    omega
  refine ⟨?_, by rw [lastAt_get _ _ hi]; omega⟩
  unfold todo
  rw [if_neg (show ¬ i + 1 = 0 by omega)]
  by_cases h0 : i = 0
  · subst h0
    rw [if_pos rfl, restOk_step I 0 hi, hs, headAt_get I hi, show (I.syms[0]).2 = 0 by omega]; rfl
  · rw [if_neg h0, restOk_step I i hi, hs]; rfl
theorem todo_end (I : Img) (i : Nat) (hi : 0 < i) (h : I.syms.length ≤ i) : todo I i = true := by
  unfold todo; rw [if_neg (by omega), restOk_end I i h]
theorem dup_of {I : Img} {i k : Nat} (hi : i < I.syms.length) (hk : k < i) (e : (I.syms[k]).1 = (I.syms[i]).1) : (namesB I.syms i).contains (I.syms[i]).1 = true := by
  rw [List.contains_iff_mem]
  unfold namesB
  rw [List.mem_reverse, List.mem_map]
  exact ⟨I.syms[k], List.mem_take_iff_getElem.2 ⟨k, by omega, rfl⟩, e⟩
theorem nodup_of {I : Img} {i : Nat} (hi : i < I.syms.length) (h : ∀ k (hk : k < i), (I.syms[k]).1 ≠ (I.syms[i]).1) : (namesB I.syms i).contains (I.syms[i]).1 = false := by
  cases hc : (namesB I.syms i).contains (I.syms[i]).1 with
  | false => rfl
  | true =>
    rw [List.contains_iff_mem] at hc
    unfold namesB at hc
    rw [List.mem_reverse, List.mem_map] at hc
    obtain ⟨x, hx, e⟩ := hc
    obtain ⟨k, hk, rfl⟩ := List.mem_take_iff_getElem.1 hx
    exact absurd e (h k (by omega))
end Go.Ux.Image
