/- Bytes read so far. No program in sight. -/
import Derived.Test.YtljcijdkoncodaaImgParse
namespace Go.Ux.Image
open Go Go.Ux
def Pre (d L : List UInt8) (z : Int) : Prop := z = -1 ∨ ∃ a : Nat, z = (a : Int) ∧ a ≤ d.length ∧ d.take a = L
theorem Pre.range {d L : List UInt8} {z : Int} (h : Pre d L z) : -1 ≤ z ∧ z ≤ d.length := by
  rcases h with rfl | ⟨a, rfl, h, _⟩
  · omega
  · omega
theorem Pre.nat {d L : List UInt8} {z : Int} (h : Pre d L z) (h0 : 0 ≤ z) : ∃ a : Nat, z = (a : Int) ∧ a ≤ d.length ∧ d.take a = L := by
  rcases h with rfl | h
  · omega
  · exact h
theorem take_next {d L : List UInt8} {a k : Nat} (h : d.take a = L) (hk : a + k ≤ d.length) : d.take (a + k) = L ++ be k ((num ((d.drop a).take k) : Nat) : Int) := by
  rw [be_num _ k (by rw [List.length_take, List.length_drop]; omega), List.take_add, h]
theorem drop_next {d x r : List UInt8} {a k : Nat} (h : d.drop a = x ++ r) (hk : x.length = k) : d.drop (a + k) = r := by
  rw [← List.drop_drop, h, List.drop_left' hk]
theorem drop_len {d x r : List UInt8} {a : Nat} (h : d.drop a = x ++ r) (h0 : a ≤ d.length) : a + x.length ≤ d.length := by
  have := congrArg List.length h
  rw [List.length_drop, List.length_append] at this
  omega
theorem take_name {d L : List UInt8} {a m : Nat} (h : d.take a = L) : d.take (a + m) = L ++ (d.drop a).take m := by rw [List.take_add, h]
theorem name_len {d : List UInt8} {a m : Nat} (h : (m : Int) ≤ (d.length : Int) - a) : ((d.drop a).take m).length = m := by rw [List.length_take, List.length_drop]; omega
theorem magic_of {d : List UInt8} (h : 4 ≤ d.length) (e : d.take 4 = magic) : Pre d magic 4 := .inr ⟨4, rfl, h, e⟩
theorem pre_sym {d H NB : List UInt8} {m : Nat} {q z : Int} {ss : List (List UInt8 × Int)} (e : NB.length = m) (h : Pre d (H ++ symsB ss ++ be 1 (m : Int) ++ NB ++ be 4 q) z) : Pre d (H ++ symsB (ss ++ [(NB, q)])) z := by
  subst e
  rw [symsB_append]
  simpa only [symB, List.append_assoc] using h
theorem pre_word {d L : List UInt8} {c : Nat} {ww : List (BitVec 32)} (h : d.take c = L ++ wordsB ww) (hk : c + 4 ≤ d.length) : d.take (c + 4) = L ++ wordsB (ww ++ [BitVec.ofNat 32 (num ((d.drop c).take 4))]) := by
  have hn : num ((d.drop c).take 4) < 4294967296 := by
    have := num_lt ((d.drop c).take 4)
    rwa [List.length_take, List.length_drop, Nat.min_eq_left (by omega)] at this
  rw [take_next h hk, wordsB_append, BitVec.toNat_ofNat, Nat.mod_eq_of_lt (by omega), List.append_assoc]
theorem bytesOf_M (e : Int) (ss : List (List UInt8 × Int)) (ww : List (BitVec 32)) (a b : Nat) (ha : ss.length = a) (hb : ww.length = b) : bytesOf ⟨e, ss, ww⟩ = magic ++ be 4 e ++ be 2 (a : Int) ++ symsB ss ++ be 4 (b : Int) ++ wordsB ww := by
  subst ha hb; rfl
end Go.Ux.Image
namespace Go.Ux
open Go
theorem Own.lt0 {w : World} {size : Nat} {v : Value} {n : Nat} {xs : List Value} (h : Own w size v n xs) (h0 : n = 0 → v = .slice none 0 0) (hs : 0 < size) {g : Nat} (hg : v.ownBlock = some g) : g < w.heap.size := by
  by_cases e : n = 0
  · rw [h0 e] at hg; cases hg
  · exact h.lt (by omega) hs hg
section ops
variable {P : Program} {ops : Array Oper} {l : List Oper} {n : Nat} {f : Fr} {w : World} {Q : Exit → Fr → World → Prop}
variable {d : Nat} {ty : TypeId} {pos : String} {aft : Array Edge}
/-- 's[i:j]' -/
theorem WL.sliceSl {t e sz m i j : Nat} {x lo hi : Operand} {v : Value} {xs : List Value} {kd kd' : IntKind} (ht : elemT P t = some e) (hz : sizeT P e = some sz) (hx : ev f x = v) (hlo : ev f lo = .int kd (i : Int)) (hhi : ev f hi = .int kd' (j : Int)) (hij : i ≤ j) (hj : j ≤ m) (h : Sl w v sz m xs) (hd : decide (d < n) = true)
    (k : ∀ v', Sl w v' sz (j - i) ((xs.drop (i * sz)).take ((j - i) * sz)) → WL P ops l n (upd f d v') w Q) :
    WL P ops (⟨some d, .slice t x (some lo) (some hi) none, ty, pos, aft, none⟩ :: l) n f w Q := by
  obtain ⟨ao, cap, rfl, hc, hl, h0⟩ := h
  refine WL.sliceLH ht hz hx hlo hhi hij (Nat.le_trans hj hc) hd fun ao' hao => k _ ⟨ao', cap - i, rfl, by omega, ?_, ?_⟩
  · rw [List.length_take, List.length_drop, hl, ← Nat.sub_mul]
    exact Nat.min_eq_left (Nat.mul_le_mul_right _ (by omega))
  · by_cases hji : j = i
    · left; omega
    · right
      rcases h0 with h0 | ⟨b, o, rfl, hcl⟩
      · omega
      · refine ⟨b, o + i * sz, ?_, fun q u hu => ?_⟩
        · rw [hao (by omega)]; simp [addr_add]
        · rw [List.getElem?_take] at hu
          split at hu
          · rw [List.getElem?_drop] at hu
            have := hcl _ _ hu
            rwa [← Nat.add_assoc] at this
          · cases hu
end ops
end Go.Ux
