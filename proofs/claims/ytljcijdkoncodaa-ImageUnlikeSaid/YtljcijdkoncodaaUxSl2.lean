/- The walking engine: rules over slices of which only their elements are known. -/
import Derived.Test.YtljcijdkoncodaaUxMap
namespace Go.Ux
open Go

theorem Sl.ext' {w w' : World} {v : Value} {size n : Nat} {xs : List Value} (h : Sl w v size n xs) (m : Ext w w') : Sl w' v size n xs := h.ext m
theorem Sl.mod' {O : Nat → Prop} {w w' : World} {v : Value} {size n : Nat} {xs : List Value} (h : Sl w v size n xs) (m : Mod O w w') (hO : ∀ b, v.ownBlock = some b → ¬ O b) : Sl w' v size n xs :=
  h.mod m fun a l c e => hO a.block (by rw [e]; rfl)
theorem Sl.modp {O : Nat → Prop} {w w' : World} {v : Value} {size n : Nat} {xs : List Value} (h : Sl w v size n xs) (m : Mod O w w') (hO : 0 < n → ∀ b, v.ownBlock = some b → ¬ O b) : Sl w' v size n xs := by
  rcases Nat.eq_zero_or_pos n with h0 | h0
  · obtain ⟨ao, cap, rfl, hc, hl, _⟩ := h
    exact ⟨ao, cap, rfl, hc, hl, .inl h0⟩
  · exact h.mod' m (hO h0)
theorem Sl.nil (w : World) (size : Nat) (c : Nat) : Sl w (.slice none 0 c) size 0 [] := ⟨none, c, rfl, Nat.zero_le _, by simp, .inl rfl⟩
theorem Sl.one {w : World} {v : Value} {size n : Nat} {xs : List Value} (h : Sl w v size n xs) : v.oneCell' = true := by obtain ⟨_, _, rfl, _⟩ := h; rfl
theorem Sl.at {w : World} {v : Value} {size n : Nat} {xs : List Value} (h : Sl w v size n xs) (h0 : 0 < n) : ∃ b o c, v = .slice (some ⟨b, o, none⟩) n c ∧ Cells w b o xs := by
  obtain ⟨ao, cap, rfl, hc, hl, h1⟩ := h
  rcases h1 with h1 | ⟨b, o, rfl, hcl⟩
  · omega
  · exact ⟨b, o, cap, rfl, hcl⟩
theorem cells2 {w : World} {b o : Nat} {xs : List Value} {i : Nat} {u v : Value} (h : Cells w b o xs) (h1 : xs[i * 2]? = some u) (h2 : xs[i * 2 + 1]? = some v) : Cells w b (o + i * 2) [u, v] := by
  intro j x hj
  match j, hj with
  | 0, hj => cases hj; rw [Nat.add_zero]; exact h _ _ h1
  | 1, hj => cases hj; have := h _ _ h2; rwa [← Nat.add_assoc] at this
/-- Elements from i on. -/
theorem Sl.size_le {w : World} {v : Value} {size n : Nat} {xs : List Value} (h : Sl w v size n xs) : xs.length = n * size := by
  obtain ⟨_, _, _, _, h, _⟩ := h; exact h

theorem Sl.lt {w : World} {v : Value} {size n : Nat} {xs : List Value} (h : Sl w v size n xs) (h0 : 0 < n) (hs : 0 < size) {g : Nat} (hg : v.ownBlock = some g) : g < w.heap.size := by
  have hl := Sl.size_le h
  obtain ⟨b, o, c, rfl, hc⟩ := h.at h0
  simp only [Value.ownBlock, Option.some.injEq] at hg
  subst hg
  have : 0 < xs.length := by rw [hl]; exact Nat.mul_pos h0 hs
  exact World.block_lt_of_cell? w _ (hc 0 xs[0] (List.getElem?_eq_getElem this))
section ops
variable {P : Program} {ops : Array Oper} {l : List Oper} {n : Nat} {f : Fr} {w : World} {Q : Exit → Fr → World → Prop}
variable {d : Nat} {ty : TypeId} {pos : String} {aft : Array Edge}

theorem WL.lenSl {t e sz m : Nat} {x : Operand} {v : Value} {xs : List Value} (ht : elemT P t = some e) (hx : ev f x = v) (h : Sl w v sz m xs) (hd : decide (d < n) = true) (k : WL P ops l n (upd f d (IN m)) w Q) :
    WL P ops (⟨some d, .call { callee := .builtin .len, args := #[x], argTypes := #[t] }, ty, pos, aft, none⟩ :: l) n f w Q := by
  obtain ⟨ao, cap, rfl, _, _, _⟩ := h
  exact WL.lenS ht hx hd k
theorem WL.indexSl {t e sz m i : Nat} {x y : Operand} {v : Value} {xs : List Value} {kd : IntKind} (ht : elemT P t = some e) (hz : sizeT P e = some sz) (hx : ev f x = v) (hy : ev f y = .int kd (i : Int)) (hi : i < m) (h : Sl w v sz m xs) (hd : decide (d < n) = true)
    (k : ∀ b o, v.ownBlock = some b → Cells w b o xs → WL P ops l n (upd f d (ptr b (o + i * sz))) w Q) : WL P ops (⟨some d, .indexAddr t x y, ty, pos, aft, none⟩ :: l) n f w Q := by
  obtain ⟨ao, cap, rfl, _, _, h0⟩ := h
  rcases h0 with h0 | ⟨b, o, rfl, hc⟩
  · omega
  · exact WL.indexAddr ht hz hx hy hi hd (k b o rfl hc)
/-- 's[:j]' -/
theorem WL.sliceToSl {t e sz m j : Nat} {x hi : Operand} {v : Value} {xs : List Value} {kd : IntKind} (ht : elemT P t = some e) (hz : sizeT P e = some sz) (hx : ev f x = v) (hhi : ev f hi = .int kd (j : Int)) (hj : j ≤ m) (h : Sl w v sz m xs) (hd : decide (d < n) = true)
    (k : ∀ v', Sl w v' sz j (xs.take (j * sz)) → v'.ownBlock = v.ownBlock → WL P ops l n (upd f d v') w Q) :
    WL P ops (⟨some d, .slice t x none (some hi) none, ty, pos, aft, none⟩ :: l) n f w Q := by
  obtain ⟨ao, cap, rfl, hc, hl, h0⟩ := h
  refine WL.sliceTo ht hz hx hhi (Nat.le_trans hj hc) hd (k _ ⟨ao, cap, rfl, Nat.le_trans hj hc, ?_, ?_⟩ (by cases ao <;> rfl))
  · rw [List.length_take, hl]; exact Nat.min_eq_left (Nat.mul_le_mul_right _ hj)
  · rcases h0 with h0 | ⟨b, o, rfl, hcl⟩
    · left; omega
    · right
      refine ⟨b, o, rfl, fun i u hu => hcl i u ?_⟩
      rw [List.getElem?_take] at hu
      split at hu
      · exact hu
      · cases hu
/-- 's[j:]' -/
theorem WL.sliceFromSl {t e sz m j : Nat} {x lo : Operand} {v : Value} {xs : List Value} {kd : IntKind} (ht : elemT P t = some e) (hz : sizeT P e = some sz) (hx : ev f x = v) (hlo : ev f lo = .int kd (j : Int)) (hj : j ≤ m) (h : Sl w v sz m xs) (hd : decide (d < n) = true)
    (k : ∀ v', Sl w v' sz (m - j) (xs.drop (j * sz)) → (v'.ownBlock = v.ownBlock) → WL P ops l n (upd f d v') w Q) :
    WL P ops (⟨some d, .slice t x (some lo) none none, ty, pos, aft, none⟩ :: l) n f w Q := by
  obtain ⟨ao, cap, rfl, hc, hl, h0⟩ := h
  have hu := elemT_und ht
  refine WL.val rfl hd (v := .slice (if cap = j then ao else ao.map (·.add (j * sz))) (m - j) (cap - j)) (w' := w) ?_ (k _ ⟨_, _, rfl, by omega, ?_, ?_⟩ ?_)
  · have h1 : (0 : Int) ≤ (j : Int) ∧ (j : Int) ≤ (m : Int) := by omega
    simp [execOp, hx, hlo, Instr.sliceAt, Instr.slice, run_underlying hu, Instr.sliceBounds, Instr.sliceBound, asIntOf, sizeT_run hz, hj, Result.andThen]
  · rw [List.length_drop, hl, Nat.sub_mul]
  · by_cases hjm : j = m
    · left; omega
    · right
      rcases h0 with h0 | ⟨b, o, rfl, hcl⟩
      · omega
      · refine ⟨b, o + j * sz, ?_, fun i u hu => ?_⟩
        · rw [if_neg (by omega)]; simp [addr_add]
        · rw [List.getElem?_drop] at hu
          have := hcl _ _ hu
          rwa [← Nat.add_assoc] at this
  · split
    · cases ao <;> rfl
    · cases ao with
      | none => rfl
      | some a => simp only [Option.map_some, Value.ownBlock, Addr.add]; split <;> rfl
end ops
end Go.Ux
