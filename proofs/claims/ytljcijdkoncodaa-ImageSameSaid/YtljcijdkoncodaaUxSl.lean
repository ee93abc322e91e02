/- The walking engine: slices that came in, slices that the call made; append; strings and bytes. -/
import Derived.Test.YtljcijdkoncodaaUxMem
namespace Go.Ux
open Go

/-- A slice of n elements, of this many cells each, that hold these. -/
def Sl (w : World) (v : Value) (size n : Nat) (xs : List Value) : Prop :=
  ∃ ao cap, v = .slice ao n cap ∧ n ≤ cap ∧ xs.length = n * size ∧ (n = 0 ∨ ∃ b o, ao = some ⟨b, o, none⟩ ∧ Cells w b o xs)
theorem Sl.mod {O : Nat → Prop} {w w' : World} {v : Value} {size n : Nat} {xs : List Value} (h : Sl w v size n xs) (m : Mod O w w') (hO : ∀ a l c, v = .slice (some a) l c → ¬ O a.block) : Sl w' v size n xs := by
  obtain ⟨ao, cap, rfl, hc, hl, h0⟩ := h
  refine ⟨ao, cap, rfl, hc, hl, h0.imp id ?_⟩
  rintro ⟨b, o, rfl, hcl⟩
  exact ⟨b, o, rfl, hcl.mod m (hO _ _ _ rfl)⟩
theorem Sl.ext {w w' : World} {v : Value} {size n : Nat} {xs : List Value} (h : Sl w v size n xs) (m : Ext w w') : Sl w' v size n xs := h.mod m fun _ _ _ _ x => x

section ops
variable {P : Program} {ops : Array Oper} {l : List Oper} {n : Nat} {f : Fr} {w : World} {Q : Exit → Fr → World → Prop}
variable {d : Nat} {ty : TypeId} {pos : String} {aft : Array Edge}

theorem elemT_und {t e : Nat} (ht : elemT P t = some e) : P.underlying t = some (.slice e) := by
  unfold elemT at ht
  split at ht <;> try cases ht
  assumption

/-- 's[i:]' -/
theorem WL.sliceFrom {t e sz : Nat} {x lo : Operand} {ao : Option Addr} {m c i : Nat} {kd : IntKind} (ht : elemT P t = some e) (hz : sizeT P e = some sz) (hx : ev f x = .slice ao m c) (hlo : ev f lo = .int kd (i : Int)) (hi : i ≤ m) (hmc : m ≤ c) (hd : decide (d < n) = true)
    (k : ∀ ao', (i < m → ao' = ao.map (·.add (i * sz))) → (i = m → m < c → ao' = ao.map (·.add (i * sz))) → WL P ops l n (upd f d (.slice ao' (m - i) (c - i))) w Q) :
    WL P ops (⟨some d, .slice t x (some lo) none none, ty, pos, aft, none⟩ :: l) n f w Q := by
  have hu := elemT_und ht
  refine WL.val rfl hd (v := .slice (if c = i then ao else ao.map (·.add (i * sz))) (m - i) (c - i)) (w' := w) ?_ (k _ (fun h => if_neg (by omega)) (fun h h' => if_neg (by omega)))
  have h1 : (0 : Int) ≤ (i : Int) ∧ (i : Int) ≤ (m : Int) := by omega
  simp [execOp, hx, hlo, Instr.sliceAt, Instr.slice, run_underlying hu, Instr.sliceBounds, Instr.sliceBound, asIntOf, sizeT_run hz, hi, Result.andThen]
/-- 's[:j]' -/
theorem WL.sliceTo {t e sz : Nat} {x hi : Operand} {ao : Option Addr} {m c j : Nat} {kd : IntKind} (ht : elemT P t = some e) (hz : sizeT P e = some sz) (hx : ev f x = .slice ao m c) (hhi : ev f hi = .int kd (j : Int)) (hj : j ≤ c) (hd : decide (d < n) = true)
    (k : WL P ops l n (upd f d (.slice ao j c)) w Q) :
    WL P ops (⟨some d, .slice t x none (some hi) none, ty, pos, aft, none⟩ :: l) n f w Q := by
  have hu := elemT_und ht
  refine WL.val rfl hd (v := .slice ao j c) (w' := w) ?_ k
  have h0 : (if c = 0 then ao else ao.map (·.add 0)) = ao := by
    split
    · rfl
    · cases ao <;> simp [Addr.add]
  simp [execOp, hx, hhi, Instr.sliceAt, Instr.slice, run_underlying hu, Instr.sliceBounds, Instr.sliceBound, asIntOf, sizeT_run hz, hj, Result.andThen]
  intro _; cases ao <;> simp [Addr.add]
/-- 's[i:j]' -/
theorem WL.sliceLH {t e sz : Nat} {x lo hi : Operand} {ao : Option Addr} {m c i j : Nat} {kd kd' : IntKind} (ht : elemT P t = some e) (hz : sizeT P e = some sz) (hx : ev f x = .slice ao m c) (hlo : ev f lo = .int kd (i : Int)) (hhi : ev f hi = .int kd' (j : Int)) (hij : i ≤ j) (hj : j ≤ c) (hd : decide (d < n) = true)
    (k : ∀ ao', (i < j → ao' = ao.map (·.add (i * sz))) → WL P ops l n (upd f d (.slice ao' (j - i) (c - i))) w Q) :
    WL P ops (⟨some d, .slice t x (some lo) (some hi) none, ty, pos, aft, none⟩ :: l) n f w Q := by
  have hu := elemT_und ht
  refine WL.val rfl hd (v := .slice (if c = i then ao else ao.map (·.add (i * sz))) (j - i) (c - i)) (w' := w) ?_ (k _ (fun h => if_neg (by omega)))
  simp [execOp, hx, hlo, hhi, Instr.sliceAt, Instr.slice, run_underlying hu, Instr.sliceBounds, Instr.sliceBound, asIntOf, sizeT_run hz, hij, hj, Result.andThen]

end ops
end Go.Ux
