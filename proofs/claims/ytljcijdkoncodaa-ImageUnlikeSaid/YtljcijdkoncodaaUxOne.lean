/- The walking engine: rows of cells, each of which fills one place. -/
import Derived.Test.YtljcijdkoncodaaUxSl2
namespace Go.Ux
open Go
theorem ones2 {a b : Value} (ha : a.oneCell' = true) (hb : b.oneCell' = true) : (Value.agg #[a, b]).cells.toList.all (fun u => u.oneCell') = true := by simp [Value.cells, ha, hb]
theorem ones3 {a b c : Value} (ha : a.oneCell' = true) (hb : b.oneCell' = true) (hc : c.oneCell' = true) : (Value.agg #[a, b, c]).cells.toList.all (fun u => u.oneCell') = true := by simp [Value.cells, ha, hb, hc]
theorem Sl.slc {w : World} {v : Value} {size n : Nat} {xs : List Value} (h : Sl w v size n xs) : ∃ a l c, v = .slice a l c := by obtain ⟨_, _, rfl, _⟩ := h; exact ⟨_, _, _, rfl⟩
end Go.Ux
