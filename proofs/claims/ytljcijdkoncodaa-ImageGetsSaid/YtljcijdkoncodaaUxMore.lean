/- The walking engine: more arithmetic on counters and small kinds. -/
import Derived.Test.YtljcijdkoncodaaUxSl
import Derived.Test.YtljcijdkoncodaaUxDraw
namespace Go.Ux
open Go
variable {P : Program} {t : TypeId}
theorem Cells.ext {w w' : World} {b o : Nat} {vs : List Value} (h : Cells w b o vs) (m : Ext w w') : Cells w' b o vs := h.mod m fun x => x
theorem BinR.remK {k : IntKind} {a b : Int} (ha : 0 ≤ a) (hb : b ≠ 0) : BinR P .rem t (.int k a) (.int k b) (.int k (a % b)) := .of_int fun w => by
  simp [binOp, Op.intDiv, hb, Int.tmod_eq_emod_of_nonneg ha]
theorem BinR.addN {a b : Nat} (h : a + b ≤ 9223372036854775807) : BinR P .add t (IN a) (IN b) (IN (a + b)) := by
  have := BinR.addI (P := P) (t := t) (a := (a : Int)) (b := (b : Int)) (by omega)
  show BinR P .add t (.int .i64 (a : Int)) (.int .i64 (b : Int)) (.int .i64 ((a + b : Nat) : Int))
  rw [show ((a + b : Nat) : Int) = (a : Int) + (b : Int) by omega]; exact this
theorem BinR.subN {a b : Nat} (h : b ≤ a) (ha : a ≤ 9223372036854775807) : BinR P .sub t (IN a) (IN b) (IN (a - b)) := by
  have := BinR.subI (P := P) (t := t) (a := (a : Int)) (b := (b : Int)) (by omega)
  show BinR P .sub t (.int .i64 (a : Int)) (.int .i64 (b : Int)) (.int .i64 ((a - b : Nat) : Int))
  rw [show ((a - b : Nat) : Int) = (a : Int) - (b : Int) by omega]; exact this
theorem BinR.mulN {a b : Nat} (h : a * b ≤ 9223372036854775807) : BinR P .mul t (IN a) (IN b) (IN (a * b)) := by
  have e : ((a * b : Nat) : Int) = (a : Int) * (b : Int) := Int.natCast_mul a b
  have := BinR.mulI (P := P) (t := t) (a := (a : Int)) (b := (b : Int)) (by omega)
  show BinR P .mul t (.int .i64 (a : Int)) (.int .i64 (b : Int)) (.int .i64 ((a * b : Nat) : Int))
  rw [e]; exact this
theorem BinR.remN {a b : Nat} (hb : b ≠ 0) : BinR P .rem t (IN a) (IN b) (IN (a % b)) := by
  have := BinR.remI (P := P) (t := t) (a := (a : Int)) (b := (b : Int)) (by omega) (by omega)
  show BinR P .rem t (.int .i64 (a : Int)) (.int .i64 (b : Int)) (.int .i64 ((a % b : Nat) : Int))
  rw [show ((a % b : Nat) : Int) = (a : Int) % (b : Int) by omega]; exact this
theorem BinR.addK8 {a b : Nat} (h : a + b ≤ 255) : BinR P .add t (.int .u8 (a : Int)) (.int .u8 (b : Int)) (.int .u8 ((a + b : Nat) : Int)) := by
  have := BinR.add (P := P) (t := t) (k := .u8) (a := (a : Int)) (b := (b : Int))
  have e : IntKind.u8.wrap ((a : Int) + (b : Int)) = ((a + b : Nat) : Int) := by
    rw [wrap_u8_bv, BitVec.toNat_ofInt]
    omega
  rwa [e] at this
end Go.Ux
