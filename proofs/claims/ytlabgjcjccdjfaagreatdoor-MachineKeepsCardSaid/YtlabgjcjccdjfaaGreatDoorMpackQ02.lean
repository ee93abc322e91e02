/- Steps of the proof, packed by program: UxU32 McPure McW1 McRow McRow2 McAlu UxNil McMem McS1 McState McS2. -/
import Derived.Test.YtlabgjcjccdjfaaGreatDoorRows
import Derived.Test.YtlabgjcjccdjfaaGreatDoorCards
import Derived.Test.YtlabgjcjccdjfaaGreatDoorTie
import Derived.Deep.DeepHandedRow
import Derived.LaidLaws
import Derived.LaidHandle
import Derived.ChangeArms
import Derived.Stop.Joined
import Derived.Lib.SmallJoins
import Derived.Laws.MakeOwn
import Derived.Test.YtlabgjcjccdjfaaGreatDoorMpackQ01
set_option linter.unusedVariables false
set_option linter.unusedSimpArgs false
set_option linter.unnecessarySimpa false
section
namespace Go.Ux
open Go
variable {P : Program} {t : TypeId}
theorem BinR.andU32 {x y : BitVec 32} : BinR P .and t (U32 x) (U32 y) (U32 (x &&& y)) := .of_int fun w => by
  have e : Op.intBits .and .u32 (x.toNat : Int) (y.toNat : Int) = pure (.int .u32 (IntKind.u32.wrap ((x &&& y).toNat : Int))) := by unfold Op.intBits; simp only [IntKind.bits, ofInt32]; rfl
  simp only [binOp, ne_eq, not_true_eq_false, if_false, e, wrap_u32_bv, ofInt32, Sem.run_pure]
theorem BinR.orU32 {x y : BitVec 32} : BinR P .or t (U32 x) (U32 y) (U32 (x ||| y)) := .of_int fun w => by
  have e : Op.intBits .or .u32 (x.toNat : Int) (y.toNat : Int) = pure (.int .u32 (IntKind.u32.wrap ((x ||| y).toNat : Int))) := by unfold Op.intBits; simp only [IntKind.bits, ofInt32]; rfl
  simp only [binOp, ne_eq, not_true_eq_false, if_false, e, wrap_u32_bv, ofInt32, Sem.run_pure]
theorem BinR.subU32 {x y : BitVec 32} : BinR P .sub t (U32 x) (U32 y) (U32 (x - y)) := by
  have := BinR.sub (P := P) (t := t) (k := .u32) (a := x.toNat) (b := y.toNat)
  rw [wrap_u32_bv] at this
  have e : BitVec.ofInt 32 ((x.toNat : Int) - y.toNat) = x - y := by rw [Int.sub_eq_add_neg, BitVec.ofInt_add, BitVec.ofInt_neg, ofInt32, ofInt32, BitVec.sub_eq_add_neg]
  rwa [e] at this
theorem BinR.subU8 {x y : BitVec 8} : BinR P .sub t (U8 x) (U8 y) (U8 (x - y)) := by
  have := BinR.sub (P := P) (t := t) (k := .u8) (a := x.toNat) (b := y.toNat)
  rw [wrap_u8_bv] at this
  have e : BitVec.ofInt 8 ((x.toNat : Int) - y.toNat) = x - y := by rw [Int.sub_eq_add_neg, BitVec.ofInt_add, BitVec.ofInt_neg, ofInt8, ofInt8, BitVec.sub_eq_add_neg]
  rwa [e] at this
theorem BinR.addU8 {x y : BitVec 8} : BinR P .add t (U8 x) (U8 y) (U8 (x + y)) := by
  have := BinR.add (P := P) (t := t) (k := .u8) (a := x.toNat) (b := y.toNat)
  rwa [wrap_u8_bv, BitVec.ofInt_add, ofInt8, ofInt8] at this
theorem shl32_min (x : BitVec 32) (s : Nat) : BitVec.ofInt 32 ((x.toNat : Int) * 2 ^ min s 32) = x <<< s := by
  rw [BitVec.ofInt_mul, ofInt32]
  have e : BitVec.ofInt 32 (2 ^ min s 32 : Int) = BitVec.ofNat 32 (2 ^ min s 32) := by
    have : (2 ^ min s 32 : Int) = ((2 ^ min s 32 : Nat) : Int) := by norm_cast
    rw [this, BitVec.ofInt_natCast]
  rw [e]
  apply BitVec.eq_of_toNat_eq
  simp only [BitVec.toNat_mul, BitVec.toNat_ofNat, BitVec.toNat_shiftLeft, Nat.shiftLeft_eq, Nat.mul_mod_mod]
  by_cases h : s ≤ 32
  · rw [Nat.min_eq_left h]
  · rw [Nat.min_eq_right (by omega)]
    have : x.toNat * 2 ^ s = x.toNat * 2 ^ (s - 32) * 2 ^ 32 := by rw [Nat.mul_assoc, ← Nat.pow_add]; congr 2; omega
    rw [this]; simp
theorem BinR.shlU32 {x : BitVec 32} {yk : IntKind} {s : Nat} : BinR P .shl t (U32 x) (.int yk (s : Int)) (U32 (x <<< s)) := .of_int fun w => by
  have h0 : ¬ ((s : Int) < 0) := by omega
  simp only [binOp, Op.shift, if_neg h0, Int.toNat_natCast, IntKind.bits, Sem.run_pure, wrap_u32_bv, shl32_min]
theorem BinR.shrU32 {x : BitVec 32} {yk : IntKind} {s : Nat} : BinR P .shr t (U32 x) (.int yk (s : Int)) (U32 (x >>> s)) := .of_int fun w => by
  have h0 : ¬ ((s : Int) < 0) := by omega
  have e : (x.toNat : Int).fdiv (2 ^ min s 32) = ((x >>> s).toNat : Int) := by
    rw [Int.fdiv_eq_ediv_of_nonneg _ (Int.pow_nonneg (by decide)), BitVec.toNat_ushiftRight, Nat.shiftRight_eq_div_pow]
    by_cases h : s ≤ 32
    · rw [Nat.min_eq_left h]; norm_cast
    · rw [Nat.min_eq_right (by omega)]
      have h1 : x.toNat / 2 ^ s = 0 := Nat.div_eq_of_lt (Nat.lt_of_lt_of_le x.isLt (Nat.pow_le_pow_right (by decide) (by omega)))
      rw [h1]
      have := x.isLt
      omega
  simp only [binOp, Op.shift, if_neg h0, Int.toNat_natCast, IntKind.bits, Sem.run_pure, e]
theorem beqNat {n : Nat} (x y : BitVec n) : (((x.toNat : Nat) : Int) == ((y.toNat : Nat) : Int)) = (x == y) := by
  rw [Bool.eq_iff_iff, beq_iff_eq, beq_iff_eq]
  exact ⟨fun h => BitVec.eq_of_toNat_eq (by omega), fun h => by rw [h]⟩
theorem BinR.eqlU32 {x y : BitVec 32} : BinR P .eql t (U32 x) (U32 y) (.bool (x == y)) := by have := BinR.eql (P := P) (t := t) (k := .u32) (a := x.toNat) (b := y.toNat); rwa [beqNat] at this
theorem BinR.neqU32 {x y : BitVec 32} : BinR P .neq t (U32 x) (U32 y) (.bool (x != y)) := by have := BinR.neq (P := P) (t := t) (k := .u32) (a := x.toNat) (b := y.toNat); rwa [bne, beqNat] at this
theorem BinR.eqlU8 {x y : BitVec 8} : BinR P .eql t (U8 x) (U8 y) (.bool (x == y)) := by have := BinR.eql (P := P) (t := t) (k := .u8) (a := x.toNat) (b := y.toNat); rwa [beqNat] at this
theorem BinR.neqU8 {x y : BitVec 8} : BinR P .neq t (U8 x) (U8 y) (.bool (x != y)) := by have := BinR.neq (P := P) (t := t) (k := .u8) (a := x.toNat) (b := y.toNat); rwa [bne, beqNat] at this
theorem ultNat {n : Nat} (x y : BitVec n) : decide ((x.toNat : Int) < (y.toNat : Int)) = BitVec.ult x y := by
  rw [Bool.eq_iff_iff, decide_eq_true_eq, BitVec.ult_eq_decide, decide_eq_true_eq]; omega
theorem uleNat {n : Nat} (x y : BitVec n) : decide ((x.toNat : Int) ≤ (y.toNat : Int)) = BitVec.ule x y := by
  rw [Bool.eq_iff_iff, decide_eq_true_eq, BitVec.ule_eq_decide, decide_eq_true_eq]; omega
theorem BinR.lssU8 {x y : BitVec 8} : BinR P .lss t (U8 x) (U8 y) (.bool (BitVec.ult x y)) := by have := BinR.lss (P := P) (t := t) (k := .u8) (a := x.toNat) (b := y.toNat); rwa [ultNat] at this
theorem BinR.leqU8 {x y : BitVec 8} : BinR P .leq t (U8 x) (U8 y) (.bool (BitVec.ule x y)) := by have := BinR.leq (P := P) (t := t) (k := .u8) (a := x.toNat) (b := y.toNat); rwa [uleNat] at this
theorem BinR.geqU8 {x y : BitVec 8} : BinR P .geq t (U8 x) (U8 y) (.bool (BitVec.ule y x)) := by have := BinR.geq (P := P) (t := t) (k := .u8) (a := x.toNat) (b := y.toNat); rwa [uleNat] at this
theorem BinR.geqU64 {x y : BitVec 64} : BinR P .geq t (U64 x) (U64 y) (.bool (BitVec.ule y x)) := by have := BinR.geq (P := P) (t := t) (k := .u64) (a := x.toNat) (b := y.toNat); rwa [uleNat] at this
theorem toInt_setWidth (x : BitVec 32) : (x.setWidth 64).toInt = (x.toNat : Int) := by
  have := x.isLt
  rw [BitVec.toInt_eq_toNat_cond, BitVec.toNat_setWidth, Nat.mod_eq_of_lt (by omega), if_pos (by omega)]
section
variable {s u : TypeId} {td : TypeDesc} (h1 : P.underlying s = some td)
include h1
theorem ConvR.u8u32 (h2 : P.underlying u = some (.int .u32)) {x : BitVec 8} : ConvR P s u (U8 x) (U32 (x.setWidth 32)) := by
  have h := ConvR.int (P := P) (k := .u8) (a := x.toNat) h1 h2
  rwa [wrap_u32_bv, BitVec.ofInt_natCast, BitVec.ofNat_toNat] at h
theorem ConvR.u32u8 (h2 : P.underlying u = some (.int .u8)) {x : BitVec 32} : ConvR P s u (U32 x) (U8 (x.setWidth 8)) := by
  have h := ConvR.int (P := P) (k := .u32) (a := x.toNat) h1 h2
  rwa [wrap_u8_bv, BitVec.ofInt_natCast, BitVec.ofNat_toNat] at h
theorem ConvR.u64u8 (h2 : P.underlying u = some (.int .u8)) {x : BitVec 64} : ConvR P s u (U64 x) (U8 (x.setWidth 8)) := by
  have h := ConvR.int (P := P) (k := .u64) (a := x.toNat) h1 h2
  rwa [wrap_u8_bv, BitVec.ofInt_natCast, BitVec.ofNat_toNat] at h
theorem ConvR.u8u64 (h2 : P.underlying u = some (.int .u64)) {x : BitVec 8} : ConvR P s u (U8 x) (U64 (x.setWidth 64)) := by
  have h := ConvR.int (P := P) (k := .u8) (a := x.toNat) h1 h2
  rwa [wrap_u64_bv, BitVec.ofInt_natCast, BitVec.ofNat_toNat] at h
theorem ConvR.nu8 (h2 : P.underlying u = some (.int .u8)) {n : Nat} : ConvR P s u (IN n) (U8 (BitVec.ofNat 8 n)) := by
  have h := ConvR.int (P := P) (k := .i64) (a := n) h1 h2
  rwa [wrap_u8_bv, BitVec.ofInt_natCast] at h
theorem ConvR.nu64 (h2 : P.underlying u = some (.int .u64)) {n : Nat} : ConvR P s u (IN n) (U64 (BitVec.ofNat 64 n)) := by
  have h := ConvR.int (P := P) (k := .i64) (a := n) h1 h2
  rwa [wrap_u64_bv, BitVec.ofInt_natCast] at h
theorem ConvR.i64u32 (h2 : P.underlying u = some (.int .u32)) {x : BitVec 64} : ConvR P s u (I64 x) (U32 (x.signExtend 32)) := by
  have h := ConvR.int (P := P) (k := .i64) (a := x.toInt) h1 h2
  rwa [wrap_u32_bv] at h
theorem ConvR.u32i64 (h2 : P.underlying u = some (.int .i64)) {x : BitVec 32} : ConvR P s u (U32 x) (I64 (x.setWidth 64)) := by
  have h := ConvR.toI (P := P) (k := .u32) (a := x.toNat) h1 h2 (by have := x.isLt; omega)
  have e : Value.int .i64 (x.toNat : Int) = I64 (x.setWidth 64) := congrArg (Value.int .i64) (toInt_setWidth x).symm
  exact e ▸ h
theorem ConvR.u8n (h2 : P.underlying u = some (.int .i64)) {x : BitVec 8} : ConvR P s u (U8 x) (IN x.toNat) := ConvR.toI h1 h2 (by have := x.isLt; omega)
end
end Go.Ux
end
section
namespace Go.Ux.Mach
open Go Go.Ux
structure RvForm where
  rd : Bool
  rs1 : Bool
  rs2 : Bool
  imm : List (Nat × Nat)
  noughts : Nat
  signed : Bool
  mask : BitVec 32
deriving DecidableEq
structure RvInst where
  op : BitVec 8
  rd : BitVec 8
  rs1 : BitVec 8
  rs2 : BitVec 8
  imm : BitVec 64
deriving DecidableEq
def bitsOf (b : Nat × Nat) (w : BitVec 32) : BitVec 32 := (w >>> b.1) &&& ((1#32 <<< b.2) - 1#32)
def widthL (n : Nat) (l : List (Nat × Nat)) : Nat := l.foldl (fun n b => n + b.2) n
def width (f : RvForm) : Nat := widthL f.noughts f.imm
def numberL (n : BitVec 64) (l : List (Nat × Nat)) (w : BitVec 32) : BitVec 64 := l.foldl (fun n b => (n <<< b.2) ||| (bitsOf b w).setWidth 64) n
def number (f : RvForm) (w : BitVec 32) : BitVec 64 :=
  let n := numberL 0#64 f.imm w <<< f.noughts
  if f.signed then BitVec.sshiftRight (n <<< (64 - width f)) (64 - width f) else n
def tog (l : List (BitVec 32)) : BitVec 32 := l.foldl (· ||| ·) 0#32
def zeroForm : RvForm := ⟨false, false, false, [], 0, false, 0⟩
inductive FK where | R | I | H | W | S | B | U | J | E | Z
deriving DecidableEq
def formOf : FK → RvForm
  | .R => ⟨true, true, true, [], 0, false, 4261441663⟩
  | .I => ⟨true, true, false, [(20, 12)], 0, true, 28799⟩
  | .H => ⟨true, true, false, [(20, 6)], 0, false, 4227887231⟩
  | .W => ⟨true, true, false, [(20, 5)], 0, false, 4261441663⟩
  | .S => ⟨false, true, true, [(25, 7), (7, 5)], 0, true, 28799⟩
  | .B => ⟨false, true, true, [(31, 1), (7, 1), (25, 6), (8, 4)], 1, true, 28799⟩
  | .U => ⟨true, false, false, [(12, 20)], 12, true, 127⟩
  | .J => ⟨true, false, false, [(31, 1), (12, 8), (20, 1), (21, 10)], 1, true, 127⟩
  | .E => ⟨false, false, false, [], 0, false, 4294967295⟩
  | .Z => zeroForm
structure RvRow where
  k : FK
  name : List UInt8
  mtch : BitVec 32
deriving DecidableEq
def RvRow.form (r : RvRow) : RvForm := formOf r.k
def tellsD (k : FK) (name : List UInt8) (a b c : BitVec 32) : RvRow := ⟨k, name, tog [a, b <<< 12, c <<< 25]⟩
def zeroRow : RvRow := ⟨.Z, [], 0⟩
def tableD : List RvRow := [zeroRow,
  tellsD .U [108, 117, 105] 55 0 0,
  tellsD .U [97, 117, 105, 112, 99] 23 0 0,
  tellsD .J [106, 97, 108] 111 0 0,
  tellsD .I [106, 97, 108, 114] 103 0 0,
  tellsD .B [98, 101, 113] 99 0 0,
  tellsD .B [98, 110, 101] 99 1 0,
  tellsD .B [98, 108, 116] 99 4 0,
  tellsD .B [98, 103, 101] 99 5 0,
  tellsD .B [98, 108, 116, 117] 99 6 0,
  tellsD .B [98, 103, 101, 117] 99 7 0,
  tellsD .I [108, 98] 3 0 0,
  tellsD .I [108, 104] 3 1 0,
  tellsD .I [108, 119] 3 2 0,
  tellsD .I [108, 100] 3 3 0,
  tellsD .I [108, 98, 117] 3 4 0,
  tellsD .I [108, 104, 117] 3 5 0,
  tellsD .I [108, 119, 117] 3 6 0,
  tellsD .S [115, 98] 35 0 0,
  tellsD .S [115, 104] 35 1 0,
  tellsD .S [115, 119] 35 2 0,
  tellsD .S [115, 100] 35 3 0,
  tellsD .I [97, 100, 100, 105] 19 0 0,
  tellsD .I [115, 108, 116, 105] 19 2 0,
  tellsD .I [115, 108, 116, 105, 117] 19 3 0,
  tellsD .I [120, 111, 114, 105] 19 4 0,
  tellsD .I [111, 114, 105] 19 6 0,
  tellsD .I [97, 110, 100, 105] 19 7 0,
  tellsD .H [115, 108, 108, 105] 19 1 0,
  tellsD .H [115, 114, 108, 105] 19 5 0,
  tellsD .H [115, 114, 97, 105] 19 5 32,
  tellsD .R [97, 100, 100] 51 0 0,
  tellsD .R [115, 117, 98] 51 0 32,
  tellsD .R [115, 108, 108] 51 1 0,
  tellsD .R [115, 108, 116] 51 2 0,
  tellsD .R [115, 108, 116, 117] 51 3 0,
  tellsD .R [120, 111, 114] 51 4 0,
  tellsD .R [115, 114, 108] 51 5 0,
  tellsD .R [115, 114, 97] 51 5 32,
  tellsD .R [111, 114] 51 6 0,
  tellsD .R [97, 110, 100] 51 7 0,
  tellsD .I [97, 100, 100, 105, 119] 27 0 0,
  tellsD .W [115, 108, 108, 105, 119] 27 1 0,
  tellsD .W [115, 114, 108, 105, 119] 27 5 0,
  tellsD .W [115, 114, 97, 105, 119] 27 5 32,
  tellsD .R [97, 100, 100, 119] 59 0 0,
  tellsD .R [115, 117, 98, 119] 59 0 32,
  tellsD .R [115, 108, 108, 119] 59 1 0,
  tellsD .R [115, 114, 108, 119] 59 5 0,
  tellsD .R [115, 114, 97, 119] 59 5 32,
  tellsD .R [109, 117, 108] 51 0 1,
  tellsD .R [109, 117, 108, 104] 51 1 1,
  tellsD .R [109, 117, 108, 104, 115, 117] 51 2 1,
  tellsD .R [109, 117, 108, 104, 117] 51 3 1,
  tellsD .R [100, 105, 118] 51 4 1,
  tellsD .R [100, 105, 118, 117] 51 5 1,
  tellsD .R [114, 101, 109] 51 6 1,
  tellsD .R [114, 101, 109, 117] 51 7 1,
  tellsD .R [109, 117, 108, 119] 59 0 1,
  tellsD .R [100, 105, 118, 119] 59 4 1,
  tellsD .R [100, 105, 118, 117, 119] 59 5 1,
  tellsD .R [114, 101, 109, 119] 59 6 1,
  tellsD .R [114, 101, 109, 117, 119] 59 7 1,
  tellsD .I [102, 101, 110, 99, 101] 15 0 0,
  tellsD .E [101, 99, 97, 108, 108] 115 0 0,
  tellsD .E [101, 98, 114, 101, 97, 107] 1048691 0 0]
def bitsCells (l : List (Nat × Nat)) : List Value := l.flatMap fun p => [IN p.1, IN p.2]
def formCells (v : Value) (f : RvForm) : List Value := [.bool f.rd, .bool f.rs1, .bool f.rs2, v, IN f.noughts, .bool f.signed, U32 f.mask]
def rowCells (iv : FK → Value) (r : RvRow) : List Value := formCells (iv r.k) (formOf r.k) ++ [St r.name, U32 r.mtch]
def rowVal (iv : Value) (r : RvRow) : Value := .agg (rowCells (fun _ => iv) r).toArray
theorem bitsCells_get (l : List (Nat × Nat)) (i : Nat) (h : i < l.length) : (bitsCells l)[i * 2]? = some (IN l[i].1) ∧ (bitsCells l)[i * 2 + 1]? = some (IN l[i].2) := by
  induction l generalizing i with
  | nil => simp at h
  | cons a r ih =>
    cases i with
    | zero => exact ⟨rfl, rfl⟩
    | succ i =>
      have := ih i (by simpa using h)
      simp only [List.getElem_cons_succ]
      rw [show (i + 1) * 2 = i * 2 + 2 by omega, show i * 2 + 2 + 1 = (i * 2 + 1) + 2 by omega]
      exact this
def Fine (f : RvForm) : Prop := f.imm.length ≤ 4 ∧ (∀ b ∈ f.imm, b.1 ≤ 31 ∧ b.2 ≤ 20) ∧ f.noughts ≤ 12 ∧ width f ≤ 32
instance (f : RvForm) : Decidable (Fine f) := by unfold Fine; infer_instance
theorem formOf_fine (k : FK) : Fine (formOf k) := by cases k <;> decide
theorem widthL_le (n : Nat) (l : List (Nat × Nat)) : n ≤ widthL n l := by
  induction l generalizing n with
  | nil => exact Nat.le_refl _
  | cons a r ih => exact Nat.le_trans (by omega) (ih (n + a.2))
theorem width_take (f : RvForm) (j : Nat) (h : j < f.imm.length) : widthL f.noughts (f.imm.take (j + 1)) = widthL f.noughts (f.imm.take j) + (f.imm[j]).2 := by
  unfold widthL
  rw [List.take_succ_eq_append_getElem h, List.foldl_append]; rfl
theorem width_take_le (f : RvForm) (j : Nat) : widthL f.noughts (f.imm.take j) ≤ width f := by
  have e : width f = widthL (widthL f.noughts (f.imm.take j)) (f.imm.drop j) := by
    unfold width widthL; rw [← List.foldl_append, List.take_append_drop]
  rw [e]; exact widthL_le _ _
theorem number_take (f : RvForm) (w : BitVec 32) (j : Nat) (h : j < f.imm.length) : numberL 0#64 (f.imm.take (j + 1)) w = (numberL 0#64 (f.imm.take j) w <<< (f.imm[j]).2) ||| (bitsOf f.imm[j] w).setWidth 64 := by
  unfold numberL
  rw [List.take_succ_eq_append_getElem h, List.foldl_append]; rfl
theorem tog_take (l : List (BitVec 32)) (j : Nat) (h : j < l.length) : tog (l.take (j + 1)) = tog (l.take j) ||| l[j] := by
  unfold tog
  rw [List.take_succ_eq_append_getElem h, List.foldl_append]; rfl
theorem ones_row {iv : Value} (h : iv.oneCell' = true) (p q r : Bool) (n : Nat) (g : Bool) (m : BitVec 32) (nm : List UInt8) (t : BitVec 32) :
    (Value.agg #[.bool p, .bool q, .bool r, iv, IN n, .bool g, U32 m, St nm, U32 t]).cells.toList.all (fun u => u.oneCell') = true := by simp only [Value.cells, List.all_cons, List.all_nil, h]; rfl
theorem tableD_length : tableD.length = 66 := rfl
def rvAt (i : Nat) : RvRow := tableD.getD i zeroRow
theorem rvAt_eq (i : Nat) (h : i < tableD.length) : tableD[i] = rvAt i := by unfold rvAt; rw [List.getD, List.getElem?_eq_getElem h]; rfl
end Go.Ux.Mach
namespace Go.Ux
open Go
section
variable {P : Program} {ops : Array Oper} {l : List Oper} {n : Nat} {f : Fr} {w : World} {Q : Exit → Fr → World → Prop}
variable {d : Nat} {ty : TypeId} {pos : String} {aft : Array Edge}
theorem WL.sliceArr {t e sz m : Nat} {x : Operand} {b : Nat} (ht : arrT P t = some (m, e)) (hz : sizeT P e = some sz) (hx : ev f x = ptr b 0) (hd : decide (d < n) = true)
    (k : WL P ops l n (upd f d (.slice (some ⟨b, 0, none⟩) m m)) w Q) : WL P ops (⟨some d, .slice t x none none none, ty, pos, aft, none⟩ :: l) n f w Q := by
  refine WL.val rfl hd (v := .slice (some ⟨b, 0, none⟩) m m) (w' := w) ?_ k
  unfold arrT at ht
  split at ht <;> try cases ht
  rename_i hu
  have e : ((⟨b, 0, none⟩ : Addr).add 0) = ⟨b, 0, none⟩ := by simp [Addr.add]
  simp [execOp, hx, Instr.sliceAt, run_underlying hu, Instr.sureAddr, Instr.sliceBounds, Instr.sliceBound, sizeT_run hz, Result.andThen, e]
end
def findRegion (id : Nat) : Code → List Oper
  | .region i ops _ => if i = id then ops.toList else []
  | .seq a b => findRegion id a ++ findRegion id b
  | .cond _ a b => findRegion id a ++ findRegion id b
  | .block _ a => findRegion id a
  | .loop a => findRegion id a
  | _ => []
def regionIn (fn : Func) (id : Nat) : List Oper := match fn.body with
  | some c => findRegion id c
  | none => []
end Go.Ux
end
section
set_option linter.unusedSimpArgs false
set_option linter.unusedVariables false
namespace Go.Proofs.M
open Go Go.Ux Go.Ux.Mach Go.Proofs
theorem fo125_0 : fieldOff Tryz.prog 125 0 = some 0 := by kernel_rfl
theorem ag3 : isAggT Tryz.prog 3 = some false := by kernel_rfl
theorem fo125_1 : fieldOff Tryz.prog 125 1 = some 1 := by kernel_rfl
theorem fo116_4 : fieldOff Tryz.prog 116 4 = some 4 := by kernel_rfl
theorem fo116_3 : fieldOff Tryz.prog 116 3 = some 3 := by kernel_rfl
theorem ag114 : isAggT Tryz.prog 114 = some false := by kernel_rfl
theorem el114 : elemT Tryz.prog 114 = some 125 := by kernel_rfl
theorem sz125 : sizeT Tryz.prog 125 = some 2 := by kernel_rfl
theorem ag125 : isAggT Tryz.prog 125 = some true := by kernel_rfl
theorem zt125 : zeroT Tryz.prog 125 = some #[.int .i64 0, .int .i64 0] := by kernel_rfl
theorem el23 : elemT Tryz.prog 23 = some 50 := by kernel_rfl
theorem sz50 : sizeT Tryz.prog 50 = some 1 := by kernel_rfl
theorem ag50 : isAggT Tryz.prog 50 = some false := by kernel_rfl
theorem ca66 : callable Tryz.prog 66 = true := by kernel_rfl
theorem fo116_5 : fieldOff Tryz.prog 116 5 = some 5 := by kernel_rfl
theorem ag4 : isAggT Tryz.prog 4 = some false := by kernel_rfl
theorem ag116 : isAggT Tryz.prog 116 = some true := by kernel_rfl
theorem sz116 : sizeT Tryz.prog 116 = some 7 := by kernel_rfl
theorem ca85 : callable Tryz.prog 85 = true := by kernel_rfl
theorem fo118_0 : fieldOff Tryz.prog 118 0 = some 0 := by kernel_rfl
theorem fo116_6 : fieldOff Tryz.prog 116 6 = some 6 := by kernel_rfl
theorem fo118_2 : fieldOff Tryz.prog 118 2 = some 8 := by kernel_rfl
theorem mixed : Tryz.prog.follows .mixedOrders = true := by kernel_rfl
structure Glob (w : World) : Prop where
  rd : Cells w 0 0 [IN 7, IN 5]
  rs1 : Cells w 1 0 [IN 15, IN 5]
  rs2 : Cells w 2 0 [IN 20, IN 5]
  f3 : Cells w 4 0 [IN 12, IN 3]
  f7 : Cells w 5 0 [IN 25, IN 7]
theorem Glob.ext {w w' : World} (h : Glob w) (m : Ext w w') : Glob w' := ⟨h.rd.ext m, h.rs1.ext m, h.rs2.ext m, h.f3.ext m, h.f7.ext m⟩
theorem Sl.ofCells {w : World} {b n size : Nat} {xs : List Value} (h : Cells w b 0 xs) (hl : xs.length = n * size) : Sl w (.slice (some ⟨b, 0, none⟩) n n) size n xs := ⟨_, n, rfl, Nat.le_refl _, hl, .inr ⟨b, 0, rfl, h⟩⟩
theorem u32_get (l : List (BitVec 32)) (j : Nat) (h : j < l.length) : (l.map U32)[j]? = some (U32 l[j]) := by simp [h]
theorem of_spec (b : Nat × Nat) (x : BitVec 32) (w : World) : CallsR Tryz.prog 66 #[.agg #[IN (b.1), IN (b.2)], U32 (x)] w (fun v w' => v = U32 (bitsOf b x) ∧ Ext w w') := by
  refine callsR_of Tryz.func66 rfl rfl rfl ?_
  refine WC.seq (WC.region (WL.box (v := .agg #[IN (b.1), IN (b.2)]) rfl rfl ?_))
  intro b2 w2 n2
  have E1 : Ext w w2 := Mod.trans (Mod.refl _ _) (n2.ext)
  refine WL.assign (v := U32 (0#32)) rfl rfl (WL.nil (WC.seq (WC.draw (fun w_ => Ext w2 w_) 10 rfl mixed ?_)))
  intro wd_1 ed_1
  have R2 : Ext w2 wd_1 := Mod.trans (Mod.refl _ _) (ed_1)
  have E3 : Ext w wd_1 := Mod.trans (E1) (ed_1)
  refine WA.take (i := 0) (m' := 1) (v := U32 (x)) rfl rfl rfl rfl (by kernel_rfl) rfl (fun _ _ _ h => h) (fun wx hS => ?_) (R2) ?_
  · exact WL.move (v := U32 (x)) rfl rfl (WL.nil ⟨rfl, rfl, rfl⟩)
  refine WA.take (i := 1) (m' := 3) (v := ptr b2 0) rfl rfl rfl rfl (by kernel_rfl) rfl (fun _ _ _ h => h) (fun wx hS => ?_) (R2) ?_
  · exact WL.fieldAddr rfl fo125_0 rfl (WL.nil ⟨rfl, rfl, rfl⟩)
  refine WA.take (i := 2) (m' := 7) (v := IN (b.1)) rfl rfl rfl rfl (by kernel_rfl) rfl (fun _ _ _ h => h) (fun wx hS => ?_) (R2) ?_
  · have B7 := (n2.blk).ext (hS)
    exact WL.load1 rfl ag3 (B7.cell (j := 0) rfl) rfl (WL.nil ⟨rfl, rfl, rfl⟩)
  refine WA.take (i := 3) (m' := 15) (v := U32 ((x >>> (b.1)))) rfl rfl rfl rfl (by kernel_rfl) rfl (fun _ _ _ h => h) (fun wx hS => ?_) (R2) ?_
  · exact WL.bin rfl rfl rfl (BinR.shrU32) (WL.nil ⟨rfl, rfl, rfl⟩)
  refine WA.take (i := 4) (m' := 31) (v := ptr b2 1) rfl rfl rfl rfl (by kernel_rfl) rfl (fun _ _ _ h => h) (fun wx hS => ?_) (R2) ?_
  · exact WL.fieldAddr rfl fo125_1 rfl (WL.nil ⟨rfl, rfl, rfl⟩)
  refine WA.take (i := 5) (m' := 63) (v := IN (b.2)) rfl rfl rfl rfl (by kernel_rfl) rfl (fun _ _ _ h => h) (fun wx hS => ?_) (R2) ?_
  · have B11 := (n2.blk).ext (hS)
    exact WL.load1 rfl ag3 (B11.cell (j := 1) rfl) rfl (WL.nil ⟨rfl, rfl, rfl⟩)
  refine WA.take (i := 6) (m' := 127) (v := U32 ((1#32 <<< (b.2)))) rfl rfl rfl rfl (by kernel_rfl) rfl (fun _ _ _ h => h) (fun wx hS => ?_) (R2) ?_
  · exact WL.bin (vx := U32 (1#32)) rfl rfl rfl (BinR.shlU32) (WL.nil ⟨rfl, rfl, rfl⟩)
  refine WA.take (i := 7) (m' := 255) (v := U32 (((1#32 <<< (b.2)) - 1#32))) rfl rfl rfl rfl (by kernel_rfl) rfl (fun _ _ _ h => h) (fun wx hS => ?_) (R2) ?_
  · exact WL.bin rfl (vy := U32 (1#32)) rfl rfl (BinR.subU32) (WL.nil ⟨rfl, rfl, rfl⟩)
  refine WA.take (i := 8) (m' := 511) (v := U32 (((x >>> (b.1)) &&& ((1#32 <<< (b.2)) - 1#32)))) rfl rfl rfl rfl (by kernel_rfl) rfl (fun _ _ _ h => h) (fun wx hS => ?_) (R2) ?_
  · exact WL.bin rfl rfl rfl (BinR.andU32) (WL.nil ⟨rfl, rfl, rfl⟩)
  refine WA.take (i := 9) (m' := 1023) (v := U32 (((x >>> (b.1)) &&& ((1#32 <<< (b.2)) - 1#32)))) rfl rfl rfl rfl (by kernel_rfl) rfl (fun _ _ _ h => h) (fun wx hS => ?_) (R2) ?_
  · exact WL.assign (v := U32 (((x >>> (b.1)) &&& ((1#32 <<< (b.2)) - 1#32)))) rfl rfl (WL.nil ⟨rfl, rfl, rfl⟩)
  refine WA.done (by kernel_rfl) ?_
  refine WC.ret ?_
  exact ⟨_, Res.one (v := U32 (((x >>> (b.1)) &&& ((1#32 <<< (b.2)) - 1#32)))) rfl rfl, rfl, E3⟩
theorem width_spec (fm : RvForm) (iv : Value) (w : World) (hI : Sl w iv 2 fm.imm.length (bitsCells fm.imm)) (hf : Fine fm) : CallsR Tryz.prog 85 #[.agg #[.bool (fm.rd), .bool (fm.rs1), .bool (fm.rs2), iv, IN (fm.noughts), .bool (fm.signed), U32 (fm.mask)]] w (fun v w' => v = IN (width fm) ∧ Ext w w') := by
  obtain ⟨hf1, hf2, hf3, hf4⟩ := hf
  refine callsR_of Tryz.func85 rfl rfl rfl ?_
  refine WC.seq (WC.region (WL.box (v := .agg #[.bool (fm.rd), .bool (fm.rs1), .bool (fm.rs2), iv, IN (fm.noughts), .bool (fm.signed), U32 (fm.mask)]) rfl rfl ?_))
  intro b1 w1 n1
  have E1 : Ext w w1 := Mod.trans (Mod.refl _ _) (n1.ext)
  refine WL.assign (v := IN (0)) rfl rfl (WL.nil (WC.seq (WC.region (WL.fieldAddr rfl fo116_4 rfl (WL.load1 rfl ag3 (n1.blk.cell (j := 4) rfl) rfl (WL.assign (v := IN (fm.noughts)) rfl rfl (WL.nil (WC.seq (WC.seq ?_)))))))))
  refine WC.region (WL.fieldAddr rfl fo116_3 rfl (WL.load1 rfl ag114 (n1.blk.cell (j := 3) rfl) rfl (WL.lenSl (sz := 2) (m := fm.imm.length) (xs := bitsCells fm.imm) el114 rfl ((hI).ext' (E1)) rfl (WL.move (v := IN (0)) rfl rfl (WL.nil (WC.block ?_))))))
  refine WC.loop (fun k f w_ => ∃ j, (k + j = fm.imm.length) ∧ f 0 = .agg #[.bool (fm.rd), .bool (fm.rs1), .bool (fm.rs2), iv, IN (fm.noughts), .bool (fm.signed), U32 (fm.mask)] ∧ f 1 = ptr b1 0 ∧ f 2 = IN (0) ∧ f 3 = IN (widthL fm.noughts (fm.imm.take j)) ∧ f 6 = ptr b1 4 ∧ f 7 = IN (fm.noughts) ∧ f 8 = ptr b1 3 ∧ f 9 = iv ∧ f 10 = IN (fm.imm.length) ∧ f 11 = IN (j) ∧ (Ext w w_)) (fm.imm.length) ?_ ?_
  · exact ⟨(0), by omega, rfl, rfl, rfl, rfl, rfl, rfl, rfl, rfl, rfl, rfl, E1⟩
  rintro k f1 wr ⟨j, hk1, h0_1, h1_1, h2_1, h3_1, h6_1, h7_1, h8_1, h9_1, h10_1, h11_1, hE⟩
  refine WC.seq (WC.region (WL.bin h11_1 h10_1 rfl (BinR.lss) (WL.nil (WC.seq ?_))))
  refine WC.cond rfl (fun hc12 => ?_) (fun hc12 => ?_)
  · have hj : j < fm.imm.length := by have := of_decide_eq_true hc12; omega
    obtain ⟨bi, oi, ci, ei, hci⟩ := hI.at (by omega)
    have hbj := hf2 _ (List.getElem_mem hj)
    have hwj := width_take_le fm (j + 1)
    rw [width_take fm j hj] at hwj
    refine WC.skip (WC.seq (WC.block (WC.seq (WC.region (WL.indexAddr (i := j) (b := bi) (o := oi) el114 sz125 (Eq.trans (h9_1) ei) h11_1 (by omega) rfl (WL.loadS [IN ((fm.imm[j]).1), IN ((fm.imm[j]).2)] rfl ag125 sz125 rfl (cells2 (hci.ext (hE)) ((bitsCells_get fm.imm j hj)).1 ((bitsCells_get fm.imm j hj)).2) rfl (WL.allocStore (v := .agg #[IN ((fm.imm[j]).1), IN ((fm.imm[j]).2)]) zt125 rfl sz125 rfl rfl rfl rfl ?_)))))))
    intro b5 w5 n5
    have E3 : Ext w w5 := Mod.trans (hE) (n5.ext)
    refine WL.nil (WC.region (WL.move (v := IN (widthL fm.noughts (fm.imm.take j))) h3_1 rfl (WL.fieldAddr rfl fo125_1 rfl (WL.load1 rfl ag3 (n5.blk.cell (j := 1) rfl) rfl (WL.bin rfl rfl rfl (BinR.addN (by omega)) (WL.assign (v := IN ((widthL fm.noughts (fm.imm.take j) + (fm.imm[j]).2))) rfl rfl (WL.nil (WC.region (WL.bin h11_1 rfl rfl (BinR.succN (by omega)) ?_)))))))))
    refine WL.move (v := IN (j + 1)) rfl rfl (WL.nil ?_)
    exact ⟨k - 1, by omega, (j + 1), by omega, h0_1, h1_1, h2_1, congrArg IN (width_take fm j hj).symm, h6_1, h7_1, h8_1, h9_1, h10_1, rfl, E3⟩
  · have hj : fm.imm.length ≤ j := by have := of_decide_eq_false hc12; omega
    have htk : fm.imm.take j = fm.imm := List.take_of_length_le hj
    refine WC.exit (WC.seq (WC.region (WL.move (v := IN (widthL fm.noughts (fm.imm.take j))) h3_1 rfl (WL.assign (v := IN (widthL fm.noughts (fm.imm.take j))) rfl rfl (WL.nil (WC.ret ?_))))))
    exact ⟨_, Res.one (v := IN (widthL fm.noughts (fm.imm.take j))) rfl rfl, (by rw [htk]; rfl), hE⟩
theorem together_spec (sv : Value) (l : List (BitVec 32)) (w : World) (hS : Sl w sv 1 l.length (l.map U32)) (hl : l.length ≤ 100) : CallsR Tryz.prog 51 #[sv] w (fun v w' => v = U32 (tog l) ∧ Ext w w') := by
  refine callsR_of Tryz.func51 rfl rfl rfl ?_
  refine WC.seq (WC.region (WL.assign (v := U32 (0#32)) rfl rfl (WL.nil (WC.seq (WC.region (WL.assign (v := U32 (0#32)) rfl rfl (WL.nil (WC.seq (WC.seq ?_)))))))))
  refine WC.region (WL.move (v := sv) rfl rfl (WL.lenSl (sz := 1) (m := l.length) (xs := l.map U32) el23 rfl (hS) rfl (WL.move (v := IN (0)) rfl rfl (WL.nil (WC.block ?_)))))
  refine WC.loop (fun k f w_ => ∃ j, (k + j = l.length) ∧ f 0 = sv ∧ f 2 = U32 (0#32) ∧ f 3 = U32 (tog (l.take j)) ∧ f 6 = sv ∧ f 7 = IN (l.length) ∧ f 8 = IN (j) ∧ (Ext w w_)) (l.length) ?_ ?_
  · exact ⟨(0), by omega, rfl, rfl, rfl, rfl, rfl, rfl, Mod.refl _ _⟩
  rintro k f1 wr ⟨j, hk1, h0_1, h2_1, h3_1, h6_1, h7_1, h8_1, hE⟩
  refine WC.seq (WC.region (WL.bin h8_1 h7_1 rfl (BinR.lss) (WL.nil (WC.seq ?_))))
  refine WC.cond rfl (fun hc9 => ?_) (fun hc9 => ?_)
  · have hj : j < l.length := by have := of_decide_eq_true hc9; omega
    refine WC.skip (WC.seq (WC.block (WC.seq (WC.region (WL.indexSl (sz := 1) (m := l.length) (xs := l.map U32) (i := j) el23 sz50 h6_1 h8_1 (by omega) ((hS).ext' (hE)) rfl ?_)))))
    intro b10 o10 hb10 hc10
    refine WL.load1 rfl ag50 (hc10 (j * 1) _ (by rw [Nat.mul_one]; exact u32_get l j hj)) rfl (WL.assign (v := U32 (l[j])) rfl rfl (WL.nil (WC.region (WL.move (v := U32 (tog (l.take j))) h3_1 rfl (WL.move (v := U32 (l[j])) rfl rfl (WL.bin rfl rfl rfl (BinR.orU32) (WL.assign (v := U32 ((tog (l.take j) ||| l[j]))) rfl rfl (WL.nil (WC.region ?_)))))))))
    refine WL.bin h8_1 rfl rfl (BinR.succN (by omega)) (WL.move (v := IN (j + 1)) rfl rfl (WL.nil ?_))
    exact ⟨k - 1, by omega, (j + 1), by omega, h0_1, h2_1, congrArg U32 (tog_take l j hj).symm, h6_1, h7_1, rfl, hE⟩
  · have hj : l.length ≤ j := by have := of_decide_eq_false hc9; omega
    have htk : l.take j = l := List.take_of_length_le hj
    refine WC.exit (WC.seq (WC.region (WL.move (v := U32 (tog (l.take j))) h3_1 rfl (WL.assign (v := U32 (tog (l.take j))) rfl rfl (WL.nil (WC.ret ?_))))))
    exact ⟨_, Res.one (v := U32 (tog (l.take j))) rfl rfl, (by rw [htk]), hE⟩
theorem number_spec (fm : RvForm) (iv : Value) (x : BitVec 32) (w : World) (hI : Sl w iv 2 fm.imm.length (bitsCells fm.imm)) (hf : Fine fm) : CallsR Tryz.prog 65 #[.agg #[.bool (fm.rd), .bool (fm.rs1), .bool (fm.rs2), iv, IN (fm.noughts), .bool (fm.signed), U32 (fm.mask)], U32 (x)] w (fun v w' => v = I64 (number fm x) ∧ Ext w w') := by
  have hf0 := hf
  obtain ⟨hf1, hf2, hf3, hf4⟩ := hf0
  refine callsR_of Tryz.func65 rfl rfl rfl ?_
  refine WC.seq (WC.region (WL.box (v := .agg #[.bool (fm.rd), .bool (fm.rs1), .bool (fm.rs2), iv, IN (fm.noughts), .bool (fm.signed), U32 (fm.mask)]) rfl rfl ?_))
  intro b2 w2 n2
  have E1 : Ext w w2 := Mod.trans (Mod.refl _ _) (n2.ext)
  refine WL.assign (v := I64 (0#64)) rfl rfl (WL.nil (WC.seq (WC.region (WL.assign (v := I64 (0#64)) rfl rfl (WL.nil (WC.seq (WC.seq (WC.region (WL.fieldAddr rfl fo116_3 rfl ?_)))))))))
  refine WL.load1 rfl ag114 (n2.blk.cell (j := 3) rfl) rfl (WL.lenSl (sz := 2) (m := fm.imm.length) (xs := bitsCells fm.imm) el114 rfl ((hI).ext' (E1)) rfl (WL.move (v := IN (0)) rfl rfl (WL.nil (WC.block ?_))))
  refine WC.loop (fun k f w_ => ∃ j, (k + j = fm.imm.length) ∧ f 0 = .agg #[.bool (fm.rd), .bool (fm.rs1), .bool (fm.rs2), iv, IN (fm.noughts), .bool (fm.signed), U32 (fm.mask)] ∧ f 1 = U32 (x) ∧ f 2 = ptr b2 0 ∧ f 4 = I64 (0#64) ∧ f 5 = I64 (numberL 0#64 (fm.imm.take j) x) ∧ f 8 = ptr b2 3 ∧ f 9 = iv ∧ f 10 = IN (fm.imm.length) ∧ f 11 = IN (j) ∧ (Ext w w_) ∧ (Blk w_ b2 #[.bool fm.rd, .bool fm.rs1, .bool fm.rs2, iv, IN fm.noughts, .bool fm.signed, U32 fm.mask] 116)) (fm.imm.length) ?_ ?_
  · exact ⟨(0), by omega, rfl, rfl, rfl, rfl, rfl, rfl, rfl, rfl, rfl, E1, n2.blk⟩
  rintro k f1 wr ⟨j, hk1, h0_1, h1_1, h2_1, h4_1, h5_1, h8_1, h9_1, h10_1, h11_1, hE, hB2⟩
  refine WC.seq (WC.region (WL.bin h11_1 h10_1 rfl (BinR.lss) (WL.nil (WC.seq ?_))))
  refine WC.cond rfl (fun hc12 => ?_) (fun hc12 => ?_)
  · have hj : j < fm.imm.length := by have := of_decide_eq_true hc12; omega
    obtain ⟨bi, oi, ci, ei, hci⟩ := hI.at (by omega)
    have hbj := hf2 _ (List.getElem_mem hj)
    have hwj := width_take_le fm (j + 1)
    rw [width_take fm j hj] at hwj
    refine WC.skip (WC.seq (WC.block (WC.seq (WC.region (WL.indexAddr (i := j) (b := bi) (o := oi) el114 sz125 (Eq.trans (h9_1) ei) h11_1 (by omega) rfl (WL.loadS [IN ((fm.imm[j]).1), IN ((fm.imm[j]).2)] rfl ag125 sz125 rfl (cells2 (hci.ext (hE)) ((bitsCells_get fm.imm j hj)).1 ((bitsCells_get fm.imm j hj)).2) rfl (WL.allocStore (v := .agg #[IN ((fm.imm[j]).1), IN ((fm.imm[j]).2)]) zt125 rfl sz125 rfl rfl rfl rfl ?_)))))))
    intro b7 w7 n7
    have E3 : Ext w w7 := Mod.trans (hE) (n7.ext)
    refine WL.nil (WC.draw (fun w_ => Ext w7 w_) 10 rfl mixed ?_)
    intro wd_5 ed_5
    have R5 : Ext w7 wd_5 := Mod.trans (Mod.refl _ _) (ed_5)
    have E6 : Ext w wd_5 := Mod.trans (E3) (ed_5)
    refine WA.take (i := 0) (m' := 1) (v := I64 (numberL 0#64 (fm.imm.take j) x)) rfl rfl rfl rfl (by kernel_rfl) rfl (fun _ _ _ h => h) (fun wx hS => ?_) (R5) ?_
    · exact WL.move (v := I64 (numberL 0#64 (fm.imm.take j) x)) h5_1 rfl (WL.nil ⟨rfl, rfl, rfl⟩)
    refine WA.take (i := 1) (m' := 3) (v := ptr b7 1) rfl rfl rfl rfl (by kernel_rfl) rfl (fun _ _ _ h => h) (fun wx hS => ?_) (R5) ?_
    · exact WL.fieldAddr rfl fo125_1 rfl (WL.nil ⟨rfl, rfl, rfl⟩)
    refine WA.take (i := 2) (m' := 7) (v := IN ((fm.imm[j]).2)) rfl rfl rfl rfl (by kernel_rfl) rfl (fun _ _ _ h => h) (fun wx hS => ?_) (R5) ?_
    · have B10 := (n7.blk).ext (hS)
      exact WL.load1 rfl ag3 (B10.cell (j := 1) rfl) rfl (WL.nil ⟨rfl, rfl, rfl⟩)
    refine WA.take (i := 3) (m' := 15) (v := I64 ((numberL 0#64 (fm.imm.take j) x <<< ((fm.imm[j]).2)))) rfl rfl rfl rfl (by kernel_rfl) rfl (fun _ _ _ h => h) (fun wx hS => ?_) (R5) ?_
    · exact WL.bin rfl rfl rfl (BinR.shl64) (WL.nil ⟨rfl, rfl, rfl⟩)
    refine WA.take (i := 4) (m' := 31) (v := .agg #[IN ((fm.imm[j]).1), IN ((fm.imm[j]).2)]) rfl rfl rfl rfl (by kernel_rfl) rfl (fun _ _ _ h => h) (fun wx hS => ?_) (R5) ?_
    · have B13 := (n7.blk).ext (hS)
      exact WL.loadS [IN ((fm.imm[j]).1), IN ((fm.imm[j]).2)] rfl ag125 sz125 rfl (B13.sub (o := 0) (vs := [IN ((fm.imm[j]).1), IN ((fm.imm[j]).2)]) rfl) rfl (WL.nil ⟨rfl, rfl, rfl⟩)
    refine WA.take (i := 5) (m' := 63) (v := U32 (x)) rfl rfl rfl rfl (by kernel_rfl) rfl (fun _ _ _ h => h) (fun wx hS => ?_) (R5) ?_
    · exact WL.move (v := U32 (x)) h1_1 rfl (WL.nil ⟨rfl, rfl, rfl⟩)
    refine WA.one (i := 6) (m' := 127) (by kernel_rfl) rfl rfl ?_
    refine WL.call ca66 (rfl) rfl (of_spec (fm.imm[j]) x _) ?_
    rintro _ wd21 ⟨rfl, ed21⟩
    have R16 : Ext w7 wd21 := Mod.trans (R5) (ed21)
    have E17 : Ext w wd21 := Mod.trans (E6) (ed21)
    refine WL.behind (R16) ?_
    refine WA.take (i := 7) (m' := 255) (v := I64 ((bitsOf (fm.imm[j]) x).setWidth 64)) rfl rfl rfl rfl (by kernel_rfl) rfl (fun _ _ _ h => h) (fun wx hS => ?_) (R16) ?_
    · exact WL.conv rfl rfl (ConvR.u32i64 Tryz.underlying50 Tryz.underlying2) (WL.nil ⟨rfl, rfl, rfl⟩)
    refine WA.take (i := 8) (m' := 511) (v := I64 (((numberL 0#64 (fm.imm.take j) x <<< ((fm.imm[j]).2)) ||| (bitsOf (fm.imm[j]) x).setWidth 64))) rfl rfl rfl rfl (by kernel_rfl) rfl (fun _ _ _ h => h) (fun wx hS => ?_) (R16) ?_
    · exact WL.bin rfl rfl rfl (BinR.or64) (WL.nil ⟨rfl, rfl, rfl⟩)
    refine WA.take (i := 9) (m' := 1023) (v := I64 (((numberL 0#64 (fm.imm.take j) x <<< ((fm.imm[j]).2)) ||| (bitsOf (fm.imm[j]) x).setWidth 64))) rfl rfl rfl rfl (by kernel_rfl) rfl (fun _ _ _ h => h) (fun wx hS => ?_) (R16) ?_
    · exact WL.assign (v := I64 (((numberL 0#64 (fm.imm.take j) x <<< ((fm.imm[j]).2)) ||| (bitsOf (fm.imm[j]) x).setWidth 64))) rfl rfl (WL.nil ⟨rfl, rfl, rfl⟩)
    refine WA.done (by kernel_rfl) ?_
    refine WC.region (WL.bin h11_1 rfl rfl (BinR.succN (by omega)) (WL.move (v := IN (j + 1)) rfl rfl (WL.nil ?_)))
    have B21 := (((hB2).ext (n7.ext)).ext (ed_5)).ext (ed21)
    exact ⟨k - 1, by omega, (j + 1), by omega, h0_1, h1_1, h2_1, h4_1, congrArg I64 (number_take fm x j hj).symm, h8_1, h9_1, h10_1, rfl, E17, B21⟩
  · have hj : fm.imm.length ≤ j := by have := of_decide_eq_false hc12; omega
    have htk : fm.imm.take j = fm.imm := List.take_of_length_le hj
    refine WC.exit (WC.seq (WC.region (WL.move (v := I64 (numberL 0#64 (fm.imm.take j) x)) h5_1 rfl (WL.fieldAddr h2_1 fo116_4 rfl (WL.load1 rfl ag3 (hB2.cell (j := 4) rfl) rfl (WL.bin rfl rfl rfl (BinR.shl64) (WL.assign (v := I64 ((numberL 0#64 (fm.imm.take j) x <<< (fm.noughts)))) rfl rfl (WL.nil (WC.seq ?_)))))))))
    refine WC.seq (WC.region (WL.fieldAddr h2_1 fo116_5 rfl (WL.load1 rfl ag4 (hB2.cell (j := 5) rfl) rfl (WL.nil ?_))))
    refine WC.cond rfl (fun hc30 => ?_) (fun hc30 => ?_)
    · refine WC.draw (fun w_ => Ext wr w_) 10 rfl mixed ?_
      intro wd_9 ed_9
      have R23 : Ext wr wd_9 := Mod.trans (Mod.refl _ _) (ed_9)
      have E24 : Ext w wd_9 := Mod.trans (hE) (ed_9)
      refine WA.take (i := 0) (m' := 1) (v := I64 ((numberL 0#64 (fm.imm.take j) x <<< (fm.noughts)))) rfl rfl rfl rfl (by kernel_rfl) rfl (fun _ _ _ h => h) (fun wx hS => ?_) (R23) ?_
      · exact WL.move (v := I64 ((numberL 0#64 (fm.imm.take j) x <<< (fm.noughts)))) rfl rfl (WL.nil ⟨rfl, rfl, rfl⟩)
      refine WA.take (i := 1) (m' := 3) (v := .agg #[.bool (fm.rd), .bool (fm.rs1), .bool (fm.rs2), iv, IN (fm.noughts), .bool (fm.signed), U32 (fm.mask)]) rfl rfl rfl rfl (by kernel_rfl) rfl (fun _ _ _ h => h) (fun wx hS => ?_) (R23) ?_
      · have B27 := (hB2).ext (hS)
        exact WL.loadS [.bool (fm.rd), .bool (fm.rs1), .bool (fm.rs2), iv, IN (fm.noughts), .bool (fm.signed), U32 (fm.mask)] h2_1 ag116 sz116 rfl (B27.sub (o := 0) (vs := [.bool (fm.rd), .bool (fm.rs1), .bool (fm.rs2), iv, IN (fm.noughts), .bool (fm.signed), U32 (fm.mask)]) rfl) rfl (WL.nil ⟨rfl, rfl, rfl⟩)
      refine WA.take (i := 5) (m' := 35) (v := .agg #[.bool (fm.rd), .bool (fm.rs1), .bool (fm.rs2), iv, IN (fm.noughts), .bool (fm.signed), U32 (fm.mask)]) rfl rfl rfl rfl (by kernel_rfl) rfl (fun _ _ _ h => h) (fun wx hS => ?_) (R23) ?_
      · have B29 := (hB2).ext (hS)
        exact WL.loadS [.bool (fm.rd), .bool (fm.rs1), .bool (fm.rs2), iv, IN (fm.noughts), .bool (fm.signed), U32 (fm.mask)] h2_1 ag116 sz116 rfl (B29.sub (o := 0) (vs := [.bool (fm.rd), .bool (fm.rs1), .bool (fm.rs2), iv, IN (fm.noughts), .bool (fm.signed), U32 (fm.mask)]) rfl) rfl (WL.nil ⟨rfl, rfl, rfl⟩)
      refine WA.one (i := 2) (m' := 39) (by kernel_rfl) rfl rfl ?_
      refine WL.call ca85 (rfl) rfl (width_spec fm iv _ ((hI).ext' (E24)) hf) ?_
      rintro _ wd33 ⟨rfl, ed33⟩
      have R31 : Ext wr wd33 := Mod.trans (R23) (ed33)
      have E32 : Ext w wd33 := Mod.trans (E24) (ed33)
      refine WL.behind (R31) ?_
      refine WA.take (i := 3) (m' := 47) (v := IN ((64 - width fm))) rfl rfl rfl rfl (by kernel_rfl) rfl (fun _ _ _ h => h) (fun wx hS => ?_) (R31) ?_
      · exact WL.bin rfl rfl rfl (BinR.subN (a := 64) (b := width fm) (by omega) (by omega)) (WL.nil ⟨rfl, rfl, rfl⟩)
      refine WA.take (i := 4) (m' := 63) (v := I64 (((numberL 0#64 (fm.imm.take j) x <<< (fm.noughts)) <<< ((64 - width fm))))) rfl rfl rfl rfl (by kernel_rfl) rfl (fun _ _ _ h => h) (fun wx hS => ?_) (R31) ?_
      · exact WL.bin rfl rfl rfl (BinR.shl64) (WL.nil ⟨rfl, rfl, rfl⟩)
      refine WA.one (i := 6) (m' := 127) (by kernel_rfl) rfl rfl ?_
      refine WL.call ca85 (rfl) rfl (width_spec fm iv _ ((hI).ext' (E32)) hf) ?_
      rintro _ wd37 ⟨rfl, ed37⟩
      have R36 : Ext wr wd37 := Mod.trans (R31) (ed37)
      have E37 : Ext w wd37 := Mod.trans (E32) (ed37)
      refine WL.behind (R36) ?_
      refine WA.take (i := 7) (m' := 255) (v := IN ((64 - width fm))) rfl rfl rfl rfl (by kernel_rfl) rfl (fun _ _ _ h => h) (fun wx hS => ?_) (R36) ?_
      · exact WL.bin rfl rfl rfl (BinR.subN (a := 64) (b := width fm) (by omega) (by omega)) (WL.nil ⟨rfl, rfl, rfl⟩)
      refine WA.take (i := 8) (m' := 511) (v := I64 ((BitVec.sshiftRight (((numberL 0#64 (fm.imm.take j) x <<< (fm.noughts)) <<< ((64 - width fm)))) ((64 - width fm))))) rfl rfl rfl rfl (by kernel_rfl) rfl (fun _ _ _ h => h) (fun wx hS => ?_) (R36) ?_
      · exact WL.bin rfl rfl rfl (BinR.shr64) (WL.nil ⟨rfl, rfl, rfl⟩)
      refine WA.take (i := 9) (m' := 1023) (v := I64 ((BitVec.sshiftRight (((numberL 0#64 (fm.imm.take j) x <<< (fm.noughts)) <<< ((64 - width fm)))) ((64 - width fm))))) rfl rfl rfl rfl (by kernel_rfl) rfl (fun _ _ _ h => h) (fun wx hS => ?_) (R36) ?_
      · exact WL.assign (v := I64 ((BitVec.sshiftRight (((numberL 0#64 (fm.imm.take j) x <<< (fm.noughts)) <<< ((64 - width fm)))) ((64 - width fm))))) rfl rfl (WL.nil ⟨rfl, rfl, rfl⟩)
      refine WA.done (by kernel_rfl) ?_
      refine WC.seq (WC.region (WL.move (v := I64 ((BitVec.sshiftRight (((numberL 0#64 (fm.imm.take j) x <<< (fm.noughts)) <<< ((64 - width fm)))) ((64 - width fm))))) rfl rfl (WL.assign (v := I64 ((BitVec.sshiftRight (((numberL 0#64 (fm.imm.take j) x <<< (fm.noughts)) <<< ((64 - width fm)))) ((64 - width fm))))) rfl rfl (WL.nil (WC.ret ?_)))))
      have hfin : ((I64 ((BitVec.sshiftRight (((numberL 0#64 (fm.imm.take j) x <<< (fm.noughts)) <<< ((64 - width fm)))) ((64 - width fm))))) : Value) = I64 (number fm x) := congrArg I64 (by unfold number; rw [← htk]; simp only [hc30, htk]; rfl)
      exact ⟨_, Res.one (v := I64 ((BitVec.sshiftRight (((numberL 0#64 (fm.imm.take j) x <<< (fm.noughts)) <<< ((64 - width fm)))) ((64 - width fm))))) rfl rfl, hfin, E37⟩
    · refine WC.skip (WC.seq (WC.region (WL.move (v := I64 ((numberL 0#64 (fm.imm.take j) x <<< (fm.noughts)))) rfl rfl (WL.assign (v := I64 ((numberL 0#64 (fm.imm.take j) x <<< (fm.noughts)))) rfl rfl (WL.nil (WC.ret ?_))))))
      have hfin : ((I64 ((numberL 0#64 (fm.imm.take j) x <<< (fm.noughts)))) : Value) = I64 (number fm x) := congrArg I64 (by unfold number; rw [← htk]; simp only [hc30, htk]; rfl)
      exact ⟨_, Res.one (v := I64 ((numberL 0#64 (fm.imm.take j) x <<< (fm.noughts)))) rfl rfl, hfin, hE⟩
def rowIs (r : RvRow) (x : BitVec 32) : Bool := (r.form.mask != 0#32) && ((x &&& r.form.mask) == r.mtch)
def mayF (has : Bool) (n : BitVec 8) : Bool := BitVec.ult n 32#8 && (has || (n == 0#8))
theorem rowIs_spec (r : RvRow) (iv : Value) (bw : Nat) (x : BitVec 32) (w : World) (hW : Blk w bw #[U32 x] 50) : CallsR Tryz.prog 64 #[.agg #[.bool (r.form.rd), .bool (r.form.rs1), .bool (r.form.rs2), iv, IN (r.form.noughts), .bool (r.form.signed), U32 (r.form.mask), St r.name, U32 (r.mtch)], ptr bw 0] w (fun v w' => v = .bool (rowIs r x) ∧ Ext w w') := by
  refine callsR_of Tryz.func64 rfl rfl rfl ?_
  refine WC.seq (WC.region (WL.box (v := .agg #[.bool (r.form.rd), .bool (r.form.rs1), .bool (r.form.rs2), iv, IN (r.form.noughts), .bool (r.form.signed), U32 (r.form.mask), St r.name, U32 (r.mtch)]) rfl rfl ?_))
  intro b2 w2 n2
  have E1 : Ext w w2 := Mod.trans (Mod.refl _ _) (n2.ext)
  refine WL.assign (v := .bool (false)) rfl rfl (WL.nil (WC.seq (WC.region (WL.fieldAddr rfl fo118_0 rfl (WL.fieldAddr rfl fo116_6 rfl (WL.load1 rfl ag50 (n2.blk.cell (j := 6) rfl) rfl (WL.bin rfl (vy := U32 (0#32)) rfl rfl (BinR.neqU32) (WL.move (v := .bool ((r.form.mask != 0#32))) rfl rfl ?_))))))))
  rcases Bool.eq_false_or_eq_true ((r.form.mask != 0#32)) with hg8 | hg8
  · refine WL.guardT (yf_bool rfl rfl hg8) ?_
    have B2 := (hW).ext (n2.ext)
    refine WL.load1 rfl ag50 (B2.cell (j := 0) rfl) rfl (WL.guardT (yf_bool rfl rfl hg8) (WL.fieldAddr rfl fo118_0 rfl (WL.guardT (yf_bool rfl rfl hg8) (WL.fieldAddr rfl fo116_6 rfl (WL.guardT (yf_bool rfl rfl hg8) (WL.load1 rfl ag50 (n2.blk.cell (j := 6) rfl) rfl (WL.guardT (yf_bool rfl rfl hg8) (WL.bin rfl rfl rfl (BinR.andU32) (WL.guardT (yf_bool rfl rfl hg8) ?_)))))))))
    refine WL.fieldAddr rfl fo118_2 rfl (WL.guardT (yf_bool rfl rfl hg8) (WL.load1 rfl ag50 (n2.blk.cell (j := 8) rfl) rfl (WL.guardT (yf_bool rfl rfl hg8) (WL.bin rfl rfl rfl (BinR.eqlU32) (WL.pick (b := true) (congrArg Value.bool hg8) rfl rfl (WL.assign (v := .bool (((x &&& r.form.mask) == r.mtch))) rfl rfl (WL.nil (WC.ret ?_))))))))
    have hfin : ((.bool (((x &&& r.form.mask) == r.mtch))) : Value) = Value.bool (rowIs r x) := congrArg Value.bool (by simp only [rowIs, *, Bool.true_or, Bool.or_true, Bool.false_or, Bool.or_false, Bool.true_and, Bool.and_true, Bool.false_and, Bool.and_false])
    exact ⟨_, Res.one (v := .bool (((x &&& r.form.mask) == r.mtch))) rfl rfl, hfin, E1⟩
  · refine WL.guardF (b' := false) (yf_bool rfl rfl hg8) rfl rfl (WL.guardF (b' := false) (yf_bool rfl rfl hg8) rfl rfl (WL.guardF (b' := false) (yf_bool rfl rfl hg8) rfl rfl (WL.guardF (b' := false) (yf_bool rfl rfl hg8) rfl rfl (WL.guardF (b' := false) (yf_bool rfl rfl hg8) rfl rfl (WL.guardF (b' := false) (yf_bool rfl rfl hg8) rfl rfl (WL.guardF (b' := false) (yf_bool rfl rfl hg8) rfl rfl (WL.guardF (b' := false) (yf_bool rfl rfl hg8) rfl rfl (WL.pick (b := false) (congrArg Value.bool hg8) rfl rfl (WL.assign (v := .bool (false)) rfl rfl ?_)))))))))
    refine WL.nil (WC.ret ?_)
    have hfin : ((.bool (false)) : Value) = Value.bool (rowIs r x) := congrArg Value.bool (by simp only [rowIs, *, Bool.true_or, Bool.or_true, Bool.false_or, Bool.or_false, Bool.true_and, Bool.and_true, Bool.false_and, Bool.and_false])
    exact ⟨_, Res.one (v := .bool (false)) rfl rfl, hfin, E1⟩
theorem may_spec (has : Bool) (n : BitVec 8) (w : World) : CallsR Tryz.prog 49 #[.bool (has), U8 (n)] w (fun v w' => v = .bool (mayF has n) ∧ Ext w w') := by
  refine callsR_of Tryz.func49 rfl rfl rfl ?_
  refine WC.seq (WC.region (WL.assign (v := .bool (false)) rfl rfl (WL.nil (WC.seq (WC.region (WL.move (v := U8 (n)) rfl rfl (WL.bin rfl (vy := U8 (32#8)) rfl rfl (BinR.lssU8) (WL.move (v := .bool (BitVec.ult (n) (32#8))) rfl rfl ?_))))))))
  rcases Bool.eq_false_or_eq_true (BitVec.ult (n) (32#8)) with hg7 | hg7
  · refine WL.guardT (yf_bool rfl rfl hg7) (WL.move (v := .bool (has)) rfl rfl (WL.guardT (yf_bool rfl rfl hg7) (WL.move (v := .bool (has)) rfl rfl ?_)))
    rcases Bool.eq_false_or_eq_true (has) with hg9 | hg9
    · refine WL.guardF (b' := true) (yf_bool rfl rfl hg9) rfl rfl (WL.guardF (b' := true) (yf_bool rfl rfl hg9) rfl rfl (WL.guardT (yf_bool rfl rfl hg7) (WL.pick (b := true) (congrArg Value.bool hg9) rfl rfl (WL.pick (b := true) (congrArg Value.bool hg7) rfl rfl (WL.assign (v := .bool (true)) rfl rfl (WL.nil (WC.ret ?_)))))))
      have hfin : ((.bool (true)) : Value) = Value.bool (mayF has n) := congrArg Value.bool (by simp only [mayF, *, Bool.true_or, Bool.or_true, Bool.false_or, Bool.or_false, Bool.true_and, Bool.and_true, Bool.false_and, Bool.and_false])
      exact ⟨_, Res.one (v := .bool (true)) rfl rfl, hfin, Mod.refl _ _⟩
    · refine WL.guardT (yf_bool rfl rfl hg9) (WL.move (v := U8 (n)) rfl rfl (WL.guardT (yf_bool rfl rfl hg9) (WL.bin rfl (vy := U8 (0#8)) rfl rfl (BinR.eqlU8) (WL.guardT (yf_bool rfl rfl hg7) (WL.pick (b := false) (congrArg Value.bool hg9) rfl rfl (WL.pick (b := true) (congrArg Value.bool hg7) rfl rfl (WL.assign (v := .bool ((n == 0#8))) rfl rfl (WL.nil (WC.ret ?_)))))))))
      have hfin : ((.bool ((n == 0#8))) : Value) = Value.bool (mayF has n) := congrArg Value.bool (by simp only [mayF, *, Bool.true_or, Bool.or_true, Bool.false_or, Bool.or_false, Bool.true_and, Bool.and_true, Bool.false_and, Bool.and_false])
      exact ⟨_, Res.one (v := .bool ((n == 0#8))) rfl rfl, hfin, Mod.refl _ _⟩
  · refine WL.guardF (b' := false) (yf_bool rfl rfl hg7) rfl rfl (WL.guardF (b' := false) (yf_bool rfl rfl hg7) rfl rfl (WL.guardU rfl rfl (WL.guardU rfl rfl (WL.guardF (b' := false) (yf_bool rfl rfl hg7) rfl rfl (WL.pick (b := false) (congrArg Value.bool hg7) rfl rfl (WL.assign (v := .bool (false)) rfl rfl (WL.nil (WC.ret ?_))))))))
    have hfin : ((.bool (false)) : Value) = Value.bool (mayF has n) := congrArg Value.bool (by simp only [mayF, *, Bool.true_or, Bool.or_true, Bool.false_or, Bool.or_false, Bool.true_and, Bool.and_true, Bool.false_and, Bool.and_false])
    exact ⟨_, Res.one (v := .bool (false)) rfl rfl, hfin, Mod.refl _ _⟩
end Go.Proofs.M
end
section
namespace Go.Proofs.YtlabgjcjccdjfaaGreatDoor.Condition
open Go.ChangeShapes Go.WideShapes Go.ChangeAt Go.RowKit Go.Ux Go.Deep Go.Joins Go.Proofs.M
theorem own : ownKnob Tryz.prog.godebug = none := by kernel_rfl
theorem laidOut : laidOutB Tryz.prog = true := by kernel_rfl
theorem rt : (Tryz.prog.cutTypes.find? (·.1 == "internal/reflectlite.rtype")).map (·.2) = some 206 := by kernel_rfl
theorem oneRow : ((List.range Tryz.prog.types.size).filter fun t => Tryz.prog.rowNamed t [101, 114, 114, 111, 114]) = [83] := by kernel_rfl
theorem handle83 : typeHandle Tryz.prog 83 = .pointer (some ⟨6, 83, none⟩) := by kernel_rfl
theorem c125 : Tryz.prog.cellsOf 125 = 2 := by kernel_rfl
theorem ones : oneCellFields Tryz.prog #[{ name := "from", type := 3, offset := 0, embedded := false, tag := "", pkgPath := "proofmark/rv", byteOffset := 0 }, { name := "many", type := 3, offset := 1, embedded := false, tag := "", pkgPath := "proofmark/rv", byteOffset := 8 }] = true := by kernel_rfl
theorem gE : Tryz.prog.globalNamed "errors.errorType" = some 3 := by kernel_rfl
theorem g0 : Tryz.prog.globalNamed "proofmark/rv.rd" = some 0 := by kernel_rfl
theorem g1 : Tryz.prog.globalNamed "proofmark/rv.rs1" = some 1 := by kernel_rfl
theorem g2 : Tryz.prog.globalNamed "proofmark/rv.rs2" = some 2 := by kernel_rfl
theorem g4 : Tryz.prog.globalNamed "proofmark/rv.f3" = some 4 := by kernel_rfl
theorem g5 : Tryz.prog.globalNamed "proofmark/rv.f7" = some 5 := by kernel_rfl
theorem t0 : (Tryz.prog.globals[0]?).map (·.type) = some 125 := by kernel_rfl
theorem t1 : (Tryz.prog.globals[1]?).map (·.type) = some 125 := by kernel_rfl
theorem t2 : (Tryz.prog.globals[2]?).map (·.type) = some 125 := by kernel_rfl
theorem t4 : (Tryz.prog.globals[4]?).map (·.type) = some 125 := by kernel_rfl
theorem t5 : (Tryz.prog.globals[5]?).map (·.type) = some 125 := by kernel_rfl
def list : List (String × DataW Unit) := [("errors.errorType", Rows.laid_errors_errorType), ("proofmark/rv.rd", Rows.laid_proofmark_rv_rd), ("proofmark/rv.f3", Rows.laid_proofmark_rv_f3), ("proofmark/rv.rs1", Rows.laid_proofmark_rv_rs1), ("proofmark/rv.rs2", Rows.laid_proofmark_rv_rs2), ("proofmark/rv.f7", Rows.laid_proofmark_rv_f7)]
def Reads (w : World) (n : String) (d : DataW Unit) : Prop :=
  ∃ g t cs fuel p, Tryz.prog.globalNamed n = some g ∧ (Tryz.prog.globals[g]?).map (·.type) = some t ∧ w.var? Tryz.prog n = some cs ∧ DataW.trod (fun _ => ()) Tryz.prog w 0 (fun _ => true) false fuel t cs.toList = some (d, p)
theorem vars_reads {w : World} : ∀ {l : List (String × DataW Unit)} {ps : List MemPlace}, DataW.LaidVars Tryz.prog w l ps → ∀ n d, (n, d) ∈ l → Reads w n d
  | [], _, _, _, _, hm => by cases hm
  | (n', d') :: r, ps, h, n, d, hm => by
    obtain ⟨g, t, cs, fuel, p, q, h1, h2, h3, h4, h5, _⟩ := h
    rcases List.mem_cons.1 hm with e | e
    · cases e
      exact ⟨g, t, cs, fuel, p, h1, h2, h3, h4⟩
    · exact vars_reads h5 n d e
theorem two_cells {P : Program} {w : World} {base : Nat} {sp : Nat → Bool} {held : Bool} {f0 f1 : Field} {t : TypeId} {fuel : Nat} {cs : List Value} {x y : Int} {p : List MemPlace} (ht : P.underlying t = some (.struct #[f0, f1])) (hone : oneCellFields P #[f0, f1] = true) (hC : P.cellsOf t = 2)
    (h0 : P.underlying f0.type = some (.int .i64)) (h1 : P.underlying f1.type = some (.int .i64)) (h : DataW.trod (fun _ => ()) P w base sp held fuel t cs = some (.agg [.lit (.int .i64 x), .lit (.int .i64 y)], p)) : cs = [.int .i64 x, .int .i64 y] := by
  obtain ⟨y0, y1, m, hx, hl, k0, k1⟩ := trod_struct2 ht h
  obtain ⟨o0, n0⟩ := hone_of hone 0 f0 rfl
  obtain ⟨o1, n1⟩ := hone_of hone 1 f1 rfl
  obtain ⟨c0, c1, rfl⟩ : ∃ c0 c1, cs = [c0, c1] := by
    match cs, hl.trans hC with
    | [a, b], _ => exact ⟨a, b, rfl⟩
  obtain ⟨z0, e0, q0, _⟩ := DataW.trod_int h0 k0
  obtain ⟨z1, e1, q1, _⟩ := DataW.trod_int h1 k1
  subst q0 q1
  simp only [Prod.mk.injEq, DataW.agg.injEq, List.cons.injEq, DataW.lit.injEq, Lit.int.injEq, true_and, and_true] at hx
  obtain ⟨⟨rfl, rfl⟩, _⟩ := hx
  have e0' : c0 = .int .i64 x := by simpa [o0, n0] using e0
  have e1' : c1 = .int .i64 y := by simpa [o1, n1] using e1
  rw [e0', e1']
theorem two {w : World} {n : String} {g : Nat} {x y : Int} (h : Reads w n (.agg [.lit (.int .i64 x), .lit (.int .i64 y)])) (hg : Tryz.prog.globalNamed n = some g) (ht : (Tryz.prog.globals[g]?).map (·.type) = some 125) :
    Cells w g 0 [.int .i64 x, .int .i64 y] := by
  obtain ⟨g', t', cs, fuel, p, h1, h2, h3, h4⟩ := h
  obtain rfl := Option.some.inj (hg.symm.trans h1)
  obtain rfl := Option.some.inj (ht.symm.trans h2)
  have e := two_cells Tryz.underlying125 ones c125 Tryz.underlying3 Tryz.underlying3 h4
  intro j u hj
  rw [Nat.zero_add, ← hj, ← e, Array.getElem?_toList]
  exact World.var?_cell hg h3 j
theorem opened {w : World} (h : laidMetH Tryz.prog list w) : Glob w ∧ w.cell? ⟨3, 0, none⟩ = some (.iface 206 (.agg #[.pointer (some ⟨6, 83, none⟩)])) := by
  have h' : laidMet Tryz.prog list.tail w ∧ handlesMet Tryz.prog [("errors.errorType", Rows.laid_errors_errorType)] w := h
  obtain ⟨⟨ps, hv, _⟩, hH⟩ := h'
  refine ⟨⟨two (vars_reads hv _ _ (by simp [list, Rows.laid_proofmark_rv_rd])) g0 t0, two (vars_reads hv _ _ (by simp [list, Rows.laid_proofmark_rv_rs1])) g1 t1, two (vars_reads hv _ _ (by simp [list, Rows.laid_proofmark_rv_rs2])) g2 t2,
    two (vars_reads hv _ _ (by simp [list, Rows.laid_proofmark_rv_f3])) g4 t4, two (vars_reads hv _ _ (by simp [list, Rows.laid_proofmark_rv_f7])) g5 t5⟩, ?_⟩
  obtain ⟨name, u, ty, e1, e2, e3, e4, e5⟩ := hH _ (List.mem_singleton.2 rfl)
  have en : name = [101, 114, 114, 111, 114] := (Option.some.inj e1).symm
  subst en
  obtain rfl := Option.some.inj (rt.symm.trans e2)
  have hm : ty ∈ (List.range Tryz.prog.types.size).filter fun t => Tryz.prog.rowNamed t [101, 114, 114, 111, 114] := List.mem_filter.2 ⟨List.mem_range.2 e3, e4⟩
  rw [oneRow] at hm
  obtain rfl := List.mem_singleton.1 hm
  rw [handle83] at e5
  simpa using World.var?_cell gE e5 0
noncomputable def laidWorld (os : Os) : World :=
  { World.holding Tryz.prog os ⟨#[], #[], []⟩ with heap := ((((((World.holding Tryz.prog os ⟨#[], #[], []⟩).heap.modify 0 (put #[IN 7, IN 5])).modify 1 (put #[IN 15, IN 5])).modify 2 (put #[IN 20, IN 5])).modify 3 (put #[.iface 206 (.agg #[.pointer (some ⟨6, 83, none⟩)])])).modify 4 (put #[IN 12, IN 3])).modify 5 (put #[IN 25, IN 7]) }
where put (cs : Array Value) : Obj → Obj
  | .cells _ t frozen => .cells cs t frozen
  | o => o
theorem laid_met (os : Os) (args : Array Value) : laidMetH Tryz.prog list ((laidWorld os).forCall (fun _ _ => 0) ⟨#[], args, []⟩).memory :=
  laidMetH_of_parts (laidMet_of_run' 8 (by kernel_rfl) (by kernel_rfl)) (by kernel_rfl)
end Go.Proofs.YtlabgjcjccdjfaaGreatDoor.Condition
end
section
namespace Go.Ux
open Go
theorem bs_U8 (l : List UInt8) : bs l = (l.map UInt8.toBitVec).map U8 := by
  unfold bs; rw [List.map_map]; rfl
end Go.Ux
end
section
namespace Go.Ux.Mach
open Go Go.Ux
def signW (x : BitVec 64) (m : Nat) : BitVec 64 := BitVec.sshiftRight (x <<< (64 - m)) (64 - m)
def bitW (b : Bool) : BitVec 64 := if b then 1#64 else 0#64
def hiW (x y : BitVec 64) : BitVec 64 :=
  let x0 := x &&& 4294967295#64
  let x1 := x >>> 32
  let y0 := y &&& 4294967295#64
  let y1 := y >>> 32
  let w0 := x0 * y0
  let t := x1 * y0 + w0 >>> 32
  let w1 := (t &&& 4294967295#64) + x0 * y1
  let w2 := t >>> 32
  x1 * y1 + w2 + w1 >>> 32
def sllW (x y : BitVec 64) : BitVec 64 := x <<< (y &&& 63#64).toNat
def srlW (x y : BitVec 64) : BitVec 64 := x >>> (y &&& 63#64).toNat
def sraW (x y : BitVec 64) : BitVec 64 := BitVec.sshiftRight x (y &&& 63#64).toNat
def mulhsuW (x y : BitVec 64) : BitVec 64 := hiW x y - y * bitW (BitVec.slt x 0#64)
def mulhW (x y : BitVec 64) : BitVec 64 := mulhsuW x y - x * bitW (BitVec.slt y 0#64)
def divW (x y : BitVec 64) : BitVec 64 := if y == 0#64 then 18446744073709551615#64 else if y == (BitVec.ofInt 64 (-1)) then -x else x.sdiv y
def remW (x y : BitVec 64) : BitVec 64 := if y == 0#64 then x else if y == (BitVec.ofInt 64 (-1)) then 0#64 else x.srem y
def divuW (x y : BitVec 64) : BitVec 64 := if y == 0#64 then 18446744073709551615#64 else x / y
def remuW (x y : BitVec 64) : BitVec 64 := if y == 0#64 then x else x % y
def signedF (F : BitVec 64 → BitVec 64 → BitVec 64) (x y : BitVec 64) : BitVec 64 := signW (F (signW x 32) (signW y 32)) 32
def unsignedF (F : BitVec 64 → BitVec 64 → BitVec 64) (x y : BitVec 64) : BitVec 64 := signW (F (x &&& 4294967295#64) (y &&& 4294967295#64)) 32
def movedF (F : BitVec 64 → BitVec 64 → BitVec 64) (x y : BitVec 64) : BitVec 64 := F x (y &&& 31#64)
end Go.Ux.Mach
end
section
namespace Go.Ux
open Go
variable {P : Program} {t : TypeId}
theorem equalIn_ptr (d : Nat) {e : TypeId} {a : Addr} (h : P.underlying t = some (.pointer e)) (w : World) : (Op.equalIn (d + 1) t (.pointer (some a)) (.pointer none)).run P w = .ok false w := by
  simp [Op.equalIn, run_underlying h, Result.andThen]
theorem BinR.eqlPnil {e : TypeId} {a : Addr} (h : P.underlying t = some (.pointer e)) : BinR P .eql t (.pointer (some a)) (.pointer none) (.bool false) := fun x y w => by
  have e : (Op.equal t (.pointer (some a)) (.pointer none)).run P w = .ok false w := equalIn_ptr 9999 h w
  simp only [eqGuard, binOp, Sem.run_bind, Sem.run_pure, Result.andThen]; simp [e]
theorem BinR.neqPnil {e : TypeId} {a : Addr} (h : P.underlying t = some (.pointer e)) : BinR P .neq t (.pointer (some a)) (.pointer none) (.bool true) := fun x y w => by
  have e : (Op.equal t (.pointer (some a)) (.pointer none)).run P w = .ok false w := equalIn_ptr 9999 h w
  simp only [eqGuard, binOp, Sem.run_bind, Sem.run_pure, Result.andThen]; simp [e]
end Go.Ux
namespace Go.Ux
open Go
variable {P : Program} {t : TypeId}
theorem equalIn_sl (d : Nat) {e : TypeId} {a : Addr} {l c : Nat} (h : P.underlying t = some (.slice e)) (w : World) : (Op.equalIn (d + 1) t (.slice (some a) l c) (.slice none 0 0)).run P w = .ok false w := by
  simp [Op.equalIn, run_underlying h, Result.andThen]
theorem equalIn_slnil (d : Nat) {e : TypeId} (h : P.underlying t = some (.slice e)) (w : World) : (Op.equalIn (d + 1) t (.slice none 0 0) (.slice none 0 0)).run P w = .ok true w := by
  simp [Op.equalIn, run_underlying h, Result.andThen]
theorem BinR.eqlSl {e : TypeId} {a : Addr} {l c : Nat} (h : P.underlying t = some (.slice e)) : BinR P .eql t (.slice (some a) l c) (.slice none 0 0) (.bool false) := fun x y w => by
  have e : (Op.equal t (.slice (some a) l c) (.slice none 0 0)).run P w = .ok false w := equalIn_sl 9999 h w
  simp only [eqGuard, binOp, Sem.run_bind, Sem.run_pure, Result.andThen]; simp [e]
theorem BinR.eqlSlnil {e : TypeId} (h : P.underlying t = some (.slice e)) : BinR P .eql t (.slice none 0 0) (.slice none 0 0) (.bool true) := fun x y w => by
  have e : (Op.equal t (.slice none 0 0) (.slice none 0 0)).run P w = .ok true w := equalIn_slnil 9999 h w
  simp only [eqGuard, binOp, Sem.run_bind, Sem.run_pure, Result.andThen]; simp [e]
end Go.Ux
namespace Go.Ux
open Go
section
variable {P : Program} {ops : Array Oper} {l : List Oper} {n : Nat} {f : Fr} {w : World} {Q : Exit → Fr → World → Prop}
variable {d t u : Nat} {ty : TypeId} {pos : String} {aft : Array Edge}
theorem equalIn_if (k : Nat) {ms : Array (String × TypeId)} {tx : TypeId} {vx : Value} (h : P.underlying t = some (.interface ms)) (w : World) : (Op.equalIn (k + 1) t (.iface tx vx) .nilIface).run P w = .ok false w := by
  simp [Op.equalIn, run_underlying h, Result.andThen]
theorem equalIn_ifnil (k : Nat) {ms : Array (String × TypeId)} (h : P.underlying t = some (.interface ms)) (w : World) : (Op.equalIn (k + 1) t .nilIface .nilIface).run P w = .ok true w := by
  simp [Op.equalIn, run_underlying h, Result.andThen]
theorem BinR.eqlIf {ms : Array (String × TypeId)} {tx : TypeId} {vx : Value} (h : P.underlying t = some (.interface ms)) : BinR P .eql t (.iface tx vx) .nilIface (.bool false) := fun x y w => by
  have e : (Op.equal t (.iface tx vx) .nilIface).run P w = .ok false w := equalIn_if 9999 h w
  simp only [eqGuard, binOp, Sem.run_bind, Sem.run_pure, Result.andThen]; simp [e]
theorem BinR.neqIf {ms : Array (String × TypeId)} {tx : TypeId} {vx : Value} (h : P.underlying t = some (.interface ms)) : BinR P .neq t (.iface tx vx) .nilIface (.bool true) := fun x y w => by
  have e : (Op.equal t (.iface tx vx) .nilIface).run P w = .ok false w := equalIn_if 9999 h w
  simp only [eqGuard, binOp, Sem.run_bind, Sem.run_pure, Result.andThen]; simp [e]
theorem WL.eqlIfnil {ms : Array (String × TypeId)} {x : Operand} (h : P.underlying t = some (.interface ms)) (hx : ev f x = .nilIface) (hd : decide (d < n) = true) (k : WL P ops l n (upd f d (.bool true)) w Q) :
    WL P ops (⟨some d, .binOp .eql t x (.const .nilIface) u, ty, pos, aft, none⟩ :: l) n f w Q := by
  refine WL.val rfl hd (v := .bool true) (w' := w) ?_ k
  have e : (Op.equal t .nilIface .nilIface).run P w = .ok true w := equalIn_ifnil 9999 h w
  have hy : ev f (.const .nilIface) = .nilIface := rfl
  have b : (do eqGuard .eql t x (.const .nilIface) .nilIface .nilIface; binOp .eql t .nilIface .nilIface : Sem Value).run P w = .ok (.bool true) w := by
    simp only [eqGuard, binOp, Sem.run_bind, Sem.run_pure, Result.andThen]; simp [e]
  simp only [execOp, hx, hy]; rw [Sem.run_bind, b]; simp [Result.andThen]
theorem WL.neqIfnil {ms : Array (String × TypeId)} {x : Operand} (h : P.underlying t = some (.interface ms)) (hx : ev f x = .nilIface) (hd : decide (d < n) = true) (k : WL P ops l n (upd f d (.bool false)) w Q) :
    WL P ops (⟨some d, .binOp .neq t x (.const .nilIface) u, ty, pos, aft, none⟩ :: l) n f w Q := by
  refine WL.val rfl hd (v := .bool false) (w' := w) ?_ k
  have e : (Op.equal t .nilIface .nilIface).run P w = .ok true w := equalIn_ifnil 9999 h w
  have hy : ev f (.const .nilIface) = .nilIface := rfl
  have b : (do eqGuard .neq t x (.const .nilIface) .nilIface .nilIface; binOp .neq t .nilIface .nilIface : Sem Value).run P w = .ok (.bool false) w := by
    simp only [eqGuard, binOp, Sem.run_bind, Sem.run_pure, Result.andThen]; simp [e]
  simp only [execOp, hx, hy]; rw [Sem.run_bind, b]; simp [Result.andThen]
end
end Go.Ux
end
section
namespace Go.Ux
open Go
theorem Own.at {w : World} {size n : Nat} {v : Value} {xs : List Value} (h : Own w size v n xs) (h0 : 0 < n) : ∃ g cap, v = .slice (some ⟨g, 0, none⟩) n cap ∧ n ≤ cap ∧ Cells w g 0 xs := by
  rcases h.2 with ⟨_, e⟩ | ⟨g, cap, e, hn, hc, _⟩
  · omega
  · exact ⟨g, cap, e, hn, hc⟩
theorem Own.one {w : World} {size n : Nat} {v : Value} {xs : List Value} (h : Own w size v n xs) : v.oneCell' = true := by
  rcases h.2 with ⟨e, _⟩ | ⟨g, cap, e, _⟩ <;> (rw [e]; rfl)
end Go.Ux
namespace Go.Ux.Mach
open Go Go.Ux
def bsV (f : Nat → BitVec 8) (n : Nat) : List Value := (List.range n).map fun i => U8 (f i)
theorem bsV_length (f : Nat → BitVec 8) (n : Nat) : (bsV f n).length = n := by simp [bsV]
theorem bsV_get (f : Nat → BitVec 8) {n i : Nat} (h : i < n) : (bsV f n)[i]? = some (U8 (f i)) := by simp [bsV, h]
def updB (f : Nat → BitVec 8) (i : Nat) (v : BitVec 8) : Nat → BitVec 8 := fun k => if k = i then v else f k
theorem bsV_set (f : Nat → BitVec 8) (n i : Nat) (v : BitVec 8) : (bsV f n).set i (U8 v) = bsV (updB f i v) n := by
  apply List.ext_getElem?
  intro k
  rw [List.getElem?_set, bsV_length]
  by_cases hk : k < n
  · have e1 := bsV_get f hk
    have e2 := bsV_get (updB f i v) hk
    rw [e1, e2]
    by_cases e : i = k
    · subst e; rw [if_pos rfl, if_pos hk]; simp only [updB, if_true]
    · rw [if_neg e]; simp only [updB]; rw [if_neg (fun h : k = i => e h.symm)]
  · have h1 : (bsV f n)[k]? = none := List.getElem?_eq_none (by rw [bsV_length]; omega)
    have h2 : (bsV (updB f i v) n)[k]? = none := List.getElem?_eq_none (by rw [bsV_length]; omega)
    rw [h1, h2]
    split
    · rename_i e; subst e; rw [if_neg hk]
    · rfl
def whereM (n : Nat) (addr : BitVec 64) (size : Nat) : Option (Bool × Nat) :=
  if addr.toNat % size ≠ 0 then none
  else if 4194304 ≤ addr.toNat ∧ addr.toNat - 4194304 < n ∧ size ≤ n - (addr.toNat - 4194304) then some (true, addr.toNat - 4194304)
  else if 8323072 ≤ addr.toNat ∧ addr.toNat - 8323072 < 65536 ∧ size ≤ 65536 - (addr.toNat - 8323072) then some (false, addr.toNat - 8323072)
  else none
def loadR (f : Nat → BitVec 8) (o size : Nat) : Nat → BitVec 64
  | 0 => 0#64
  | k + 1 => (loadR f o size k <<< 8) ||| (f (o + (size - 1 - k))).setWidth 64
def loadB (f : Nat → BitVec 8) (o size : Nat) : BitVec 64 := loadR f o size size
def storeB (f : Nat → BitVec 8) (o : Nat) (v : BitVec 64) : Nat → (Nat → BitVec 8)
  | 0 => f
  | k + 1 => updB (storeB f o v k) (o + k) ((v >>> (8 * k)).setWidth 8)
end Go.Ux.Mach
end
section
set_option linter.unusedSimpArgs false
set_option linter.unusedVariables false
namespace Go.Proofs.S
open Go Go.Ux Go.Ux.Mach Go.Proofs
theorem el80 : elemT Tryz.prog 80 = some 91 := by kernel_rfl
theorem sz91 : sizeT Tryz.prog 91 = some 2 := by kernel_rfl
theorem ag91 : isAggT Tryz.prog 91 = some true := by kernel_rfl
theorem zt91 : zeroT Tryz.prog 91 = some #[.int .u64 0, .slice none 0 0] := by kernel_rfl
theorem fo91_0 : fieldOff Tryz.prog 91 0 = some 0 := by kernel_rfl
theorem ag39 : isAggT Tryz.prog 39 = some false := by kernel_rfl
theorem fo91_1 : fieldOff Tryz.prog 91 1 = some 1 := by kernel_rfl
theorem ag45 : isAggT Tryz.prog 45 = some false := by kernel_rfl
theorem el45 : elemT Tryz.prog 45 = some 5 := by kernel_rfl
theorem sz5 : sizeT Tryz.prog 5 = some 1 := by kernel_rfl
theorem mixed : Tryz.prog.follows .mixedOrders = true := by kernel_rfl
def aB (i : Nat) : BitVec 64 := if i = 0 then 4194304#64 else 8323072#64
def aV (sd ss : Value) (i : Nat) : Value := if i = 0 then sd else ss
def aN (n i : Nat) : Nat := if i = 0 then n else 65536
def aX (xd xs : List Value) (i : Nat) : List Value := if i = 0 then xd else xs
def hitA (n : Nat) (addr : BitVec 64) (size i : Nat) : Bool :=
  (BitVec.ule (aB i) addr && BitVec.ult (addr - aB i) (BitVec.ofNat 64 (aN n i))) && BitVec.ule (BitVec.ofNat 64 size) (BitVec.ofNat 64 (aN n i) - (addr - aB i))
theorem area_cells {w : World} {bq : Nat} {sd ss : Value} (h : Blk w bq #[U64 4194304#64, sd, U64 8323072#64, ss] 91) {i : Nat} (hi : i < 2) : Cells w bq (0 + i * 2) [U64 (aB i), aV sd ss i] := by
  match i, hi with
  | 0, _ => exact h.sub (o := 0) rfl
  | 1, _ => exact h.sub (o := 2) rfl
theorem area_own {w : World} {sd ss : Value} {n : Nat} {xd xs : List Value} (hd : Own w 1 sd n xd) (hs : Own w 1 ss 65536 xs) (i : Nat) : Own w 1 (aV sd ss i) (aN n i) (aX xd xs i) := by
  unfold aV aN aX; split
  · exact hd
  · exact hs
theorem aN_le {n : Nat} (hn : n ≤ 140737488355328) (i : Nat) : aN n i ≤ 140737488355328 := by unfold aN; split <;> omega
theorem hit_spec {n : Nat} (hn : n ≤ 140737488355328) (addr : BitVec 64) {size : Nat} (h8 : size ≤ 8) {i : Nat} :
    hitA n addr size i = true ↔ (aB i).toNat ≤ addr.toNat ∧ addr.toNat - (aB i).toNat < aN n i ∧ size ≤ aN n i - (addr.toNat - (aB i).toNat) := by
  have h1 := aN_le hn i
  have h2 := addr.isLt
  unfold hitA
  simp only [Bool.and_eq_true, BitVec.ule, BitVec.ult, decide_eq_true_eq, BitVec.toNat_sub, BitVec.toNat_ofNat]
  generalize (aB i).toNat = b at *
  generalize addr.toNat = a at *
  generalize aN n i = m at *
  rw [Nat.mod_eq_of_lt (show m < 2 ^ 64 by omega), Nat.mod_eq_of_lt (show size < 2 ^ 64 by omega)]
  constructor
  · rintro ⟨⟨k1, k2⟩, k3⟩
    have e : (2 ^ 64 - b + a) % 2 ^ 64 = a - b := by rw [show 2 ^ 64 - b + a = 2 ^ 64 + (a - b) by omega, Nat.add_mod_left]; exact Nat.mod_eq_of_lt (by omega)
    rw [e] at k2 k3
    rw [show 2 ^ 64 - (a - b) + m = 2 ^ 64 + (m - (a - b)) by omega, Nat.add_mod_left, Nat.mod_eq_of_lt (by omega)] at k3
    exact ⟨k1, k2, k3⟩
  · rintro ⟨k1, k2, k3⟩
    have e : (2 ^ 64 - b + a) % 2 ^ 64 = a - b := by rw [show 2 ^ 64 - b + a = 2 ^ 64 + (a - b) by omega, Nat.add_mod_left]; exact Nat.mod_eq_of_lt (by omega)
    rw [e]
    rw [show 2 ^ 64 - (a - b) + m = 2 ^ 64 + (m - (a - b)) by omega, Nat.add_mod_left, Nat.mod_eq_of_lt (show m - (a - b) < 2 ^ 64 by omega)]
    exact ⟨⟨k1, k2⟩, k3⟩
theorem where_data {n : Nat} {addr : BitVec 64} {size : Nat} (h : addr.toNat % size = 0) (k : (aB 0).toNat ≤ addr.toNat ∧ addr.toNat - (aB 0).toNat < aN n 0 ∧ size ≤ aN n 0 - (addr.toNat - (aB 0).toNat)) : whereM n addr size = some (true, addr.toNat - (aB 0).toNat) := by
  have e0 : aN n 0 = n := rfl
  have e2 : (aB 0).toNat = 4194304 := rfl
  rw [e0, e2] at k; rw [e2]
  unfold whereM
  rw [if_neg (fun e => e h), if_pos k]
theorem where_stk {n : Nat} {addr : BitVec 64} {size : Nat} (h : addr.toNat % size = 0) (k0 : ¬((aB 0).toNat ≤ addr.toNat ∧ addr.toNat - (aB 0).toNat < aN n 0 ∧ size ≤ aN n 0 - (addr.toNat - (aB 0).toNat))) (k : (aB 1).toNat ≤ addr.toNat ∧ addr.toNat - (aB 1).toNat < aN n 1 ∧ size ≤ aN n 1 - (addr.toNat - (aB 1).toNat)) : whereM n addr size = some (false, addr.toNat - (aB 1).toNat) := by
  have e0 : aN n 0 = n := rfl
  have e1 : aN n 1 = 65536 := rfl
  have e2 : (aB 0).toNat = 4194304 := rfl
  have e3 : (aB 1).toNat = 8323072 := rfl
  rw [e0, e2] at k0; rw [e1, e3] at k; rw [e3]
  unfold whereM
  rw [if_neg (fun e => e h), if_neg k0, if_pos k]
def AtR (sd ss : Value) (n : Nat) (addr : BitVec 64) (size : Nat) (v : Value) : Prop :=
  (whereM n addr size = none ∧ v = .slice none 0 0) ∨ ∃ i g c c', i < 2 ∧ whereM n addr size = some (decide (i = 0), addr.toNat - (aB i).toNat) ∧ aV sd ss i = .slice (some ⟨g, 0, none⟩) (aN n i) c ∧ v = .slice (some ⟨g, addr.toNat - (aB i).toNat, none⟩) size c' ∧ addr.toNat - (aB i).toNat + size ≤ aN n i
theorem hit_T {n : Nat} {addr : BitVec 64} {size i : Nat} (a : BitVec.ule (aB i) addr = true) (b : BitVec.ult (addr - aB i) (BitVec.ofNat 64 (aN n i)) = true) {r : Bool} (c : BitVec.ule (BitVec.ofNat 64 size) (BitVec.ofNat 64 (aN n i) - (addr - aB i)) = r) : hitA n addr size i = r := by unfold hitA; rw [a, b, c]; rfl
theorem hit_F1 {n : Nat} {addr : BitVec 64} {size i : Nat} (a : BitVec.ule (aB i) addr = false) : hitA n addr size i = false := by unfold hitA; rw [a]; rfl
theorem hit_F2 {n : Nat} {addr : BitVec 64} {size i : Nat} (b : BitVec.ult (addr - aB i) (BitVec.ofNat 64 (aN n i)) = false) : hitA n addr size i = false := by unfold hitA; rw [b, Bool.and_false]; rfl
theorem hit_next {n : Nat} {addr : BitVec 64} {size i : Nat} (hl : ∀ j, j < i → hitA n addr size j = false) (h : hitA n addr size i = false) : ∀ j, j < i + 1 → hitA n addr size j = false := fun j hj => by
  rcases Nat.lt_or_ge j i with h' | h'
  · exact hl j h'
  · obtain rfl : j = i := by omega
    exact h
theorem at_no1 {sd ss : Value} {n : Nat} {addr : BitVec 64} {size : Nat} (h0 : 0 < size) (h8 : size ≤ 8) (h : (addr % BitVec.ofNat 64 size != 0#64) = true) : AtR sd ss n addr size (.slice none 0 0) := by
  refine .inl ⟨?_, rfl⟩
  unfold whereM
  rw [if_pos]
  intro e
  have : addr % BitVec.ofNat 64 size = 0#64 := by
    apply BitVec.eq_of_toNat_eq
    rw [BitVec.toNat_umod, BitVec.toNat_ofNat, Nat.mod_eq_of_lt (show size < 2 ^ 64 by omega), e]; rfl
  rw [this] at h; cases h
theorem fits_mod {addr : BitVec 64} {size : Nat} (h0 : 0 < size) (h8 : size ≤ 8) (h : (addr % BitVec.ofNat 64 size != 0#64) = false) : addr.toNat % size = 0 := by
  have e : addr % BitVec.ofNat 64 size = 0#64 := by simpa using h
  have := congrArg BitVec.toNat e
  rwa [BitVec.toNat_umod, BitVec.toNat_ofNat, Nat.mod_eq_of_lt (show size < 2 ^ 64 by omega)] at this
theorem at_no2 {sd ss : Value} {n : Nat} (hn : n ≤ 140737488355328) {addr : BitVec 64} {size : Nat} (h0 : 0 < size) (h8 : size ≤ 8) (hm : (addr % BitVec.ofNat 64 size != 0#64) = false) (h : ∀ j, j < 2 → hitA n addr size j = false) : AtR sd ss n addr size (.slice none 0 0) := by
  refine .inl ⟨?_, rfl⟩
  have k0 := mt (hit_spec hn addr h8 (i := 0)).2 (by rw [h 0 (by omega)]; decide)
  have k1 := mt (hit_spec hn addr h8 (i := 1)).2 (by rw [h 1 (by omega)]; decide)
  have e0 : aN n 0 = n := rfl
  have e1 : aN n 1 = 65536 := rfl
  have e2 : (aB 0).toNat = 4194304 := rfl
  have e3 : (aB 1).toNat = 8323072 := rfl
  rw [e0, e2] at k0; rw [e1, e3] at k1
  unfold whereM
  rw [if_neg (by rw [fits_mod h0 h8 hm]; omega), if_neg k0, if_neg k1]
theorem at_ok {sd ss : Value} {n : Nat} (hn : n ≤ 140737488355328) {addr : BitVec 64} {size : Nat} (h0 : 0 < size) (h8 : size ≤ 8) (hm : (addr % BitVec.ofNat 64 size != 0#64) = false) {i g c c' : Nat} (hi : i < 2) (hl : ∀ j, j < i → hitA n addr size j = false) (hh : hitA n addr size i = true)
    (hg : aV sd ss i = .slice (some ⟨g, 0, none⟩) (aN n i) c) : AtR sd ss n addr size (.slice (some ⟨g, addr.toNat - (aB i).toNat, none⟩) size c') := by
  have k := (hit_spec hn addr h8).1 hh
  refine .inr ⟨i, g, c, c', hi, ?_, hg, rfl, by omega⟩
  have h9 := fits_mod h0 h8 hm
  rcases (by omega : i = 0 ∨ i = 1) with rfl | rfl
  · have e : decide ((0 : Nat) = 0) = true := decide_eq_true rfl
    rw [e]; exact where_data h9 k
  · have e : decide ((1 : Nat) = 0) = false := decide_eq_false (by omega)
    rw [e]; exact where_stk h9 (mt (hit_spec hn addr h8 (i := 0)).2 (by rw [hl 0 (by omega)]; decide)) k
theorem slice_facts {n : Nat} (hn : n ≤ 140737488355328) (addr : BitVec 64) {size c : Nat} (h0 : 0 < size) (h8 : size ≤ 8) {i : Nat} (hh : hitA n addr size i = true) (hc : aN n i ≤ c) :
    (addr - aB i).toNat ≤ (addr - aB i + BitVec.ofNat 64 size).toNat ∧ (addr - aB i + BitVec.ofNat 64 size).toNat ≤ c ∧ (addr - aB i).toNat < (addr - aB i + BitVec.ofNat 64 size).toNat ∧ (addr - aB i).toNat = addr.toNat - (aB i).toNat ∧ (addr - aB i + BitVec.ofNat 64 size).toNat - (addr - aB i).toNat = size := by
  have k := (hit_spec hn addr h8).1 hh
  have h1 := aN_le hn i
  have h2 := addr.isLt
  have e1 : (addr - aB i).toNat = addr.toNat - (aB i).toNat := by
    rw [BitVec.toNat_sub, show 2 ^ 64 - (aB i).toNat + addr.toNat = 2 ^ 64 + (addr.toNat - (aB i).toNat) by omega, Nat.add_mod_left]; exact Nat.mod_eq_of_lt (by omega)
  have e2 : (addr - aB i + BitVec.ofNat 64 size).toNat = addr.toNat - (aB i).toNat + size := by
    rw [BitVec.toNat_add, e1, BitVec.toNat_ofNat, Nat.mod_eq_of_lt (show size < 2 ^ 64 by omega)]; exact Nat.mod_eq_of_lt (by omega)
  omega
set_option maxRecDepth 100000 in
theorem at_spec (bq : Nat) (sd ss : Value) (n : Nat) (xd xs : List Value) (addr : BitVec 64) (size : Nat) (w : World) (hB : Blk w bq #[U64 4194304#64, sd, U64 8323072#64, ss] 91) (hd : Own w 1 sd n xd) (hs : Own w 1 ss 65536 xs) (hn : n ≤ 140737488355328) (h0 : 0 < size) (h8 : size ≤ 8) : CallsR Tryz.prog 72 #[.slice (some ⟨bq, 0, none⟩) 2 2, U64 (addr), IN (size)] w (fun v w' => AtR sd ss n addr size v ∧ Ext w w') := by
  have hsz : BitVec.ofNat 64 size ≠ 0#64 := by intro e; have := congrArg BitVec.toNat e; rw [BitVec.toNat_ofNat, Nat.mod_eq_of_lt (by omega)] at this; simp at this; omega
  refine callsR_of Tryz.func72 rfl rfl rfl ?_
  refine WC.seq (WC.region (WL.assign (v := .slice none 0 0) rfl rfl (WL.nil (WC.seq (WC.seq (WC.region (WL.move (v := U64 (addr)) rfl rfl (WL.move (v := IN (size)) rfl rfl (WL.conv rfl rfl (ConvR.nu64 Tryz.underlying3 Tryz.underlying39) ?_)))))))))
  refine WL.bin rfl rfl rfl (BinR.remU64 hsz) (WL.bin rfl (vy := U64 (0#64)) rfl rfl (BinR.neqU64) (WL.nil ?_))
  refine WC.cond rfl (fun hc14 => ?_) (fun hc14 => ?_)
  · refine WC.seq (WC.region (WL.assign (v := .slice none 0 0) rfl rfl (WL.nil (WC.ret ?_))))
    have hfin : AtR sd ss n addr size ((.slice none 0 0)) := by first | exact at_no1 h0 h8 hc14 | exact at_no2 hn h0 h8 hc14 (by subst hi; exact hl) | exact at_ok hn h0 h8 hc14 hi hl hh hg
    exact ⟨_, Res.one (v := .slice none 0 0) rfl rfl, hfin, Mod.refl _ _⟩
  · refine WC.skip (WC.seq (WC.seq (WC.region (WL.move (v := .slice (some ⟨bq, 0, none⟩) 2 2) rfl rfl (WL.lenS el80 rfl rfl (WL.move (v := IN (0)) rfl rfl (WL.nil (WC.block ?_))))))))
    refine WC.loop (fun k f w_ => ∃ i, (k + i = 2) ∧ (∀ j, j < i → hitA n addr size j = false) ∧ f 0 = .slice (some ⟨bq, 0, none⟩) 2 2 ∧ f 1 = U64 (addr) ∧ f 2 = IN (size) ∧ f 10 = U64 (addr) ∧ f 11 = IN (size) ∧ f 12 = U64 (BitVec.ofNat 64 (size)) ∧ f 13 = U64 (addr % BitVec.ofNat 64 size) ∧ f 14 = .bool ((addr % BitVec.ofNat 64 size != 0#64)) ∧ f 15 = .slice (some ⟨bq, 0, none⟩) 2 2 ∧ f 16 = IN (2) ∧ f 17 = IN (i) ∧ (Ext w w_)) (2) ?_ ?_
    · exact ⟨(0), by omega, fun j hj => absurd hj (by omega), rfl, rfl, rfl, rfl, rfl, rfl, rfl, rfl, rfl, rfl, rfl, Mod.refl _ _⟩
    rintro ka f1 wr ⟨i, hk, hl, h0_1, h1_1, h2_1, h10_1, h11_1, h12_1, h13_1, h14_1, h15_1, h16_1, h17_1, hE⟩
    refine WC.seq (WC.region (WL.bin h17_1 h16_1 rfl (BinR.lss) (WL.nil (WC.seq ?_))))
    refine WC.cond rfl (fun hc18 => ?_) (fun hc18 => ?_)
    · have hi : i < 2 := by have := of_decide_eq_true hc18; omega
      refine WC.skip (WC.seq (WC.block (WC.seq (WC.region (WL.indexAddr (i := i) (b := bq) (o := 0) el80 sz91 (Eq.trans (h15_1) rfl) h17_1 (by omega) rfl (WL.loadS [U64 (aB i), aV sd ss i] rfl ag91 sz91 rfl (area_cells (hB.ext (hE)) hi) rfl (WL.allocStore (v := .agg #[U64 (aB i), aV sd ss i]) zt91 rfl sz91 rfl rfl (ones2 rfl (area_own hd hs i).one) rfl ?_)))))))
      intro b8 w8 n8
      have E2 : Ext w w8 := Mod.trans (hE) (n8.ext)
      refine WL.nil (WC.seq (WC.region (WL.move (v := U64 (addr)) h1_1 rfl (WL.fieldAddr rfl fo91_0 rfl (WL.load1 rfl ag39 (n8.blk.cell (j := 0) rfl) rfl (WL.bin rfl rfl rfl (BinR.subU64) (WL.assign (v := U64 ((addr - aB i))) rfl rfl (WL.nil (WC.seq ?_)))))))))
      refine WC.region (WL.move (v := U64 (addr)) h1_1 rfl (WL.fieldAddr rfl fo91_0 rfl (WL.load1 rfl ag39 (n8.blk.cell (j := 0) rfl) rfl (WL.bin rfl rfl rfl (BinR.geqU64) (WL.move (v := .bool (BitVec.ule (aB i) (addr))) rfl rfl ?_)))))
      rcases Bool.eq_false_or_eq_true (BitVec.ule (aB i) (addr)) with hg29 | hg29
      · refine WL.guardT (yf_bool rfl rfl hg29) (WL.move (v := U64 ((addr - aB i))) rfl rfl (WL.guardT (yf_bool rfl rfl hg29) (WL.fieldAddr rfl fo91_1 rfl (WL.guardT (yf_bool rfl rfl hg29) (WL.load1 rfl ag45 (n8.blk.cell (j := 1) rfl) rfl (WL.guardT (yf_bool rfl rfl hg29) ?_))))))
        obtain ⟨gl33, cl33, el33, _⟩ := (area_own hd hs i).sl
        refine WL.lenSl (sz := 1) (m := aN n i) (xs := aX xd xs i) el45 rfl ((area_own hd hs i).sl.ext (E2)) rfl (WL.guardT (yf_bool rfl rfl hg29) (WL.conv rfl rfl (ConvR.nu64 Tryz.underlying3 Tryz.underlying39) (WL.guardT (yf_bool rfl rfl hg29) (WL.bin rfl rfl rfl (BinR.lssU64) (WL.pick (b := true) (congrArg Value.bool hg29) rfl rfl (WL.move (v := .bool (BitVec.ult ((addr - aB i)) (BitVec.ofNat 64 ((aN n i))))) rfl rfl ?_))))))
        rcases Bool.eq_false_or_eq_true (BitVec.ult ((addr - aB i)) (BitVec.ofNat 64 ((aN n i)))) with hg37 | hg37
        · refine WL.guardT (yf_bool rfl rfl hg37) (WL.fieldAddr rfl fo91_1 rfl (WL.guardT (yf_bool rfl rfl hg37) (WL.load1 rfl ag45 (n8.blk.cell (j := 1) rfl) rfl (WL.guardT (yf_bool rfl rfl hg37) ?_))))
          obtain ⟨gl40, cl40, el40, _⟩ := (area_own hd hs i).sl
          refine WL.lenSl (sz := 1) (m := aN n i) (xs := aX xd xs i) el45 rfl ((area_own hd hs i).sl.ext (E2)) rfl (WL.guardT (yf_bool rfl rfl hg37) (WL.conv rfl rfl (ConvR.nu64 Tryz.underlying3 Tryz.underlying39) (WL.guardT (yf_bool rfl rfl hg37) (WL.move (v := U64 ((addr - aB i))) rfl rfl (WL.guardT (yf_bool rfl rfl hg37) (WL.bin rfl rfl rfl (BinR.subU64) (WL.guardT (yf_bool rfl rfl hg37) (WL.move (v := IN (size)) h2_1 rfl (WL.guardT (yf_bool rfl rfl hg37) ?_)))))))))
          refine WL.conv rfl rfl (ConvR.nu64 Tryz.underlying3 Tryz.underlying39) (WL.guardT (yf_bool rfl rfl hg37) (WL.bin rfl rfl rfl (BinR.geqU64) (WL.pick (b := true) (congrArg Value.bool hg37) rfl rfl (WL.nil ?_))))
          refine WC.cond rfl (fun hc47 => ?_) (fun hc47 => ?_)
          · have hh : hitA n addr size i = true := hit_T hg29 hg37 hc47
            obtain ⟨g, c, hg, hcc, _⟩ := (area_own hd hs i).at (by have := (hit_spec hn addr h8).1 hh; omega)
            obtain ⟨hx1, hx2, hx3, hx4, hx5⟩ := slice_facts hn addr h0 h8 hh hcc
            refine WC.seq (WC.region (WL.fieldAddr rfl fo91_1 rfl (WL.load1 rfl ag45 (n8.blk.cell (j := 1) rfl) rfl (WL.move (v := U64 ((addr - aB i))) rfl rfl (WL.move (v := U64 ((addr - aB i))) rfl rfl (WL.move (v := IN (size)) h2_1 rfl (WL.conv rfl rfl (ConvR.nu64 Tryz.underlying3 Tryz.underlying39) (WL.bin rfl rfl rfl (BinR.addU64) (WL.sliceLH (i := (addr - aB i).toNat) (j := (addr - aB i + BitVec.ofNat 64 size).toNat) el45 sz5 (Eq.trans (rfl) hg) rfl rfl hx1 hx2 rfl ?_)))))))))
            intro ao h55
            have hao : ao = some ⟨g, addr.toNat - (aB i).toNat, none⟩ := by rw [h55 hx3]; simp [addr_add, hx4]
            subst hao
            rw [hx5]
            refine WL.assign (v := .slice (some ⟨g, addr.toNat - (aB i).toNat, none⟩) size (c - (addr - aB i).toNat)) rfl rfl (WL.nil (WC.ret ?_))
            have hfin : AtR sd ss n addr size ((.slice (some ⟨g, addr.toNat - (aB i).toNat, none⟩) size (c - (addr - aB i).toNat))) := by first | exact at_no1 h0 h8 hc14 | exact at_no2 hn h0 h8 hc14 (by subst hi; exact hl) | exact at_ok hn h0 h8 hc14 hi hl hh hg
            exact ⟨_, Res.one (v := .slice (some ⟨g, addr.toNat - (aB i).toNat, none⟩) size (c - (addr - aB i).toNat)) rfl rfl, hfin, E2⟩
          · have hh : hitA n addr size i = false := hit_T hg29 hg37 hc47
            refine WC.skip (WC.region (WL.bin h17_1 rfl rfl (BinR.succN (by omega)) (WL.move (v := IN (i + 1)) rfl rfl (WL.nil ?_))))
            exact ⟨ka - 1, by omega, (i + 1), by omega, hit_next hl (by first | exact hit_T hg29 hg37 hc47 | exact hit_F2 hg37 | exact hit_F1 hg29), h0_1, h1_1, h2_1, h10_1, h11_1, h12_1, h13_1, h14_1, h15_1, h16_1, rfl, E2⟩
        · refine WL.guardF (b' := false) (yf_bool rfl rfl hg37) rfl rfl (WL.guardF (b' := false) (yf_bool rfl rfl hg37) rfl rfl (WL.guardF (b' := false) (yf_bool rfl rfl hg37) rfl rfl (WL.guardF (b' := false) (yf_bool rfl rfl hg37) rfl rfl (WL.guardF (b' := false) (yf_bool rfl rfl hg37) rfl rfl (WL.guardF (b' := false) (yf_bool rfl rfl hg37) rfl rfl (WL.guardF (b' := false) (yf_bool rfl rfl hg37) rfl rfl (WL.guardF (b' := false) (yf_bool rfl rfl hg37) rfl rfl (WL.guardF (b' := false) (yf_bool rfl rfl hg37) rfl rfl (WL.pick (b := false) (congrArg Value.bool hg37) rfl rfl ?_)))))))))
          refine WL.nil (WC.condF rfl (WC.skip (WC.region (WL.bin h17_1 rfl rfl (BinR.succN (by omega)) (WL.move (v := IN (i + 1)) rfl rfl (WL.nil ?_))))))
          exact ⟨ka - 1, by omega, (i + 1), by omega, hit_next hl (by first | exact hit_T hg29 hg37 hc47 | exact hit_F2 hg37 | exact hit_F1 hg29), h0_1, h1_1, h2_1, h10_1, h11_1, h12_1, h13_1, h14_1, h15_1, h16_1, rfl, E2⟩
      · refine WL.guardF (b' := false) (yf_bool rfl rfl hg29) rfl rfl (WL.guardF (b' := false) (yf_bool rfl rfl hg29) rfl rfl (WL.guardF (b' := false) (yf_bool rfl rfl hg29) rfl rfl (WL.guardF (b' := false) (yf_bool rfl rfl hg29) rfl rfl (WL.guardF (b' := false) (yf_bool rfl rfl hg29) rfl rfl (WL.guardF (b' := false) (yf_bool rfl rfl hg29) rfl rfl (WL.pick (b := false) (congrArg Value.bool hg29) rfl rfl (WL.move (v := .bool (false)) rfl rfl (WL.guardF (b' := false) (rfl) rfl rfl (WL.guardF (b' := false) (rfl) rfl rfl ?_)))))))))
        refine WL.guardF (b' := false) (rfl) rfl rfl (WL.guardF (b' := false) (rfl) rfl rfl (WL.guardF (b' := false) (rfl) rfl rfl (WL.guardF (b' := false) (rfl) rfl rfl (WL.guardF (b' := false) (rfl) rfl rfl (WL.guardF (b' := false) (rfl) rfl rfl (WL.guardF (b' := false) (rfl) rfl rfl (WL.pick (b := false) rfl rfl rfl (WL.nil (WC.condF rfl ?_)))))))))
        refine WC.skip (WC.region (WL.bin h17_1 rfl rfl (BinR.succN (by omega)) (WL.move (v := IN (i + 1)) rfl rfl (WL.nil ?_))))
        exact ⟨ka - 1, by omega, (i + 1), by omega, hit_next hl (by first | exact hit_T hg29 hg37 hc47 | exact hit_F2 hg37 | exact hit_F1 hg29), h0_1, h1_1, h2_1, h10_1, h11_1, h12_1, h13_1, h14_1, h15_1, h16_1, rfl, E2⟩
    · have hi : i = 2 := by have := of_decide_eq_false hc18; omega
      refine WC.exit (WC.seq (WC.region (WL.assign (v := .slice none 0 0) rfl rfl (WL.nil (WC.ret ?_)))))
      have hfin : AtR sd ss n addr size ((.slice none 0 0)) := by first | exact at_no1 h0 h8 hc14 | exact at_no2 hn h0 h8 hc14 (by subst hi; exact hl) | exact at_ok hn h0 h8 hc14 hi hl hh hg
      exact ⟨_, Res.one (v := .slice none 0 0) rfl rfl, hfin, hE⟩
end Go.Proofs.S
end
section
namespace Go.Ux
open Go
theorem WL.appendNone {P : Program} {ops : Array Oper} {l : List Oper} {n : Nat} {f : Fr} {w : World} {Q : Exit → Fr → World → Prop} {d : Nat} {ty : TypeId} {pos : String} {aft : Array Edge} {t tx e size bytes k cap : Nat} {zs : Array Value} {base : Option Addr} {a x : Operand} {vx : Value} (ha : appT P t = some (e, size, bytes, zs)) (hv : ev f a = .slice base k cap) (hk : k ≤ cap) (hx : ev f x = vx) (hsrc : Src P size tx vx 0 [] w) (hd : decide (d < n) = true)
    (kk : WL P ops l n (upd f d (.slice base k cap)) w Q) : WL P ops (⟨some d, .call { callee := .builtin .append, args := #[a, x], argTypes := #[t, tx] }, ty, pos, aft, none⟩ :: l) n f w Q := by
  unfold appT at ha
  split at ha <;> try cases ha
  rename_i e' ht
  split at ha <;> try cases ha
  rename_i i hi
  split at ha <;> try cases ha
  have hr := run_append_nothing (P := P) w t tx ty _ i ht hi base k cap hk vx hsrc
  refine WL.val rfl hd (v := .slice base k cap) (w' := w) ?_ kk
  simp only [execOp, resolve, invoke, builtin, Sem.run_bind, Sem.run_pure, Result.andThen_ok, List.map_toArray, List.map_cons, List.map_nil, hv, hx, hr]
theorem madeCells_one (z : Value) (m : Nat) : madeCells #[z] m = Array.replicate m z := by
  apply Array.ext
  · simp [madeCells]
  · intro i h1 h2
    simp [madeCells, Nat.mod_one]
theorem WL.makeSliceB {P : Program} {ops : Array Oper} {l : List Oper} {n : Nat} {f : Fr} {w : World} {Q : Exit → Fr → World → Prop} {d : Nat} {ty : TypeId} {pos : String} {aft : Array Edge} {t e bytes m : Nat} {z : Value} {x y : Operand} (ha : appT P t = some (e, 1, bytes, #[z])) (hx : ev f x = IN m) (hy : ev f y = IN m) (hb : bytes * m ≤ 281474976710656) (h63 : m ≤ 9223372036854775807) (hd : decide (d < n) = true)
    (k : ∀ b w', New w w' b (Array.replicate m z) e → WL P ops l n (upd f d (.slice (some ⟨b, 0, none⟩) m m)) w' Q) : WL P ops (⟨some d, .makeSlice t x y, ty, pos, aft, none⟩ :: l) n f w Q := by
  unfold appT at ha
  split at ha <;> try cases ha
  rename_i e' ht
  split at ha <;> try cases ha
  rename_i i hi
  split at ha <;> try cases ha
  rename_i zz hz
  simp only [Option.some.injEq, Prod.mk.injEq] at ha
  obtain ⟨rfl, h1, rfl, h2⟩ := ha
  have hb' : (i.bytes : Int) * (m : Int) ≤ 281474976710656 := by
    have h : ((i.bytes * m : Nat) : Int) ≤ 281474976710656 := by omega
    rwa [Int.natCast_mul] at h
  have hr := run_make (P := P) w t e' i zz ht hi hz .i64 .i64 (m : Int) (m : Int) (by omega) (Int.le_refl _) hb' (by omega)
  rw [h1, h2, Nat.mul_one, Int.toNat_natCast, madeCells_one] at hr
  refine WL.val rfl hd (v := .slice (some ⟨w.heap.size, 0, none⟩) m m) (w' := w.alloc (.cells (Array.replicate m z) e')) ?_ (k _ _ (New.mk' w _ _))
  simp only [execOp, hx, hy, Sem.run_bind, hr, Result.andThen, Sem.run_pure]
theorem Blk.own {w : World} {b m : Nat} {z : Value} {e : TypeId} (h : Blk w b (Array.replicate m z) e) : Own w 1 (.slice (some ⟨b, 0, none⟩) m m) m (List.replicate m z) := by
  refine ⟨by simp, .inr ⟨b, m, rfl, Nat.le_refl _, ?_, fun j hj => ⟨?_, h.frozen j⟩⟩⟩
  · have := h.cells
    simpa using this
  · rw [h.cell (j := j) (v := z) (by rw [Array.getElem?_replicate, if_pos (by omega)])]; rfl
theorem Own.empty (w : World) (size b : Nat) : Own w size (.slice (some ⟨b, 0, none⟩) 0 0) 0 [] := ⟨by simp, .inr ⟨b, 0, rfl, Nat.le_refl _, fun j u h => by simp at h, fun j h => by omega⟩⟩
theorem Own.form {w : World} {size n : Nat} {v : Value} {xs : List Value} (h : Own w size v n xs) : v = .slice none 0 0 ∨ ∃ a c, v = .slice (some a) n c := by
  rcases h.2 with ⟨e, _⟩ | ⟨g, cap, e, _⟩
  · exact .inl e
  · exact .inr ⟨_, _, e⟩
def notIf (P : Program) (t : Nat) : Bool := match P.underlying t with
  | some (.interface _) => false
  | some _ => true
  | none => false
theorem WL.mkiface {P : Program} {ops : Array Oper} {l : List Oper} {n : Nat} {f : Fr} {w : World} {Q : Exit → Fr → World → Prop} {d : Nat} {ty : TypeId} {pos : String} {aft : Array Edge} {t : Nat} {x : Operand} {v : Value} (hx : ev f x = v) (ht : notIf P t = true) (hd : decide (d < n) = true)
    (k : WL P ops l n (upd f d (.iface t v)) w Q) : WL P ops (⟨some d, .makeInterface t x, ty, pos, aft, none⟩ :: l) n f w Q := by
  refine WL.val rfl hd (v := .iface t v) (w' := w) ?_ k
  unfold notIf at ht
  cases hu : P.underlying t with
  | none => rw [hu] at ht; cases ht
  | some dd =>
    rw [hu] at ht
    have : (Instr.makeInterface t v).run P w = .ok (.iface t v) w := by
      simp only [Instr.makeInterface, Sem.run_bind, run_underlying hu, Result.andThen]
      cases dd <;> first | rfl | cases ht
    simp only [execOp, hx, Sem.run_bind, this, Result.andThen, Sem.run_pure]
def sliceV (v : Value) (j sz : Nat) : Value := match v with
  | .slice ao m c => .slice (if c = j then ao else ao.map (·.add (j * sz))) (m - j) (c - j)
  | v => v
theorem Sl.from {w : World} {v : Value} {sz m j : Nat} {xs : List Value} (h : Sl w v sz m xs) (hj : j ≤ m) : Sl w (sliceV v j sz) sz (m - j) (xs.drop (j * sz)) ∧ (sliceV v j sz).ownBlock = v.ownBlock := by
  obtain ⟨ao, cap, rfl, hc, hl, h0⟩ := h
  refine ⟨⟨_, _, rfl, by omega, ?_, ?_⟩, ?_⟩
  · rw [List.length_drop, hl, Nat.sub_mul]
  · by_cases hjm : j = m
    · left; omega
    · right
      rcases h0 with h0 | ⟨b, o, rfl, hcl⟩
      · omega
      · refine ⟨b, o + j * sz, ?_, fun i u hu => ?_⟩
        · rw [if_neg (by omega)]; simp [addr_add]
        · rw [List.getElem?_drop] at hu
          have := hcl _ _ hu
          rwa [← Nat.add_assoc] at this
  · show (Value.slice (if cap = j then ao else ao.map (·.add (j * sz))) (m - j) (cap - j)).ownBlock = _
    by_cases e : cap = j
    · rw [if_pos e]; cases ao <;> rfl
    · rw [if_neg e]
      cases ao with
      | none => rfl
      | some a =>
        have : (a.add (j * sz)).block = a.block := by unfold Addr.add; split <;> rfl
        simp only [Option.map_some, Value.ownBlock, this]
theorem WL.sliceFromV {P : Program} {ops : Array Oper} {l : List Oper} {n : Nat} {f : Fr} {w : World} {Q : Exit → Fr → World → Prop} {d : Nat} {ty : TypeId} {pos : String} {aft : Array Edge} {t e sz m j : Nat} {x lo : Operand} {v : Value} {xs : List Value} {kd : IntKind} (ht : elemT P t = some e) (hz : sizeT P e = some sz) (hx : ev f x = v) (hlo : ev f lo = .int kd (j : Int)) (hj : j ≤ m) (h : Sl w v sz m xs) (hd : decide (d < n) = true)
    (k : WL P ops l n (upd f d (sliceV v j sz)) w Q) : WL P ops (⟨some d, .slice t x (some lo) none none, ty, pos, aft, none⟩ :: l) n f w Q := by
  obtain ⟨ao, cap, rfl, hc, hl, h0⟩ := h
  have hu := elemT_und ht
  refine WL.val rfl hd (v := sliceV (.slice ao m cap) j sz) (w' := w) ?_ k
  have h1 : (0 : Int) ≤ (j : Int) ∧ (j : Int) ≤ (m : Int) := by omega
  simp [sliceV, execOp, hx, hlo, Instr.sliceAt, Instr.slice, run_underlying hu, Instr.sliceBounds, Instr.sliceBound, asIntOf, sizeT_run hz, hj, Result.andThen]
end Go.Ux
namespace Go.Ux.Mach
open Go Go.Ux
structure MS where
  n : Nat
  d : Nat → BitVec 8
  s : Nat → BitVec 8
  code : List (RvInst × Bool)
  input : List (BitVec 64)
  x : Nat → BitVec 64
  pc : BitVec 64
  events : List (BitVec 8 × BitVec 64)
  fin : Option Bool
  steps : BitVec 64
def codeV (l : List (RvInst × Bool)) : List Value := l.flatMap fun p => [U8 p.1.op, U8 p.1.rd, U8 p.1.rs1, U8 p.1.rs2, I64 p.1.imm, .bool p.2]
def evV (l : List (BitVec 8 × BitVec 64)) : List Value := l.flatMap fun p => [U8 p.1, I64 p.2]
theorem codeV_get (l : List (RvInst × Bool)) (i : Nat) (h : i < l.length) (j : Nat) (hj : j < 6) : (codeV l)[i * 6 + j]? = [U8 l[i].1.op, U8 l[i].1.rd, U8 l[i].1.rs1, U8 l[i].1.rs2, I64 l[i].1.imm, .bool l[i].2][j]? := by
  induction l generalizing i with
  | nil => simp at h
  | cons a r ih =>
    cases i with
    | zero =>
      simp only [codeV, List.flatMap_cons, Nat.zero_mul, Nat.zero_add, List.getElem_cons_zero]
      rw [List.getElem?_append_left (by simpa using hj)]
    | succ i =>
      have := ih i (by simpa using h)
      simp only [List.getElem_cons_succ]
      rw [← this]
      simp only [codeV, List.flatMap_cons]
      rw [List.getElem?_append_right (by simp; omega)]
      congr 1
      simp; omega
theorem codeV_cells {w : World} {b o : Nat} {l : List (RvInst × Bool)} (h : Cells w b o (codeV l)) {i : Nat} (hi : i < l.length) : Cells w b (o + i * 6) [U8 l[i].1.op, U8 l[i].1.rd, U8 l[i].1.rs1, U8 l[i].1.rs2, I64 l[i].1.imm, .bool l[i].2] := by
  intro j u hj
  have hj6 : j < 6 := by have := (List.getElem?_eq_some_iff.1 hj).1; simpa using this
  rw [Nat.add_assoc]
  exact h (i * 6 + j) u (by rw [codeV_get l i hi j hj6]; exact hj)
theorem evV_one (l : List (BitVec 8 × BitVec 64)) : ∀ u ∈ evV l, u.oneCell' = true := by
  intro u hu
  simp only [evV, List.mem_flatMap] at hu
  obtain ⟨p, _, hp⟩ := hu
  simp only [List.mem_cons, List.not_mem_nil, or_false] at hp
  rcases hp with rfl | rfl <;> rfl
theorem evV_snoc (l : List (BitVec 8 × BitVec 64)) (k : BitVec 8) (n : BitVec 64) : evV (l ++ [(k, n)]) = evV l ++ [U8 k, I64 n] := by simp [evV]
def machCells (mv cv iv : Value) (x : Nat → BitVec 64) (pc : BitVec 64) (ev en : Value) (st : BitVec 64) : Array Value := #[mv, cv, iv, U64 (x 0), U64 (x 1), U64 (x 2), U64 (x 3), U64 (x 4), U64 (x 5), U64 (x 6), U64 (x 7), U64 (x 8), U64 (x 9), U64 (x 10), U64 (x 11), U64 (x 12), U64 (x 13), U64 (x 14), U64 (x 15), U64 (x 16), U64 (x 17), U64 (x 18), U64 (x 19), U64 (x 20), U64 (x 21), U64 (x 22), U64 (x 23), U64 (x 24), U64 (x 25), U64 (x 26), U64 (x 27), U64 (x 28), U64 (x 29), U64 (x 30), U64 (x 31), U64 pc, ev, en, I64 st]
def updR (x : Nat → BitVec 64) (i : Nat) (v : BitVec 64) : Nat → BitVec 64 := fun k => if k = i then v else x k
theorem machCells_x (mv cv iv : Value) (x : Nat → BitVec 64) (pc : BitVec 64) (ev en : Value) (st : BitVec 64) {i : Nat} (h : i < 32) : (machCells mv cv iv x pc ev en st)[3 + i]? = some (U64 (x i)) := by
  match i, h with
  | 0, _ => rfl
  | 1, _ => rfl
  | 2, _ => rfl
  | 3, _ => rfl
  | 4, _ => rfl
  | 5, _ => rfl
  | 6, _ => rfl
  | 7, _ => rfl
  | 8, _ => rfl
  | 9, _ => rfl
  | 10, _ => rfl
  | 11, _ => rfl
  | 12, _ => rfl
  | 13, _ => rfl
  | 14, _ => rfl
  | 15, _ => rfl
  | 16, _ => rfl
  | 17, _ => rfl
  | 18, _ => rfl
  | 19, _ => rfl
  | 20, _ => rfl
  | 21, _ => rfl
  | 22, _ => rfl
  | 23, _ => rfl
  | 24, _ => rfl
  | 25, _ => rfl
  | 26, _ => rfl
  | 27, _ => rfl
  | 28, _ => rfl
  | 29, _ => rfl
  | 30, _ => rfl
  | 31, _ => rfl
  | k + 32, h => exact absurd h (by omega)
theorem machCells_set (mv cv iv : Value) (x : Nat → BitVec 64) (pc : BitVec 64) (ev en : Value) (st : BitVec 64) {i : Nat} (h : i < 32) (v : BitVec 64) : (machCells mv cv iv x pc ev en st).setIfInBounds (3 + i) (U64 v) = machCells mv cv iv (updR x i v) pc ev en st := by
  apply Array.ext_getElem?
  intro k
  rw [Array.getElem?_setIfInBounds]
  by_cases e : 3 + i = k
  · subst e
    rw [if_pos rfl, machCells_x _ _ _ _ _ _ _ _ h, if_pos (by show 3 + i < 39; omega)]
    simp only [updR, if_true]
  · rw [if_neg e]
    by_cases hk : 3 ≤ k ∧ k < 35
    · obtain ⟨j, rfl⟩ : ∃ j, k = 3 + j := ⟨k - 3, by omega⟩
      rw [machCells_x _ _ _ _ _ _ _ _ (by omega), machCells_x _ _ _ _ _ _ _ _ (by omega)]
      simp only [updR]; rw [if_neg (by omega)]
    · by_cases h39 : k < 39
      · rcases (by omega : k = 0 ∨ k = 1 ∨ k = 2 ∨ k = 35 ∨ k = 36 ∨ k = 37 ∨ k = 38) with rfl | rfl | rfl | rfl | rfl | rfl | rfl <;> rfl
      · rw [Array.getElem?_eq_none (by show 39 ≤ k; omega), Array.getElem?_eq_none (by show 39 ≤ k; omega)]
def EndV (w : World) (en : Value) : Option Bool → Prop
  | none => en = .nilIface
  | some t => ∃ e, en = .iface 144 (ptr e 0) ∧ Blk w e #[.bool t] 148
theorem EndV.one {w : World} {en : Value} {o : Option Bool} (h : EndV w en o) : en.oneCell' = true := by
  cases o with
  | none => cases h; rfl
  | some t => obtain ⟨e, rfl, _⟩ := h; rfl
structure MT (T : Nat → Nat) (w : World) (b : Nat) (M : MS) (bq : Nat) (sd ss cv iv ev en : Value) : Prop where
  mem : Blk w bq #[U64 4194304#64, sd, U64 8323072#64, ss] 91
  data : Own w 1 sd M.n (bsV M.d M.n)
  stk : Own w 1 ss 65536 (bsV M.s 65536)
  code : Sl w cv 6 M.code.length (codeV M.code)
  input : Sl w iv 1 M.input.length (M.input.map I64)
  evs : Own w 2 ev M.events.length (evV M.events)
  fin : EndV w en M.fin
  tb : T b = 1
  tq : T bq = 2
  td : ∀ g, sd.ownBlock = some g → T g = 3
  ts : ∀ g, ss.ownBlock = some g → T g = 4
  tc : ∀ g, cv.ownBlock = some g → T g = 5
  ti : ∀ g, iv.ownBlock = some g → T g = 6
  te : ∀ g, ev.ownBlock = some g → T g = 7
  tn : ∀ e, en = .iface 144 (ptr e 0) → T e = 8
  lt : ∀ k, T k ≠ 0 → k < w.heap.size ∧ 6 ≤ k
  n_le : M.n ≤ 140737488355328
abbrev Fp (T : Nat → Nat) : Nat → Prop := fun k => T k ≠ 0
theorem EndV.mod {O : Nat → Prop} {w w' : World} {en : Value} {o : Option Bool} (h : EndV w en o) (m : Mod O w w') (hO : ∀ e, en = .iface 144 (ptr e 0) → ¬ O e) : EndV w' en o := by
  cases o with
  | none => exact h
  | some t => obtain ⟨e, rfl, hb⟩ := h; exact ⟨e, rfl, hb.mod m (hO e rfl)⟩
theorem MT.mod {T : Nat → Nat} {w w' : World} {b : Nat} {M : MS} {bq : Nat} {sd ss cv iv ev en : Value} (h : MT T w b M bq sd ss cv iv ev en) {O : Nat → Prop} (m : Mod O w w') (hO : ∀ k, T k ≠ 0 → T k ≠ 1 → ¬ O k) : MT T w' b M bq sd ss cv iv ev en where
  mem := h.mem.mod m (hO _ (by rw [h.tq]; decide) (by rw [h.tq]; decide))
  data := h.data.mod m fun g e => hO _ (by rw [h.td g e]; decide) (by rw [h.td g e]; decide)
  stk := h.stk.mod m fun g e => hO _ (by rw [h.ts g e]; decide) (by rw [h.ts g e]; decide)
  code := h.code.mod' m fun g e => hO _ (by rw [h.tc g e]; decide) (by rw [h.tc g e]; decide)
  input := h.input.mod' m fun g e => hO _ (by rw [h.ti g e]; decide) (by rw [h.ti g e]; decide)
  evs := h.evs.mod m fun g e => hO _ (by rw [h.te g e]; decide) (by rw [h.te g e]; decide)
  fin := h.fin.mod m fun e he => hO _ (by rw [h.tn e he]; decide) (by rw [h.tn e he]; decide)
  tb := h.tb
  tq := h.tq
  td := h.td
  ts := h.ts
  tc := h.tc
  ti := h.ti
  te := h.te
  tn := h.tn
  lt := fun k hk => ⟨Nat.lt_of_lt_of_le (h.lt k hk).1 m.size, (h.lt k hk).2⟩
  n_le := h.n_le
def MR (T : Nat → Nat) (w : World) (b : Nat) (M : MS) : Prop :=
  ∃ bq sd ss cv iv ev en, Blk w b (machCells (.slice (some ⟨bq, 0, none⟩) 2 2) cv iv M.x M.pc ev en M.steps) 85 ∧ MT T w b M bq sd ss cv iv ev en
theorem MR.mod {T : Nat → Nat} {w w' : World} {b : Nat} {M : MS} (h : MR T w b M) {O : Nat → Prop} (m : Mod O w w') (hO : ∀ k, T k ≠ 0 → ¬ O k) : MR T w' b M := by
  obtain ⟨bq, sd, ss, cv, iv, ev, en, hb, ht⟩ := h
  exact ⟨bq, sd, ss, cv, iv, ev, en, hb.mod m (hO _ (by rw [ht.tb]; decide)), ht.mod m fun k h1 _ => hO k h1⟩
theorem MR.ext {T : Nat → Nat} {w w' : World} {b : Nat} {M : MS} (h : MR T w b M) (m : Ext w w') : MR T w' b M := h.mod m fun _ _ x => x
theorem MR.lt {T : Nat → Nat} {w : World} {b : Nat} {M : MS} (h : MR T w b M) : ∀ k, T k ≠ 0 → k < w.heap.size ∧ 6 ≤ k := by
  obtain ⟨bq, sd, ss, cv, iv, ev, en, hb, ht⟩ := h; exact ht.lt
def Turn (T : Nat → Nat) (w : World) (b : Nat) (M : MS) (w' : World) : Prop :=
  ∃ T', MR T' w' b M ∧ Mod (Fp T) w w' ∧ ∀ k, T' k ≠ 0 → T k ≠ 0 ∨ w.heap.size ≤ k
theorem Turn.refl {T : Nat → Nat} {w : World} {b : Nat} {M : MS} (h : MR T w b M) : Turn T w b M w := ⟨T, h, Mod.refl _ _, fun _ h => .inl h⟩
theorem MT.ev {T : Nat → Nat} {w w' : World} {b : Nat} {M : MS} {bq : Nat} {sd ss cv iv ev en ev' : Value} {l : List (BitVec 8 × BitVec 64)} (h : MT T w b M bq sd ss cv iv ev en) {O : Nat → Prop} (m : Mod O w w') (hO : ∀ k, T k ≠ 0 → T k ≠ 1 → T k ≠ 7 → ¬ O k)
    (ho : Own w' 2 ev' l.length (evV l)) (hl : LocV w ev ev') (h0 : 0 < l.length) : MT (fun k => if ev'.ownBlock = some k then 7 else T k) w' b { M with events := l } bq sd ss cv iv ev' en := by
  have ne : ∀ k, T k ≠ 0 → T k ≠ 7 → (if ev'.ownBlock = some k then 7 else T k) = T k := fun k h1 h2 => by
    rw [if_neg]
    intro e
    rcases hl with hl | ⟨g, hl, hg⟩
    · rw [hl] at e; exact h2 (h.te k e)
    · rw [hl] at e; cases e; have := (h.lt k h1).1; omega
  refine ⟨?_, ?_, ?_, ?_, ?_, ho, ?_, ?_, ?_, ?_, ?_, ?_, ?_, ?_, ?_, ?_, h.n_le⟩
  · exact h.mem.mod m (hO _ (by rw [h.tq]; decide) (by rw [h.tq]; decide) (by rw [h.tq]; decide))
  · exact h.data.mod m fun g e => hO _ (by rw [h.td g e]; decide) (by rw [h.td g e]; decide) (by rw [h.td g e]; decide)
  · exact h.stk.mod m fun g e => hO _ (by rw [h.ts g e]; decide) (by rw [h.ts g e]; decide) (by rw [h.ts g e]; decide)
  · exact h.code.mod' m fun g e => hO _ (by rw [h.tc g e]; decide) (by rw [h.tc g e]; decide) (by rw [h.tc g e]; decide)
  · exact h.input.mod' m fun g e => hO _ (by rw [h.ti g e]; decide) (by rw [h.ti g e]; decide) (by rw [h.ti g e]; decide)
  · exact h.fin.mod m fun g e => hO _ (by rw [h.tn g e]; decide) (by rw [h.tn g e]; decide) (by rw [h.tn g e]; decide)
  · show (if _ then _ else _) = 1; rw [ne _ (by rw [h.tb]; decide) (by rw [h.tb]; decide)]; exact h.tb
  · show (if _ then _ else _) = 2; rw [ne _ (by rw [h.tq]; decide) (by rw [h.tq]; decide)]; exact h.tq
  · intro g e; show (if _ then _ else _) = 3; rw [ne _ (by rw [h.td g e]; decide) (by rw [h.td g e]; decide)]; exact h.td g e
  · intro g e; show (if _ then _ else _) = 4; rw [ne _ (by rw [h.ts g e]; decide) (by rw [h.ts g e]; decide)]; exact h.ts g e
  · intro g e; show (if _ then _ else _) = 5; rw [ne _ (by rw [h.tc g e]; decide) (by rw [h.tc g e]; decide)]; exact h.tc g e
  · intro g e; show (if _ then _ else _) = 6; rw [ne _ (by rw [h.ti g e]; decide) (by rw [h.ti g e]; decide)]; exact h.ti g e
  · intro g e; show (if _ then _ else _) = 7; rw [if_pos e]
  · intro g e; show (if _ then _ else _) = 8; rw [ne _ (by rw [h.tn g e]; decide) (by rw [h.tn g e]; decide)]; exact h.tn g e
  · intro k hk
    by_cases e : ev'.ownBlock = some k
    · refine ⟨ho.lt h0 (by decide) e, ?_⟩
      rcases hl with hl | ⟨g, hl, hg⟩
      · rw [hl] at e; exact (h.lt k (by rw [h.te k e]; decide)).2
      · rw [hl] at e; cases e; have := h.lt b (by rw [h.tb]; decide); omega
    · have hk' : T k ≠ 0 := by intro e'; apply hk; show (if _ then _ else _) = 0; rw [if_neg e]; exact e'
      exact ⟨Nat.lt_of_lt_of_le (h.lt k hk').1 m.size, (h.lt k hk').2⟩
theorem turn_ev {T : Nat → Nat} {w w' : World} {b : Nat} {M : MS} {bq : Nat} {sd ss cv iv ev en ev' : Value} {l : List (BitVec 8 × BitVec 64)} (h : MT T w b M bq sd ss cv iv ev en) (m : Mod (fun k => T k = 1 ∨ T k = 7) w w')
    (ho : Own w' 2 ev' l.length (evV l)) (hl : LocV w ev ev') (h0 : 0 < l.length) (hb : Blk w' b (machCells (.slice (some ⟨bq, 0, none⟩) 2 2) cv iv M.x M.pc ev' en M.steps) 85) : Turn T w b { M with events := l } w' := by
  refine ⟨_, ⟨bq, sd, ss, cv, iv, ev', en, hb, h.ev m (fun k _ h1 h7 e => by rcases e with e | e; exact h1 e; exact h7 e) ho hl h0⟩, m.imp (fun k _ e => by show T k ≠ 0; rcases e with e | e <;> (rw [e]; decide)), ?_⟩
  intro k hk
  by_cases e : ev'.ownBlock = some k
  · rcases hl with hl | ⟨g, hl, hg⟩
    · rw [hl] at e; exact .inl (by rw [h.te k e]; decide)
    · rw [hl] at e; cases e; exact .inr hg
  · exact .inl (by intro e'; apply hk; show (if _ then _ else _) = 0; rw [if_neg e]; exact e')
def storeM (M : MS) (k : Bool) (off size : Nat) (v : BitVec 64) : MS := bif k then { M with d := storeB M.d off v size } else { M with s := storeB M.s off v size }
theorem bsV_zero (m : Nat) : List.replicate m (.int .u8 0) = bsV (fun _ => 0#8) m := by
  apply List.ext_getElem?
  intro k
  by_cases hk : k < m
  · rw [bsV_get _ hk, List.getElem?_replicate, if_pos hk]; rfl
  · rw [List.getElem?_replicate, if_neg hk, List.getElem?_eq_none (by rw [bsV_length]; omega)]
theorem codeV_snoc (l : List (RvInst × Bool)) (p : RvInst × Bool) : codeV (l ++ [p]) = codeV l ++ [U8 p.1.op, U8 p.1.rd, U8 p.1.rs1, U8 p.1.rs2, I64 p.1.imm, .bool p.2] := by simp [codeV]
theorem MT.area {T : Nat → Nat} {w w' : World} {b : Nat} {M : MS} {bq : Nat} {sd ss cv iv ev en : Value} (h : MT T w b M bq sd ss cv iv ev en) (k : Bool) {off size : Nat} {v : BitVec 64} (m : Mod (At (bif k then sd else ss)) w w') (ho : Own w' 1 (bif k then sd else ss) (bif k then M.n else 65536) (bsV (storeB (bif k then M.d else M.s) off v size) (bif k then M.n else 65536))) : MT T w' b (storeM M k off size v) bq sd ss cv iv ev en := by
  have av : ∀ g j, T g = j → j ≠ 3 → j ≠ 4 → ¬ At (bif k then sd else ss) g := fun g j e h3 h4 e' => by
    cases k
    · have := h.ts g e'; omega
    · have := h.td g e'; omega
  have hd : Own w' 1 sd M.n (bsV (storeM M k off size v).d M.n) := by
    cases k
    · exact h.data.mod m fun g e e' => by have h1 := h.td g e; have h2 := h.ts g e'; omega
    · exact ho
  have hs : Own w' 1 ss 65536 (bsV (storeM M k off size v).s 65536) := by
    cases k
    · exact ho
    · exact h.stk.mod m fun g e e' => by have h1 := h.ts g e; have h2 := h.td g e'; omega
  have hc : Sl w' cv 6 M.code.length (codeV M.code) := h.code.mod' m fun g e => av g _ (h.tc g e) (by decide) (by decide)
  have hi : Sl w' iv 1 M.input.length (M.input.map I64) := h.input.mod' m fun g e => av g _ (h.ti g e) (by decide) (by decide)
  have he : Own w' 2 ev M.events.length (evV M.events) := h.evs.mod m fun g e => av g _ (h.te g e) (by decide) (by decide)
  have hn : EndV w' en M.fin := h.fin.mod m fun g e => av g _ (h.tn g e) (by decide) (by decide)
  have hm : Blk w' bq #[U64 4194304#64, sd, U64 8323072#64, ss] 91 := h.mem.mod m (av _ _ h.tq (by decide) (by decide))
  have hl : ∀ k, T k ≠ 0 → k < w'.heap.size ∧ 6 ≤ k := fun k hk => ⟨Nat.lt_of_lt_of_le (h.lt k hk).1 m.size, (h.lt k hk).2⟩
  cases k
  · exact ⟨hm, hd, hs, hc, hi, he, hn, h.tb, h.tq, h.td, h.ts, h.tc, h.ti, h.te, h.tn, hl, h.n_le⟩
  · exact ⟨hm, hd, hs, hc, hi, he, hn, h.tb, h.tq, h.td, h.ts, h.tc, h.ti, h.te, h.tn, hl, h.n_le⟩
theorem turn_area {T : Nat → Nat} {w w' : World} {b : Nat} {M : MS} {bq : Nat} {sd ss cv iv ev en : Value} (h : MT T w b M bq sd ss cv iv ev en) (hb : Blk w b (machCells (.slice (some ⟨bq, 0, none⟩) 2 2) cv iv M.x M.pc ev en M.steps) 85) (k : Bool) {off size : Nat} {v : BitVec 64} (m : Mod (At (bif k then sd else ss)) w w') (ho : Own w' 1 (bif k then sd else ss) (bif k then M.n else 65536) (bsV (storeB (bif k then M.d else M.s) off v size) (bif k then M.n else 65536))) : Turn T w b (storeM M k off size v) w' := by
  have hav : ¬ At (bif k then sd else ss) b := fun e' => by
    have := h.tb
    cases k
    · have := h.ts b e'; omega
    · have := h.td b e'; omega
  refine ⟨T, ⟨bq, sd, ss, cv, iv, ev, en, ?_, h.area k m ho⟩, m.imp fun g _ e => ?_, fun k hk => .inl hk⟩
  · have := hb.mod m hav
    cases k <;> exact this
  · show T g ≠ 0
    cases k
    · rw [h.ts g e]; decide
    · rw [h.td g e]; decide
def TurnE (T : Nat → Nat) (w : World) (b : Nat) (M : MS) (w' : World) (o : Option Bool) (v : Value) : Prop :=
  ∃ T', MR T' w' b M ∧ Mod (Fp T) w w' ∧ (∀ k, T' k ≠ 0 → T k ≠ 0 ∨ w.heap.size ≤ k) ∧ EndV w' v o ∧ ∀ e, v = .iface 144 (ptr e 0) → w.heap.size ≤ e ∧ T' e = 0
theorem Turn.withEnd {T : Nat → Nat} {w wx w1 w2 : World} {b : Nat} {M : MS} {v : Value} {o : Option Bool} (m : Mod (Fp T) w wx) (h : Turn T wx b M w1) (x : Ext w1 w2) (he : EndV w2 v o) (hf : ∀ e, v = .iface 144 (ptr e 0) → w1.heap.size ≤ e) : TurnE T w b M w2 o v := by
  obtain ⟨T1, h1, m1, h2⟩ := h
  have hs := m.size; have hs1 := m1.size
  refine ⟨T1, h1.ext x, (m.trans m1).trans (Mod.ext x), fun k hk => ?_, he, fun e e' => ?_⟩
  · rcases h2 k hk with h | h
    · exact .inl h
    · exact .inr (by omega)
  · have := hf e e'
    refine ⟨by omega, ?_⟩
    rcases Nat.eq_zero_or_pos (T1 e) with h | h
    · exact h
    · have := (h1.lt e (by omega)).1; omega
theorem EndV.new {w w' : World} {e : Nat} {t : Bool} (h : New w w' e #[.bool t] 148) : EndV w' (.iface 144 (ptr e 0)) (some t) := ⟨e, rfl, h.blk⟩
theorem Turn.of_mod {T : Nat → Nat} {w w' : World} {b : Nat} {M : MS} (h : MR T w' b M) (m : Mod (Fp T) w w') : Turn T w b M w' := ⟨T, h, m, fun _ h => .inl h⟩
theorem MT.self {T : Nat → Nat} {w : World} {b : Nat} {M : MS} {bq : Nat} {sd ss cv iv ev en : Value} (h : MT T w b M bq sd ss cv iv ev en) {iv' : Value} {inp : List (BitVec 64)} (hi : Sl w iv' 1 inp.length (inp.map I64)) (ht : iv'.ownBlock = iv.ownBlock) (x : Nat → BitVec 64) (pc st : BitVec 64) :
    MT T w b { M with input := inp, x := x, pc := pc, steps := st } bq sd ss cv iv' ev en :=
  ⟨h.mem, h.data, h.stk, h.code, hi, h.evs, h.fin, h.tb, h.tq, h.td, h.ts, h.tc, fun g e => h.ti g (ht ▸ e), h.te, h.tn, h.lt, h.n_le⟩
def callsM (M : MS) : MS × Option Bool :=
  if M.x 17 == 1#64 then
    ({ M with input := M.input.tail, x := updR M.x 10 (M.input.headD 0#64), events := M.events ++ [(1#8, M.input.headD 0#64)] }, none)
  else if M.x 17 == 2#64 then ({ M with events := M.events ++ [(2#8, M.x 10)] }, none)
  else if M.x 17 == 3#64 then ({ M with events := M.events ++ [(3#8, M.x 10)] }, some false)
  else if M.x 17 == 4#64 then ({ M with events := M.events ++ [(4#8, M.x 10)] }, some false)
  else (M, some true)
def nextI (M : MS) : Nat := ((M.pc - 65536#64) / 4#64).toNat
def nextM (M : MS) : Option RvInst :=
  if BitVec.ult M.pc 65536#64 then none
  else if ((M.pc - 65536#64) % 4#64 != 0#64) then none
  else if BitVec.ule (BitVec.ofNat 64 M.code.length) ((M.pc - 65536#64) / 4#64) then none
  else match M.code[nextI M]? with
    | some (a, true) => some a
    | _ => none
theorem codeV_at {w : World} {b o : Nat} {l : List (RvInst × Bool)} (h : Cells w b o (codeV l)) {i : Nat} {a : RvInst} {k : Bool} (hi : l[i]? = some (a, k)) : Cells w b (o + i * 6) [U8 a.op, U8 a.rd, U8 a.rs1, U8 a.rs2, I64 a.imm, .bool k] := by
  obtain ⟨hl, e⟩ := List.getElem?_eq_some_iff.1 hi
  have := codeV_cells h hl
  rwa [e] at this
theorem MT.regs {T : Nat → Nat} {w : World} {b : Nat} {M : MS} {bq : Nat} {sd ss cv iv ev en : Value} (h : MT T w b M bq sd ss cv iv ev en) (x : Nat → BitVec 64) (pc st : BitVec 64) : MT T w b { M with x := x, pc := pc, steps := st } bq sd ss cv iv ev en :=
  ⟨h.mem, h.data, h.stk, h.code, h.input, h.evs, h.fin, h.tb, h.tq, h.td, h.ts, h.tc, h.ti, h.te, h.tn, h.lt, h.n_le⟩
theorem MT.other {T : Nat → Nat} {w w' : World} {b : Nat} {M : MS} {bq : Nat} {sd ss cv iv ev en : Value} (h : MT T w b M bq sd ss cv iv ev en) (m : Mod (fun k => T k = 1) w w') : MT T w' b M bq sd ss cv iv ev en := h.mod m fun k _ h1 e => h1 e
theorem Mod.fp {T : Nat → Nat} {w w' : World} (m : Mod (fun k => T k = 1) w w') : Mod (Fp T) w w' := m.imp fun k _ e => by show T k ≠ 0; rw [e]; decide
open Classical in
theorem MT.setEnd {T : Nat → Nat} {w : World} {b : Nat} {M : MS} {bq : Nat} {sd ss cv iv ev en en' : Value} {o : Option Bool} (h : MT T w b M bq sd ss cv iv ev en) (hE : EndV w en' o) (hf : ∀ e, en' = .iface 144 (ptr e 0) → T e = 0 ∧ 6 ≤ e) : MT (fun k => if en' = .iface 144 (ptr k 0) then 8 else T k) w b { M with fin := o } bq sd ss cv iv ev en' := by
  have ne : ∀ k, T k ≠ 0 → (if en' = .iface 144 (ptr k 0) then 8 else T k) = T k := fun k h1 => by
    rw [if_neg]
    intro e
    exact h1 (hf k e).1
  refine ⟨h.mem, h.data, h.stk, h.code, h.input, h.evs, hE, ?_, ?_, ?_, ?_, ?_, ?_, ?_, ?_, ?_, h.n_le⟩
  · show (if _ then _ else _) = 1; rw [ne _ (by rw [h.tb]; decide)]; exact h.tb
  · show (if _ then _ else _) = 2; rw [ne _ (by rw [h.tq]; decide)]; exact h.tq
  · intro g e; show (if _ then _ else _) = 3; rw [ne _ (by rw [h.td g e]; decide)]; exact h.td g e
  · intro g e; show (if _ then _ else _) = 4; rw [ne _ (by rw [h.ts g e]; decide)]; exact h.ts g e
  · intro g e; show (if _ then _ else _) = 5; rw [ne _ (by rw [h.tc g e]; decide)]; exact h.tc g e
  · intro g e; show (if _ then _ else _) = 6; rw [ne _ (by rw [h.ti g e]; decide)]; exact h.ti g e
  · intro g e; show (if _ then _ else _) = 7; rw [ne _ (by rw [h.te g e]; decide)]; exact h.te g e
  · intro e he; show (if _ then _ else _) = 8; rw [if_pos he]
  · intro k hk
    by_cases e : en' = .iface 144 (ptr k 0)
    · refine ⟨?_, (hf k e).2⟩
      cases o with
      | none => rw [hE] at e; cases e
      | some t => obtain ⟨e2, he2, hb⟩ := hE; rw [e] at he2; cases he2; exact hb.lt
    · exact h.lt k (by intro e'; apply hk; show (if _ then _ else _) = 0; rw [if_neg e]; exact e')
open Classical in
theorem turn_end {T T1 : Nat → Nat} {w w1 w2 : World} {b : Nat} {M : MS} {bq : Nat} {sd ss cv iv ev en en' : Value} {o : Option Bool} (mw : Mod (Fp T) w w1) (hs : ∀ k, T1 k ≠ 0 → T k ≠ 0 ∨ w.heap.size ≤ k) (h : MT T1 w1 b M bq sd ss cv iv ev en) (m : Mod (fun k => T1 k = 1) w1 w2)
    (hb : Blk w2 b (machCells (.slice (some ⟨bq, 0, none⟩) 2 2) cv iv M.x M.pc ev en' M.steps) 85) (hE : EndV w2 en' o) (hf : ∀ e, en' = .iface 144 (ptr e 0) → w.heap.size ≤ e ∧ T1 e = 0) (h6 : 6 ≤ w.heap.size) : Turn T w b { M with fin := o } w2 := by
  refine ⟨_, ⟨bq, sd, ss, cv, iv, ev, en', hb, (h.other m).setEnd hE (fun e he => ⟨(hf e he).2, by have := (hf e he).1; omega⟩)⟩, mw.then (Mod.fp m) (fun i hi e => ?_), fun k hk => ?_⟩
  · rcases hs i e with h | h
    · exact h
    · omega
  · by_cases e : en' = .iface 144 (ptr k 0)
    · exact .inr (hf k e).1
    · exact hs k (by intro e'; apply hk; show (if _ then _ else _) = 0; rw [if_neg e]; exact e')
theorem Sl.of1 {w : World} {b : Nat} {sz : Nat} {xs : List Value} (h : Cells w b 0 xs) (hl : xs.length = sz) : Sl w (.slice (some ⟨b, 0, none⟩) 1 1) sz 1 xs := ⟨_, 1, rfl, Nat.le_refl _, by rw [hl, Nat.one_mul], .inr ⟨b, 0, rfl, h⟩⟩
end Go.Ux.Mach
end
section
set_option linter.unusedSimpArgs false
set_option linter.unusedVariables false
namespace Go.Proofs.S
open Go Go.Ux Go.Ux.Mach Go.Proofs
theorem fo85_5 : fieldOff Tryz.prog 85 5 = some 36 := by kernel_rfl
theorem ag34 : isAggT Tryz.prog 34 = some false := by kernel_rfl
theorem bld96_13 (k : BitVec 8) (n : BitVec 64) : ∀ w : World, (Instr.build 38 #[(0, U8 (k)), (1, I64 (n))]).run Tryz.prog w = .ok (.agg #[U8 (k), I64 (n)]) w := fun _ => by kernel_rfl
theorem bls96_14 (k : BitVec 8) (n : BitVec 64) : ∀ w : World, (Instr.buildSlice 34 1 #[(0, .agg #[U8 (k), I64 (n)])]).run Tryz.prog w = .ok (.slice (some ⟨w.heap.size, 0, none⟩) 1 1) (w.alloc (.cells #[U8 (k), I64 (n)] 38)) := fun _ => by kernel_rfl
theorem ap34 : appT Tryz.prog 34 = some (38, 2, 16, #[.int .u8 0, .int .i64 0]) := by kernel_rfl
theorem sz34 : sizeT Tryz.prog 34 = some 1 := by kernel_rfl
set_option maxRecDepth 100000 in
theorem see_spec (T : Nat → Nat) (b : Nat) (M : MS) (k : BitVec 8) (n : BitVec 64) (w : World) (h : MR T w b M) (he : M.events.length < 8796093022208) : CallsR Tryz.prog 96 #[ptr b 0, U8 (k), I64 (n)] w (fun v w' => v = .tuple #[] ∧ Turn T w b { M with events := M.events ++ [(k, n)] } w') := by
  obtain ⟨bq, sd, ss, cv, iv, ev, en, hb, ht⟩ := h
  refine callsR_of Tryz.func96 rfl rfl rfl ?_
  refine WC.region (WL.move (v := ptr b 0) rfl rfl (WL.move (v := ptr b 0) rfl rfl (WL.nilCheck rfl rfl (WL.fieldAddr rfl fo85_5 rfl (WL.load1 rfl ag34 (hb.cell (j := 36) rfl) rfl (WL.move (v := U8 (k)) rfl rfl (WL.move (v := I64 (n)) rfl rfl (WL.build (v := .agg #[U8 (k), I64 (n)]) (vs := [(0, U8 (k)), (1, I64 (n))]) rfl (bld96_13 k n) rfl (WL.buildSlice (vs := [(0, .agg #[U8 (k), I64 (n)])]) rfl (bls96_14 k n) rfl ?_)))))))))
  intro b14 w14 n14
  have E1 : Mod (fun k => T k = 1 ∨ T k = 7) w w14 := Mod.trans (Mod.refl _ _) (Mod.ext (n14.ext))
  have O2 := (ht.evs).ext (n14.ext)
  refine WL.append (k := M.events.length) (m := 1) (xs := evV M.events) (news := [U8 k, I64 n]) ap34 rfl rfl rfl (O2) ((Sl.of1 (n14.blk).cells rfl).src Tryz.underlying34 (List.all_eq_true.1 rfl)) (by omega) (by omega) rfl ?_
  intro v15 w15 o15 m15 l15
  have F3 : LocV w ev v15 := LocV.trans (LocV.refl _ _) l15 (Mod.size (E1))
  have B5 := (hb).ext (n14.ext)
  have N4 : v15.ownBlock ≠ some b := LocV.ne l15 ((B5).lt) (fun e => by have := ht.te b e; rw [ht.tb] at this; cases this)
  have E6 : Mod (fun k => T k = 1 ∨ T k = 7) w w15 := Mod.trans (E1) ((m15).imp (fun i _ e => .inr (ht.te i e)))
  refine WL.nilCheck rfl rfl (WL.fieldAddr rfl fo85_5 rfl ?_)
  have B7 := (B5).mod (m15) ((fun e => by have := ht.te b e; rw [ht.tb] at this; cases this))
  refine WL.storeB (v := v15) rfl rfl ((o15).sl).one sz34 B7 (Nat.le_of_ble_eq_true rfl) ?_
  intro ws8 ms8 bs8 zs8
  have E8 : Mod (fun k => T k = 1 ∨ T k = 7) w ws8 := Mod.trans (E6) ((ms8).imp (fun i _ e => by subst e; exact .inl ht.tb))
  refine WL.nil ?_
  have O9 := (o15).mod (ms8) (fun g hg e => N4 (hg.trans (congrArg some e)))
  have htn := turn_ev (l := M.events ++ [(k, n)]) ht (E8) (by rw [evV_snoc]; simpa using O9) (F3) (by simp) bs8
  exact ⟨_, Res.zero rfl, rfl, htn⟩
end Go.Proofs.S
end
