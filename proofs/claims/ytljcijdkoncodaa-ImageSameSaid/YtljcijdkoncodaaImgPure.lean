/- Machine code with names, as data: when it is right, which bytes it is. No program in sight. -/
import Derived.Test.YtljcijdkoncodaaUxOne
namespace Go.Ux.Image
open Go.Ux

structure Img where
  entry : Int
  syms : List (List UInt8 × Int)
  words : List (BitVec 32)
deriving DecidableEq

/-- A byte out of a number: its i-th, the lowest first. -/
def dig (n : Int) (i : Nat) : UInt8 := UInt8.ofNat ((n / (2 ^ (8 * i) : Nat)) % 256).toNat
/-- The k lowest bytes, the highest first. -/
def be : Nat → Int → List UInt8
  | 0, _ => []
  | k + 1, n => dig n k :: be k n
def symB (s : List UInt8 × Int) : List UInt8 := be 1 (s.1.length : Int) ++ (s.1 ++ be 4 s.2)
def symsB (l : List (List UInt8 × Int)) : List UInt8 := l.flatMap symB
def wordsB (l : List (BitVec 32)) : List UInt8 := l.flatMap fun x => be 4 (x.toNat : Int)
def magic : List UInt8 := [80, 77, 73, 49]
def bytesOf (I : Img) : List UInt8 := magic ++ be 4 I.entry ++ be 2 (I.syms.length : Int) ++ symsB I.syms ++ be 4 (I.words.length : Int) ++ wordsB I.words

/-- One symbol: 'ns': the names ahead of it; 'last': the place of the one ahead of it. -/
def symOk (nw : Nat) (ns : List (List UInt8)) (last : Int) (s : List UInt8 × Int) : Bool :=
  decide (1 ≤ s.1.length) && decide (s.1.length ≤ 64) && !ns.contains s.1 && decide (last < s.2) && (s.2 % 4 == 0) && decide (s.2 < 4 * (nw : Int))
def symsOk (nw : Nat) : List (List UInt8) → Int → List (List UInt8 × Int) → Bool
  | _, _, [] => true
  | ns, last, s :: r => symOk nw ns last s && symsOk nw (s.1 :: ns) s.2 r
def headAt : List (List UInt8 × Int) → Int
  | [] => 0
  | s :: _ => s.2
def right2 (I : Img) : Bool := decide (0 ≤ I.entry) && decide (I.entry ≤ 524288) && (I.entry % 8 == 0)
def right3 (I : Img) : Bool := decide (1 ≤ I.words.length) && decide (I.words.length ≤ 262144)
def right4 (I : Img) : Bool := decide (1 ≤ I.syms.length) && decide (I.syms.length ≤ 65) && (headAt I.syms == 0)
def right5 (I : Img) : Bool := symsOk I.words.length [] (-1) I.syms
def rightB (I : Img) : Bool := right2 I && right3 I && right4 I && right5 I

/-- Cells. -/
def symCells (l : List (List UInt8 × Int)) : List Value := l.flatMap fun s => [St s.1, .int .i64 s.2]
def wordCells (l : List (BitVec 32)) : List Value := l.map U32
theorem symCells_length (l : List (List UInt8 × Int)) : (symCells l).length = l.length * 2 := by
  induction l with
  | nil => rfl
  | cons a r ih => simp only [symCells, List.flatMap_cons, List.length_append, List.length_cons, List.length_nil] at ih ⊢; omega
theorem symCells_get (l : List (List UInt8 × Int)) (i : Nat) (h : i < l.length) : (symCells l)[i * 2]? = some (St l[i].1) ∧ (symCells l)[i * 2 + 1]? = some (.int .i64 l[i].2) := by
  induction l generalizing i with
  | nil => simp at h
  | cons a r ih =>
    cases i with
    | zero => exact ⟨rfl, rfl⟩
    | succ i =>
      have := ih i (by simpa using h)
      simp only [List.getElem_cons_succ]
      rw [show (i + 1) * 2 = i * 2 + 2 by omega, show i * 2 + 2 + 1 = (i * 2 + 1) + 2 by omega]
      exact this
/-- The two slices of an image, of sizes that fit. -/
structure Rep (w : World) (sv wv : Value) (I : Img) : Prop where
  s : Sl w sv 2 I.syms.length (symCells I.syms)
  w : Sl w wv 1 I.words.length (wordCells I.words)
  ls : I.syms.length ≤ 1000000000
  lw : I.words.length ≤ 1000000000
theorem Rep.ext {w w' : World} {sv wv : Value} {I : Img} (h : Rep w sv wv I) (m : Ext w w') : Rep w' sv wv I := ⟨h.s.ext m, h.w.ext m, h.ls, h.lw⟩
theorem Rep.mod {O : Nat → Prop} {w w' : World} {sv wv : Value} {I : Img} (h : Rep w sv wv I) (m : Mod O w w') (hs : 0 < I.syms.length → ∀ b, sv.ownBlock = some b → ¬ O b) (hw : 0 < I.words.length → ∀ b, wv.ownBlock = some b → ¬ O b) : Rep w' sv wv I := ⟨h.s.modp m hs, h.w.modp m hw, h.ls, h.lw⟩
theorem img_beq (I K : Img) : (I == K) = ((I.entry == K.entry) && (I.syms == K.syms) && (I.words == K.words)) := by
  obtain ⟨a, b, c⟩ := I
  obtain ⟨a', b', c'⟩ := K
  rw [Bool.eq_iff_iff]
  simp only [beq_iff_eq, Bool.and_eq_true, Img.mk.injEq, and_assoc]
theorem be_length (k : Nat) (n : Int) : (be k n).length = k := by induction k with
  | zero => rfl
  | succ k ih => simp [be, ih]
end Go.Ux.Image
