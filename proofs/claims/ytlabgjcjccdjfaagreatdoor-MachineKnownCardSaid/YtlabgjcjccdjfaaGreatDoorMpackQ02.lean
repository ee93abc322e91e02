/- Steps of the proof, packed by program: ImgOwn UxU32 UxLast UxSw UxShort UxBrief McAbbr McPure McW1 McRow McRow2 McAlu UxNil McMem McS1. -/
import Derived.Test.YtlabgjcjccdjfaaGreatDoorRows
import Derived.Test.YtlabgjcjccdjfaaGreatDoorCards
import Derived.Test.YtlabgjcjccdjfaaGreatDoorTie
import Derived.Deep.DeepHandedRow
import Derived.LaidLaws
import Derived.LaidHandle
import Derived.ChangeArms
import Derived.Stop.Joined
import Derived.Lib.SmallJoins
import Derived.Test.YtlabgjcjccdjfaaGreatDoorMpackQ01
set_option linter.unusedVariables false
set_option linter.unusedSimpArgs false
set_option linter.unnecessarySimpa false
set_option maxRecDepth 100000
section
namespace Go.Ux
open Go
theorem Own.set {w : World} {g cap n : Nat} {xs : List Value} (h : Own w 1 (.slice (some ⟨g, 0, none⟩) n cap) n xs) (i : Nat) (hi : i < n) (u : Value) :
    Own (w.setCell ⟨g, i, none⟩ u) 1 (.slice (some ⟨g, 0, none⟩) n cap) n (xs.set i u) ∧ Mod (At (.slice (some ⟨g, 0, none⟩) n cap)) w (w.setCell ⟨g, i, none⟩ u) := by
  rcases h.2 with ⟨h1, _⟩ | ⟨g', cap', h1, hn, hc, hf⟩
  · cases h1
  cases h1
  have e : w.setCell ⟨g, i, none⟩ u = w.setCells g i [u] := rfl
  have hx := h.1
  refine ⟨⟨by rw [List.length_set]; exact h.1, .inr ⟨g, cap, rfl, hn, ?_, ?_⟩⟩, (setCell_mod w g i u).imp fun k _ hk => by subst hk; rfl⟩
  · intro j u' hj
    rw [show (0 : Nat) + j = j from Nat.zero_add j]
    rw [List.getElem?_set] at hj
    by_cases hij : i = j
    · subst hij
      rw [if_pos rfl] at hj
      split at hj
      · cases hj
        rw [e]
        exact World.cell?_setCells_in g [u] i w (fun q hq => (hf _ (by simp at hq; omega)).1) 0 (by simp)
      · cases hj
    · rw [if_neg hij] at hj
      rw [e, World.cell?_setCells_out g [u] i w _ (fun _ _ => by simp; omega)]
      have := hc j u' hj
      rwa [Nat.zero_add] at this
  · intro j hj
    obtain ⟨h1, h2⟩ := hf j hj
    rw [e]
    exact ⟨World.isSome_setCells g [u] i w _ h1, by rw [World.frozen?_setCells]; exact h2⟩
section
variable {P : Program} {t : TypeId}
theorem ofInt8 (x : BitVec 8) : BitVec.ofInt 8 (x.toNat : Int) = x := by rw [BitVec.ofInt_natCast, BitVec.ofNat_toNat, BitVec.setWidth_eq]
theorem ofInt32 (x : BitVec 32) : BitVec.ofInt 32 (x.toNat : Int) = x := by rw [BitVec.ofInt_natCast, BitVec.ofNat_toNat, BitVec.setWidth_eq]
theorem BinR.addU32 {x y : BitVec 32} : BinR P .add t (U32 x) (U32 y) (U32 (x + y)) := by
  have := BinR.add (P := P) (t := t) (k := .u32) (a := x.toNat) (b := y.toNat)
  rwa [wrap_u32_bv, BitVec.ofInt_add, ofInt32, ofInt32] at this
end
section ops
variable {P : Program} {ops : Array Oper} {l : List Oper} {n : Nat} {f : Fr} {w : World} {Q : Exit → Fr → World → Prop}
variable {d : Nat} {ty : TypeId} {pos : String} {aft : Array Edge}
theorem WL.storeOwn {t m i g cap : Nat} {x y : Operand} {v u : Value} {xs : List Value} (hx : ev f x = ptr g i) (hy : ev f y = u) (hu : u.oneCell' = true) (hz : sizeT P t = some 1) (h : Own w 1 v m xs) (hv : v = .slice (some ⟨g, 0, none⟩) m cap) (hi : i < m)
    (k : ∀ w', Own w' 1 v m (xs.set i u) → Mod (At v) w w' → WL P ops l n f w' Q) : WL P ops (⟨none, .store t x y, ty, pos, aft, none⟩ :: l) n f w Q := by
  subst hv
  obtain ⟨h1, h2⟩ := h.set i hi u
  have hxl := h.1
  rcases h.2 with ⟨h3, _⟩ | ⟨g', cap', h3, hn, hc, hf⟩
  · cases h3
  cases h3
  refine WL.store1 hx hy hu hz (u := xs[i]'(by omega)) ?_ (hf i (by omega)).2 (k _ h1 h2)
  have := hc i _ (List.getElem?_eq_getElem (show i < xs.length by omega))
  rwa [Nat.zero_add] at this
end ops
end Go.Ux
namespace Go.Ux.Image
open Go Go.Ux
end Go.Ux.Image
namespace Go.Ux
open Go
section
variable {P : Program} {ops : Array Oper} {l : List Oper} {n : Nat} {f : Fr} {w : World} {Q : Exit → Fr → World → Prop}
variable {d : Nat} {ty : TypeId} {pos : String} {aft : Array Edge}
end
end Go.Ux
end
section
namespace Go.Ux
open Go
variable {P : Program} {t : TypeId}
theorem BinR.andU32 {x y : BitVec 32} : BinR P .and t (U32 x) (U32 y) (U32 (x &&& y)) := .of_int fun w => by
  have e : Op.intBits .and .u32 (x.toNat : Int) (y.toNat : Int) = pure (.int .u32 (IntKind.u32.wrap ((x &&& y).toNat : Int))) := by unfold Op.intBits; simp only [IntKind.bits, ofInt32]; rfl
  simp only [binOp, ne_eq, not_true_eq_false, if_false, e, wrap_u32_bv, ofInt32, Sem.run_pure]
theorem BinR.orU32 {x y : BitVec 32} : BinR P .or t (U32 x) (U32 y) (U32 (x ||| y)) := .of_int fun w => by
  have e : Op.intBits .or .u32 (x.toNat : Int) (y.toNat : Int) = pure (.int .u32 (IntKind.u32.wrap ((x ||| y).toNat : Int))) := by unfold Op.intBits; simp only [IntKind.bits, ofInt32]; rfl
  simp only [binOp, ne_eq, not_true_eq_false, if_false, e, wrap_u32_bv, ofInt32, Sem.run_pure]
theorem BinR.subU32 {x y : BitVec 32} : BinR P .sub t (U32 x) (U32 y) (U32 (x - y)) := by
  have := BinR.sub (P := P) (t := t) (k := .u32) (a := x.toNat) (b := y.toNat)
  rw [wrap_u32_bv] at this
  have e : BitVec.ofInt 32 ((x.toNat : Int) - y.toNat) = x - y := by rw [Int.sub_eq_add_neg, BitVec.ofInt_add, BitVec.ofInt_neg, ofInt32, ofInt32, BitVec.sub_eq_add_neg]
  rwa [e] at this
theorem BinR.subU8 {x y : BitVec 8} : BinR P .sub t (U8 x) (U8 y) (U8 (x - y)) := by
  have := BinR.sub (P := P) (t := t) (k := .u8) (a := x.toNat) (b := y.toNat)
  rw [wrap_u8_bv] at this
  have e : BitVec.ofInt 8 ((x.toNat : Int) - y.toNat) = x - y := by rw [Int.sub_eq_add_neg, BitVec.ofInt_add, BitVec.ofInt_neg, ofInt8, ofInt8, BitVec.sub_eq_add_neg]
  rwa [e] at this
theorem BinR.addU8 {x y : BitVec 8} : BinR P .add t (U8 x) (U8 y) (U8 (x + y)) := by
  have := BinR.add (P := P) (t := t) (k := .u8) (a := x.toNat) (b := y.toNat)
  rwa [wrap_u8_bv, BitVec.ofInt_add, ofInt8, ofInt8] at this
theorem shl32_min (x : BitVec 32) (s : Nat) : BitVec.ofInt 32 ((x.toNat : Int) * 2 ^ min s 32) = x <<< s := by
  rw [BitVec.ofInt_mul, ofInt32]
  have e : BitVec.ofInt 32 (2 ^ min s 32 : Int) = BitVec.ofNat 32 (2 ^ min s 32) := by
    have : (2 ^ min s 32 : Int) = ((2 ^ min s 32 : Nat) : Int) := by norm_cast
    rw [this, BitVec.ofInt_natCast]
  rw [e]
  apply BitVec.eq_of_toNat_eq
  simp only [BitVec.toNat_mul, BitVec.toNat_ofNat, BitVec.toNat_shiftLeft, Nat.shiftLeft_eq, Nat.mul_mod_mod]
  by_cases h : s ≤ 32
  · rw [Nat.min_eq_left h]
  · rw [Nat.min_eq_right (by omega)]
    have : x.toNat * 2 ^ s = x.toNat * 2 ^ (s - 32) * 2 ^ 32 := by rw [Nat.mul_assoc, ← Nat.pow_add]; congr 2; omega
    rw [this]; simp
theorem BinR.shlU32 {x : BitVec 32} {yk : IntKind} {s : Nat} : BinR P .shl t (U32 x) (.int yk (s : Int)) (U32 (x <<< s)) := .of_int fun w => by
  have h0 : ¬ ((s : Int) < 0) := by omega
  simp only [binOp, Op.shift, if_neg h0, Int.toNat_natCast, IntKind.bits, Sem.run_pure, wrap_u32_bv, shl32_min]
theorem BinR.shrU32 {x : BitVec 32} {yk : IntKind} {s : Nat} : BinR P .shr t (U32 x) (.int yk (s : Int)) (U32 (x >>> s)) := .of_int fun w => by
  have h0 : ¬ ((s : Int) < 0) := by omega
  have e : (x.toNat : Int).fdiv (2 ^ min s 32) = ((x >>> s).toNat : Int) := by
    rw [Int.fdiv_eq_ediv_of_nonneg _ (Int.pow_nonneg (by decide)), BitVec.toNat_ushiftRight, Nat.shiftRight_eq_div_pow]
    by_cases h : s ≤ 32
    · rw [Nat.min_eq_left h]; norm_cast
    · rw [Nat.min_eq_right (by omega)]
      have h1 : x.toNat / 2 ^ s = 0 := Nat.div_eq_of_lt (Nat.lt_of_lt_of_le x.isLt (Nat.pow_le_pow_right (by decide) (by omega)))
      rw [h1]
      have := x.isLt
      omega
  simp only [binOp, Op.shift, if_neg h0, Int.toNat_natCast, IntKind.bits, Sem.run_pure, e]
theorem beqNat {n : Nat} (x y : BitVec n) : (((x.toNat : Nat) : Int) == ((y.toNat : Nat) : Int)) = (x == y) := by
  rw [Bool.eq_iff_iff, beq_iff_eq, beq_iff_eq]
  exact ⟨fun h => BitVec.eq_of_toNat_eq (by omega), fun h => by rw [h]⟩
theorem BinR.eqlU32 {x y : BitVec 32} : BinR P .eql t (U32 x) (U32 y) (.bool (x == y)) := by have := BinR.eql (P := P) (t := t) (k := .u32) (a := x.toNat) (b := y.toNat); rwa [beqNat] at this
theorem BinR.neqU32 {x y : BitVec 32} : BinR P .neq t (U32 x) (U32 y) (.bool (x != y)) := by have := BinR.neq (P := P) (t := t) (k := .u32) (a := x.toNat) (b := y.toNat); rwa [bne, beqNat] at this
theorem BinR.eqlU8 {x y : BitVec 8} : BinR P .eql t (U8 x) (U8 y) (.bool (x == y)) := by have := BinR.eql (P := P) (t := t) (k := .u8) (a := x.toNat) (b := y.toNat); rwa [beqNat] at this
theorem BinR.neqU8 {x y : BitVec 8} : BinR P .neq t (U8 x) (U8 y) (.bool (x != y)) := by have := BinR.neq (P := P) (t := t) (k := .u8) (a := x.toNat) (b := y.toNat); rwa [bne, beqNat] at this
theorem ultNat {n : Nat} (x y : BitVec n) : decide ((x.toNat : Int) < (y.toNat : Int)) = BitVec.ult x y := by
  rw [Bool.eq_iff_iff, decide_eq_true_eq, BitVec.ult_eq_decide, decide_eq_true_eq]; omega
theorem uleNat {n : Nat} (x y : BitVec n) : decide ((x.toNat : Int) ≤ (y.toNat : Int)) = BitVec.ule x y := by
  rw [Bool.eq_iff_iff, decide_eq_true_eq, BitVec.ule_eq_decide, decide_eq_true_eq]; omega
theorem BinR.lssU8 {x y : BitVec 8} : BinR P .lss t (U8 x) (U8 y) (.bool (BitVec.ult x y)) := by have := BinR.lss (P := P) (t := t) (k := .u8) (a := x.toNat) (b := y.toNat); rwa [ultNat] at this
theorem BinR.gtrU8 {x y : BitVec 8} : BinR P .gtr t (U8 x) (U8 y) (.bool (BitVec.ult y x)) := by have := BinR.gtr (P := P) (t := t) (k := .u8) (a := x.toNat) (b := y.toNat); rwa [ultNat] at this
theorem BinR.leqU8 {x y : BitVec 8} : BinR P .leq t (U8 x) (U8 y) (.bool (BitVec.ule x y)) := by have := BinR.leq (P := P) (t := t) (k := .u8) (a := x.toNat) (b := y.toNat); rwa [uleNat] at this
theorem BinR.geqU8 {x y : BitVec 8} : BinR P .geq t (U8 x) (U8 y) (.bool (BitVec.ule y x)) := by have := BinR.geq (P := P) (t := t) (k := .u8) (a := x.toNat) (b := y.toNat); rwa [uleNat] at this
theorem BinR.leqU64 {x y : BitVec 64} : BinR P .leq t (U64 x) (U64 y) (.bool (BitVec.ule x y)) := by have := BinR.leq (P := P) (t := t) (k := .u64) (a := x.toNat) (b := y.toNat); rwa [uleNat] at this
theorem BinR.geqU64 {x y : BitVec 64} : BinR P .geq t (U64 x) (U64 y) (.bool (BitVec.ule y x)) := by have := BinR.geq (P := P) (t := t) (k := .u64) (a := x.toNat) (b := y.toNat); rwa [uleNat] at this
theorem toInt_setWidth (x : BitVec 32) : (x.setWidth 64).toInt = (x.toNat : Int) := by
  have := x.isLt
  rw [BitVec.toInt_eq_toNat_cond, BitVec.toNat_setWidth, Nat.mod_eq_of_lt (by omega), if_pos (by omega)]
section
variable {s u : TypeId} {td : TypeDesc} (h1 : P.underlying s = some td)
include h1
theorem ConvR.u8u32 (h2 : P.underlying u = some (.int .u32)) {x : BitVec 8} : ConvR P s u (U8 x) (U32 (x.setWidth 32)) := by
  have h := ConvR.int (P := P) (k := .u8) (a := x.toNat) h1 h2
  rwa [wrap_u32_bv, BitVec.ofInt_natCast, BitVec.ofNat_toNat] at h
theorem ConvR.u32u8 (h2 : P.underlying u = some (.int .u8)) {x : BitVec 32} : ConvR P s u (U32 x) (U8 (x.setWidth 8)) := by
  have h := ConvR.int (P := P) (k := .u32) (a := x.toNat) h1 h2
  rwa [wrap_u8_bv, BitVec.ofInt_natCast, BitVec.ofNat_toNat] at h
theorem ConvR.u64u8 (h2 : P.underlying u = some (.int .u8)) {x : BitVec 64} : ConvR P s u (U64 x) (U8 (x.setWidth 8)) := by
  have h := ConvR.int (P := P) (k := .u64) (a := x.toNat) h1 h2
  rwa [wrap_u8_bv, BitVec.ofInt_natCast, BitVec.ofNat_toNat] at h
theorem ConvR.u8u64 (h2 : P.underlying u = some (.int .u64)) {x : BitVec 8} : ConvR P s u (U8 x) (U64 (x.setWidth 64)) := by
  have h := ConvR.int (P := P) (k := .u8) (a := x.toNat) h1 h2
  rwa [wrap_u64_bv, BitVec.ofInt_natCast, BitVec.ofNat_toNat] at h
theorem ConvR.nu8 (h2 : P.underlying u = some (.int .u8)) {n : Nat} : ConvR P s u (IN n) (U8 (BitVec.ofNat 8 n)) := by
  have h := ConvR.int (P := P) (k := .i64) (a := n) h1 h2
  rwa [wrap_u8_bv, BitVec.ofInt_natCast] at h
theorem ConvR.nu64 (h2 : P.underlying u = some (.int .u64)) {n : Nat} : ConvR P s u (IN n) (U64 (BitVec.ofNat 64 n)) := by
  have h := ConvR.int (P := P) (k := .i64) (a := n) h1 h2
  rwa [wrap_u64_bv, BitVec.ofInt_natCast] at h
theorem ConvR.i64u32 (h2 : P.underlying u = some (.int .u32)) {x : BitVec 64} : ConvR P s u (I64 x) (U32 (x.signExtend 32)) := by
  have h := ConvR.int (P := P) (k := .i64) (a := x.toInt) h1 h2
  rwa [wrap_u32_bv] at h
theorem ConvR.u32i64 (h2 : P.underlying u = some (.int .i64)) {x : BitVec 32} : ConvR P s u (U32 x) (I64 (x.setWidth 64)) := by
  have h := ConvR.toI (P := P) (k := .u32) (a := x.toNat) h1 h2 (by have := x.isLt; omega)
  have e : Value.int .i64 (x.toNat : Int) = I64 (x.setWidth 64) := congrArg (Value.int .i64) (toInt_setWidth x).symm
  exact e ▸ h
theorem ConvR.u8n (h2 : P.underlying u = some (.int .i64)) {x : BitVec 8} : ConvR P s u (U8 x) (IN x.toNat) := ConvR.toI h1 h2 (by have := x.isLt; omega)
end
end Go.Ux
end
section
namespace Go.Ux
open Go
def wpAnyL (P : Program) (ops : Array Oper) (Q : Exit → Act → World → Prop) (S : World → Prop) (L : Nat) : Nat → Array Bool → Act → World → Prop
  | 0, listed, a, w => Region.ready .any ops listed = [] ∧ Q .normal a w
  | fuel + 1, listed, a, w =>
    (Region.ready .any ops listed = [] → Q .normal a w) ∧
    ∀ i ∈ Region.ready .any ops listed, wpOp P ops Q i (fun a' w' => ((listed.setIfInBounds i true).getD L false = true ∨ S w') ∧ wpAnyL P ops Q S L fuel (listed.setIfInBounds i true) a' w') a w
section
variable {P : Program} {ops : Array Oper} {Q : Exit → Act → World → Prop} {S : World → Prop} {L : Nat}
theorem wpAny_of_L : ∀ (fuel : Nat) (listed : Array Bool) (a : Act) (w : World), wpAnyL P ops Q S L fuel listed a w → wpAny P .any ops Q fuel listed a w
  | 0, _, _, _, h => h
  | fuel + 1, _, _, _, h => ⟨h.1, fun i hi => wpOp_mono (fun a' w' h' => wpAny_of_L fuel _ a' w' h'.2) (h.2 i hi)⟩
def waitsFor (ops : Array Oper) (L i : Nat) : Bool := match ops[L]? with
  | some o => o.after.any fun e => Region.binds .any e && e.on == i
  | none => false
theorem wpAnyL_first {i : Nat} {oi : Oper} {v : Value} (hi : ops[i]? = some oi) (hsel : ∀ (j : Nat) (o : Oper) cs b, ops[j]? = some o → o.op ≠ .select cs b)
    (hQ : ∀ c a w, Q (.panic c) (a.put oi.dst v) w → Q (.panic c) a w) (hL : waitsFor ops L i = true) (hLi : L ≠ i) :
    ∀ (fuel : Nat) (listed : Array Bool) (a : Act) (w : World),
      (∀ j oj, ops[j]? = some oj → j ≠ i → listed.getD j true = false → (∀ e ∈ oj.after, Region.binds .any e = true → e.on ≠ i) → oi.apart ops oj = true) →
      listed.getD L false = false → i ∈ Region.ready .any ops listed → YieldsIf P ops S oi v a → S w →
      wpAnyL P ops Q S L fuel (listed.setIfInBounds i true) (a.put oi.dst v) w → wpAnyL P ops Q S L (fuel + 1) listed a w := by
  intro fuel
  induction fuel with
  | zero =>
    intro listed a w _ _ hr hy hS H
    refine ⟨fun h => (by rw [h] at hr; cases hr), fun j hj => ?_⟩
    by_cases hji : j = i
    · subst hji; exact hy.wpOp hi hS ⟨.inr hS, H⟩
    · have := ready_mono hj hji
      rw [H.1] at this
      cases this
  | succ fuel ih =>
    intro listed a w hfree hLl hr hy hS H
    refine ⟨fun h => (by rw [h] at hr; cases hr), fun j hj => ?_⟩
    by_cases hji : j = i
    · subst hji; exact hy.wpOp hi hS ⟨.inr hS, H⟩
    · have h1 := H.2 j (ready_mono hj hji)
      obtain ⟨hjun, oj, hoj, hall⟩ := mem_ready.1 hj
      have hnot : ∀ e ∈ oj.after, Region.binds .any e = true → e.on ≠ i := fun e he hb heq => by
        have h1 := hall e he hb
        have h0 := (mem_ready.1 hr).1
        rw [heq] at h1
        rcases Nat.lt_or_ge i listed.size with h' | h'
        · simp [h'] at h0 h1; rw [h0] at h1; cases h1
        · simp [Array.getElem?_eq_none h'] at h1
      have hjL : j ≠ L := fun e => by
        subst e
        unfold waitsFor at hL
        rw [hoj] at hL
        simp only [Array.any_eq_true', Bool.and_eq_true, beq_iff_eq] at hL
        obtain ⟨e, he, hb, heq⟩ := hL
        exact hnot e he hb heq
      have h2 := wpOp_putIf hoj (hfree j oj hoj hji hjun hnot) (fun cs b => hsel i oi cs b hi) (fun cs b => hsel j oj cs b hoj) hQ hy h1
      have hfree' : ∀ k ok, ops[k]? = some ok → k ≠ i → (listed.setIfInBounds j true).getD k true = false →
          (∀ e ∈ ok.after, Region.binds .any e = true → e.on ≠ i) → oi.apart ops ok = true := fun k ok hk hki hun hno => by
        refine hfree k ok hk hki ?_ hno
        by_cases hjk : j = k
        · subst hjk; exact hjun
        · rw [getD_set_ne true hjk] at hun; exact hun
      have hl1 : (listed.setIfInBounds j true).getD L false = false := by rw [getD_set_ne false hjL]; exact hLl
      have hl2 : ((listed.setIfInBounds i true).setIfInBounds j true).getD L false = false := by rw [getD_set_ne false hjL, getD_set_ne false (Ne.symm hLi)]; exact hLl
      refine wpOp_mono (fun a' w' h3 => ?_) h2
      have hS' : S w' := by
        rcases h3.2.1 with h | h
        · rw [hl2] at h; cases h
        · exact h
      refine ⟨.inr hS', ih (listed.setIfInBounds j true) a' w' hfree' hl1 (ready_mono hr (Ne.symm hji)) h3.1 hS' ?_⟩
      rw [Array.setIfInBounds_comm _ _ hji]
      exact h3.2.2
end
def calmL (o : Oper) : Bool := calm o || match o.op with
  | .nilCheck _ => true
  | _ => false
theorem calmL_next {P : Program} {ρ : Operand → Value} {o : Oper} {nx : Next} {w w' : World} (hc : calmL o = true) (h : (execOp ρ o).run P w = .ok nx w') : ∃ u, nx = .value u := by
  unfold calmL at hc
  rw [Bool.or_eq_true] at hc
  rcases hc with hc | hc
  · exact calm_next hc h
  · cases ho : o.op with
    | nilCheck x =>
      have e : execOp ρ o = execOp ρ { o with op := .nilCheck x } := by rw [← ho]
      rw [e] at h
      simp only [execOp] at h
      split at h
      · simp [runtimePanic, Sem.run] at h
      · simp [runtimePanic, Sem.run] at h
      · simp [runtimePanic, Sem.run] at h
      · split at h
        · simp [runtimePanic, Sem.run] at h
        · rename_i t v _ _ _
          rw [Sem.run_bind] at h
          simp only [program, Sem.run_bind, Result.andThen] at h
          revert h
          generalize (Sem.run P _ _) = r
          cases r with
          | halt x w1 => intro h; simp at h
          | ok a w1 =>
            intro h
            simp only at h
            revert h
            generalize (Sem.run P _ _) = r2
            cases r2 with
            | halt x w1 => intro h; simp at h
            | ok a w1 =>
              intro h
              simp only at h
              split at h
              · simp [unsupported, Sem.run] at h
              · simp at h; exact ⟨_, h.1.symm⟩
        · simp at h; exact ⟨_, h.1.symm⟩
      · simp at h; exact ⟨_, h.1.symm⟩
    | _ => rw [ho] at hc; cases hc
section
variable {P : Program} {ops : Array Oper} {n : Nat} {f : Fr} {w : World} {Q : Exit → Fr → World → Prop} {S : World → Prop} {L : Nat}
theorem yields_ofL {o : Oper} {d : Nat} {v : Value} {a : Act} (hc : calmL o = true) (hd : o.dst = some d) (hdn : decide (d < n) = true) (h1 : a.tmps.size = n) (h2 : a.defers = [])
    (h : ∀ w, S w → WL P ops [o] n (frOf a) w (Left1 (frOf a) d v w)) : (∃ w, S w) → YieldsIf P ops S o v a := by
  rintro ⟨w0, hw0⟩
  have hdn' : d < a.tmps.size := by rw [h1]; simpa using hdn
  have same : ∀ u, upd (frOf a) d u = upd (frOf a) d v → u = v := fun u e => by have := congrFun e d; rwa [upd_same, upd_same] at this
  cases hw : Region.wanted o (yielded ops a.tmps) with
  | false =>
    refine .inr ⟨hw, ?_⟩
    have := h w0 hw0 a h1 h2 rfl
    unfold wpList at this
    rw [if_neg (by rw [hw]; simp)] at this
    obtain ⟨_, _, _, e, _⟩ := this
    rw [hd, frOf_put a d _ hdn'] at e
    exact (same _ e).symm
  | true =>
    refine .inl ⟨hw, fun w hS => ?_⟩
    have := h w hS a h1 h2 rfl
    unfold wpList at this
    rw [if_pos hw] at this
    rcases this with this | ⟨_, _, _, hl⟩
    case inr => obtain ⟨_, _, e, _⟩ := hl; cases e
    unfold Oper.wp at this
    cases hr : (execOp a.eval o).run P w with
    | ok nx w' =>
      obtain ⟨u, rfl⟩ := calmL_next hc hr
      rw [hr] at this
      obtain ⟨_, _, _, e, rfl⟩ := this
      rw [hd, frOf_put a d _ hdn'] at e
      rw [same _ e]
    | halt x w' =>
      rw [hr] at this
      cases x <;> first | exact this.elim | skip
      obtain ⟨_, _, e, _⟩ := this; cases e
def WAL (P : Program) (ops : Array Oper) (S : World → Prop) (L n fuel m : Nat) (f : Fr) (w : World) (Q : Exit → Fr → World → Prop) : Prop :=
  ∀ a : Act, a.tmps.size = n → a.defers = [] → frOf a = f → wpAnyL P ops (Post n Q) S L fuel (bits ops.size m) a w
theorem WC.drawL {id : Nat} {l : List Oper} (S : World → Prop) (L N : Nat) (hN : l.toArray.size = N) (hm : P.follows .mixedOrders = true) (h : ∀ w1, Ext w w1 → WAL P l.toArray S L n N 0 f w1 Q) : WC P (.region id l.toArray true) n f w Q := by
  intro a h1 h2 h3
  refine wp_region_any hm (wpAny_of_L (S := S) (L := L) _ _ _ _ ?_)
  rw [← bits_zero]
  have := h { w with drawn := w.drawn + 1 } (Mod.drew _ _) a h1 h2 h3
  rw [← hN] at this
  exact this
theorem WAL.take {i m m' d fuel : Nat} {o : Oper} {v : Value} (hi : ops[i]? = some o) (hc : calmL o = true) (hd : o.dst = some d) (hdn : decide (d < n) = true)
    (hs : (Region.noSelect ops && Region.free .any ops (bits ops.size m) i && (Region.ready .any ops (bits ops.size m)).contains i && (waitsFor ops L i && !(L == i) && !((bits ops.size m).getD L false))) = true) (hm : m ||| 1 <<< i = m')
    (hQ : ∀ c f w, Q (.panic c) f w → False) (hy : ∀ w, S w → WL P ops [o] n f w (Left1 f d v w)) (hS : S w)
    (k : WAL P ops S L n fuel m' (upd f d v) w Q) : WAL P ops S L n (fuel + 1) m f w Q := by
  intro a h1 h2 h3
  simp only [Bool.and_eq_true, Bool.not_eq_true', beq_eq_false_iff_ne] at hs
  have hin : i < ops.size := (Array.getElem?_eq_some_iff.1 hi).1
  refine wpAnyL_first hi (Region.noSelect_spec hs.1.1.1) (fun c a w h => (hQ c _ _ h.2.2).elim) hs.2.1.1 hs.2.1.2 fuel _ a w (Region.free_spec hi hs.1.1.2) hs.2.2 (by simpa using hs.1.2) (yields_ofL hc hd hdn h1 h2 (by rw [h3]; exact hy) ⟨w, hS⟩) hS ?_
  rw [bits_set _ _ _ hin, hm, hd]
  exact k _ (by rw [size_put, h1]) (by rw [defers_put, h2]) (by rw [frOf_put a d v (by rw [h1]; simpa using hdn), h3])
theorem WAL.off {i m m' d fuel j : Nat} {b : Bool} {y : Option Bool} {o : Oper} (hi : ops[i]? = some o) (hg : o.guard = some (j, b)) (hd : o.dst = some d) (hdn : decide (d < n) = true)
    (hs : (Region.noSelect ops && Region.free .any ops (bits ops.size m) i && (Region.ready .any ops (bits ops.size m)).contains i && (waitsFor ops L i && !(L == i) && !((bits ops.size m).getD L false))) = true) (hm : m ||| 1 <<< i = m')
    (hQ : ∀ c f w, Q (.panic c) f w → False) (hy : yf ops f j = y) (hb : (y == some b) = false) (hS : S w)
    (k : WAL P ops S L n fuel m' (upd f d undef) w Q) : WAL P ops S L n (fuel + 1) m f w Q := by
  intro a h1 h2 h3
  simp only [Bool.and_eq_true, Bool.not_eq_true', beq_eq_false_iff_ne] at hs
  have hin : i < ops.size := (Array.getElem?_eq_some_iff.1 hi).1
  have hw : Region.wanted o (yielded ops a.tmps) = false := by
    simp only [Region.wanted, hg]
    cases y with
    | none => rw [yielded_none a j (by rw [h3]; exact hy)]; rfl
    | some b' => rw [yielded_eq a j b' (by rw [h3]; exact hy)]; simpa using hb
  refine wpAnyL_first hi (Region.noSelect_spec hs.1.1.1) (fun c a w h => (hQ c _ _ h.2.2).elim) hs.2.1.1 hs.2.1.2 fuel _ a w (Region.free_spec hi hs.1.1.2) hs.2.2 (by simpa using hs.1.2) (v := undef) (.inr ⟨hw, rfl⟩) hS ?_
  rw [bits_set _ _ _ hin, hm, hd]
  exact k _ (by rw [size_put, h1]) (by rw [defers_put, h2]) (by rw [frOf_put a d _ (by rw [h1]; simpa using hdn), h3])
theorem WA.takeN {i m m' d fuel : Nat} {o : Oper} {v : Value} (hi : ops[i]? = some o) (hc : calmL o = true) (hd : o.dst = some d) (hdn : decide (d < n) = true)
    (hs : (Region.noSelect ops && Region.free .any ops (bits ops.size m) i && (Region.ready .any ops (bits ops.size m)).contains i) = true) (hm : m ||| 1 <<< i = m')
    (hQ : ∀ c f w, Q (.panic c) f w → False) (hy : ∀ w, S w → WL P ops [o] n f w (Left1 f d v w)) (hS : S w)
    (k : WA P ops S n fuel m' (upd f d v) w Q) : WA P ops S n (fuel + 1) m f w Q := by
  intro a h1 h2 h3
  simp only [Bool.and_eq_true] at hs
  have hin : i < ops.size := (Array.getElem?_eq_some_iff.1 hi).1
  refine wpAnyH_take hi hs.1.1 hs.1.2 hs.2 (fun c a w h => (hQ c _ _ h.2.2).elim) (v := v) (yields_ofL hc hd hdn h1 h2 (by rw [h3]; exact hy) ⟨w, hS⟩) hS ?_
  rw [bits_set _ _ _ hin, hm, hd]
  exact k _ (by rw [size_put, h1]) (by rw [defers_put, h2]) (by rw [frOf_put a d v (by rw [h1]; simpa using hdn), h3])
def BehindL (P : Program) (ops : Array Oper) (S : World → Prop) (L n fuel m : Nat) (Q : Exit → Fr → World → Prop) : Exit → Fr → World → Prop :=
  fun e f w => match e with
    | .normal => ((bits ops.size m).getD L false = true ∨ S w) ∧ WAL P ops S L n fuel m f w Q
    | _ => False
theorem wpOp_of_WLL {i m m' fuel : Nat} {o : Oper} (hi : ops[i]? = some o) (hm : m ||| 1 <<< i = m') (h : WL P ops [o] n f w (BehindL P ops S L n fuel m' Q)) {a : Act} (h1 : a.tmps.size = n) (h2 : a.defers = []) (h3 : frOf a = f) :
    wpOp P ops (Post n Q) i (fun a' w' => (((bits ops.size m).setIfInBounds i true).getD L false = true ∨ S w') ∧ wpAnyL P ops (Post n Q) S L fuel ((bits ops.size m).setIfInBounds i true) a' w') a w := by
  have hin : i < ops.size := (Array.getElem?_eq_some_iff.1 hi).1
  have := h a h1 h2 h3
  unfold wpOp
  simp only [hi]
  unfold wpList at this
  have fin : ∀ a' w', wpList P ops (Post n (BehindL P ops S L n fuel m' Q)) [] a' w' → (((bits ops.size m).setIfInBounds i true).getD L false = true ∨ S w') ∧ wpAnyL P ops (Post n Q) S L fuel ((bits ops.size m).setIfInBounds i true) a' w' := by
    rintro a' w' ⟨k1, k2, k3, k4⟩
    rw [bits_set _ _ _ hin, hm]
    exact ⟨k3, k4 a' k1 k2 rfl⟩
  split
  · rename_i hw
    rw [if_pos hw] at this
    rcases this with this | ⟨_, _, _, hl⟩
    · refine .inl ?_
      have h4 := Oper.wp_mono fin this
      unfold Oper.wp at h4 ⊢
      generalize (execOp a.eval o).run P w = r at h4 ⊢
      cases r with
      | ok nx w' =>
        cases nx <;> first | exact h4 | skip
        refine Calls.mono h4 fun e w'' he => ?_
        cases e with
        | returned u => exact he
        | panicked c => exact he.2.2.elim
        | outgrown => obtain ⟨_, _, _, _, e⟩ := he; exact e.elim
      | halt x w' =>
        cases x <;> first | exact h4 | skip
        exact h4.2.2.elim
    · exact hl.2.2.elim
  · rename_i hw
    rw [if_neg hw] at this
    exact fin _ _ this
theorem WAL.one {i m m' fuel : Nat} {o : Oper} (hr : Region.ready .any ops (bits ops.size m) = [i]) (hi : ops[i]? = some o) (hm : m ||| 1 <<< i = m')
    (h : WL P ops [o] n f w (BehindL P ops S L n fuel m' Q)) : WAL P ops S L n (fuel + 1) m f w Q := by
  intro a h1 h2 h3
  refine ⟨fun h0 => absurd (hr.symm.trans h0) (by simp), fun j hj => ?_⟩
  rw [hr] at hj
  obtain rfl : j = i := by simpa using hj
  exact wpOp_of_WLL hi hm h h1 h2 h3
theorem WAL.two {i j m mi mj fuel : Nat} {o o' : Oper} (hr : Region.ready .any ops (bits ops.size m) = [i, j]) (hi : ops[i]? = some o) (hj : ops[j]? = some o') (hmi : m ||| 1 <<< i = mi) (hmj : m ||| 1 <<< j = mj)
    (h : WL P ops [o] n f w (BehindL P ops S L n fuel mi Q)) (h' : WL P ops [o'] n f w (BehindL P ops S L n fuel mj Q)) : WAL P ops S L n (fuel + 1) m f w Q := by
  intro a h1 h2 h3
  refine ⟨fun h0 => absurd (hr.symm.trans h0) (by simp), fun k hk => ?_⟩
  rw [hr] at hk
  rcases (by simpa using hk : k = i ∨ k = j) with rfl | rfl
  · exact wpOp_of_WLL hi hmi h h1 h2 h3
  · exact wpOp_of_WLL hj hmj h' h1 h2 h3
theorem WAL.done {m fuel : Nat} (hr : Region.ready .any ops (bits ops.size m) = []) (h : Q .normal f w) : WAL P ops S L n fuel m f w Q := by
  intro a h1 h2 h3
  cases fuel with
  | zero => exact ⟨hr, h1, h2, by rw [h3]; exact h⟩
  | succ k => exact ⟨fun _ => ⟨h1, h2, by rw [h3]; exact h⟩, by rw [hr]; simp⟩
theorem WL.behindS {fuel m : Nat} (hS : S w) (h : WAL P ops S L n fuel m f w Q) : WL P ops [] n f w (BehindL P ops S L n fuel m Q) := WL.nil ⟨.inr hS, h⟩
theorem WL.behindL {fuel m : Nat} (hL : (bits ops.size m).getD L false = true) (h : WAL P ops S L n fuel m f w Q) : WL P ops [] n f w (BehindL P ops S L n fuel m Q) := WL.nil ⟨.inl hL, h⟩
end
end Go.Ux
end
section
namespace Go.Ux
open Go
theorem WC.neU {P : Program} {n : Nat} {f : Fr} {w : World} {Q : Exit → Fr → World → Prop} {id d d' : Nat} {t u ty ty' : TypeId} {pos pos' : String} {aft aft' : Array Edge} {a b e ce : Operand} {z c : BitVec 8} {x y : Code}
    (ha : ev f a = U8 z) (hb : ev f b = U8 c) (hd : decide (d < n) = true) (hd' : decide (d' < n) = true) (he : ev (upd f d (.bool false)) e = .bool false) (hc : ev (upd (upd f d (.bool false)) d' (.bool false)) ce = .bool false) (hne : (z == c) = false)
    (k : WC P y n (upd (upd f d (.bool false)) d' (.bool false)) w Q) :
    WC P (.region id [(⟨some d, .binOp .eql t a b u, ty, pos, aft, none⟩ : Oper), ⟨some d', .assign e, ty', pos', aft', none⟩].toArray false) n f w (Then n P (.cond ce x y) Q) :=
  WC.region (WL.bin (v := .bool false) ha hb hd (BinR.toB BinR.eqlU8 hne) (WL.assign (v := .bool false) he hd' (WL.nil (WC.condF hc k))))
end Go.Ux
end
section
namespace Go.Ux
open Go
theorem WL.ok {P : Program} {ops : Array Oper} {n : Nat} {f : Fr} {d : Nat} {v : Value} {w : World} : WL P ops [] n (upd f d v) w (Left1 f d v w) := WL.nil ⟨rfl, rfl, rfl⟩
section
variable {P : Program} {ops : Array Oper} {n : Nat} {f : Fr} {w : World} {Q : Exit → Fr → World → Prop} {S : World → Prop} {L : Nat}
theorem WA.tk (i : Nat) (v : Value) {m d fuel : Nat} {o : Oper} (hi : ops[i]? = some o) (hd : o.dst = some d) (hb : (calm o && decide (d < n)) = true)
    (hs : (Region.noSelect ops && Region.free .any ops (bits ops.size m) i && (Region.ready .any ops (bits ops.size m)).contains i) = true)
    (hy : ∀ w, S w → WL P ops [o] n f w (Left1 f d v w)) (hS : S w) (k : WA P ops S n fuel (m ||| 1 <<< i) (upd f d v) w Q) (hQ : ∀ c f w, Q (.panic c) f w → False := by exact fun _ _ _ h => h) : WA P ops S n (fuel + 1) m f w Q := by
  rw [Bool.and_eq_true] at hb
  exact WA.take hi hb.1 hd hb.2 hs rfl hQ hy hS k
theorem WA.tN (i : Nat) (v : Value) {m d fuel : Nat} {o : Oper} (hi : ops[i]? = some o) (hd : o.dst = some d) (hb : (calmL o && decide (d < n)) = true)
    (hs : (Region.noSelect ops && Region.free .any ops (bits ops.size m) i && (Region.ready .any ops (bits ops.size m)).contains i) = true)
    (hy : ∀ w, S w → WL P ops [o] n f w (Left1 f d v w)) (hS : S w) (k : WA P ops S n fuel (m ||| 1 <<< i) (upd f d v) w Q) (hQ : ∀ c f w, Q (.panic c) f w → False := by exact fun _ _ _ h => h) : WA P ops S n (fuel + 1) m f w Q := by
  rw [Bool.and_eq_true] at hb
  exact WA.takeN hi hb.1 hd hb.2 hs rfl hQ hy hS k
theorem WA.of (i : Nat) {m d fuel j : Nat} {b : Bool} (y : Option Bool) {o : Oper} (hi : ops[i]? = some o) (hg : o.guard = some (j, b)) (hd : o.dst = some d) (hdn : decide (d < n) = true)
    (hs : (Region.noSelect ops && Region.free .any ops (bits ops.size m) i && (Region.ready .any ops (bits ops.size m)).contains i) = true)
    (hy : yf ops f j = y) (hb : (y == some b) = false) (hS : S w) (k : WA P ops S n fuel (m ||| 1 <<< i) (upd f d undef) w Q) (hQ : ∀ c f w, Q (.panic c) f w → False := by exact fun _ _ _ h => h) : WA P ops S n (fuel + 1) m f w Q :=
  WA.off hi hg hd hdn hs rfl hQ hy hb hS k
theorem WAL.tk (i : Nat) (v : Value) {m d fuel : Nat} {o : Oper} (hi : ops[i]? = some o) (hd : o.dst = some d) (hb : (calmL o && decide (d < n)) = true)
    (hs : (Region.noSelect ops && Region.free .any ops (bits ops.size m) i && (Region.ready .any ops (bits ops.size m)).contains i && (waitsFor ops L i && !(L == i) && !((bits ops.size m).getD L false))) = true)
    (hy : ∀ w, S w → WL P ops [o] n f w (Left1 f d v w)) (hS : S w) (k : WAL P ops S L n fuel (m ||| 1 <<< i) (upd f d v) w Q) (hQ : ∀ c f w, Q (.panic c) f w → False := by exact fun _ _ _ h => h) : WAL P ops S L n (fuel + 1) m f w Q := by
  rw [Bool.and_eq_true] at hb
  exact WAL.take hi hb.1 hd hb.2 hs rfl hQ hy hS k
end
end Go.Ux
namespace Go
open Go.Ux
theorem G {α : Sort _} {a : α} : a = a := rfl
section
variable {P : Program} {ops : Array Oper} {l : List Oper} {n : Nat} {f : Fr} {w : World} {Q : Exit → Fr → World → Prop}
variable {d : Nat} {ty : TypeId} {pos : String} {aft : Array Edge}
theorem Mv {x : Operand} (v : Value) (hx : ev f x = v) (k : WL P ops l n (upd f d v) w Q) (hd : decide (d < n) = true := by exact rfl) : WL P ops (⟨some d, .move x, ty, pos, aft, none⟩ :: l) n f w Q := WL.move hx hd k
theorem An {x : Operand} (v : Value) (hx : ev f x = v) (k : WL P ops l n (upd f d v) w Q) (hd : decide (d < n) = true := by exact rfl) : WL P ops (⟨some d, .assign x, ty, pos, aft, none⟩ :: l) n f w Q := WL.assign hx hd k
theorem Et {x : Operand} {i : Nat} {vs : Array Value} {v : Value} (hx : ev f x = .tuple vs) (hv : vs[i]? = some v) (k : WL P ops l n (upd f d v) w Q) (hd : decide (d < n) = true := by exact rfl) : WL P ops (⟨some d, .extract x i, ty, pos, aft, none⟩ :: l) n f w Q := WL.extract hx hv hd k
theorem Bn {op : BinOp} {t u : TypeId} {x y : Operand} {vx vy v : Value} (hx : ev f x = vx) (hy : ev f y = vy) (b : BinR P op t vx vy v) (k : WL P ops l n (upd f d v) w Q) (hd : decide (d < n) = true := by exact rfl) : WL P ops (⟨some d, .binOp op t x y u, ty, pos, aft, none⟩ :: l) n f w Q := WL.bin hx hy hd b k
theorem Cv {s t : TypeId} {x : Operand} {vx v : Value} (hx : ev f x = vx) (b : ConvR P s t vx v) (k : WL P ops l n (upd f d v) w Q) (hd : decide (d < n) = true := by exact rfl) : WL P ops (⟨some d, .convert s t x, ty, pos, aft, none⟩ :: l) n f w Q := WL.conv hx hd b k
theorem Fa {s i : Nat} {x : Operand} {b o off : Nat} (hx : ev f x = ptr b o) (hf : fieldOff P s i = some off) (k : WL P ops l n (upd f d (ptr b (o + off))) w Q) (hd : decide (d < n) = true := by exact rfl) : WL P ops (⟨some d, .fieldAddr s x i, ty, pos, aft, none⟩ :: l) n f w Q := WL.fieldAddr hx hf hd k
theorem Ls {t t' : Nat} {x : Operand} {b m : Nat} {cs : Array Value} (vs : List Value) (hx : ev f x = ptr b 0) (ht : isAggT P t = some true) (hz : sizeT P t = some m) (hB : Blk w b cs t') (k : WL P ops l n (upd f d (.agg vs.toArray)) w Q)
    (hd : decide (d < n) = true := by exact rfl) (hl : vs.length = m := by exact rfl) (hv : (cs.toList.drop 0).take vs.length = vs := by exact rfl) : WL P ops (⟨some d, .load t x, ty, pos, aft, none⟩ :: l) n f w Q := WL.loadS vs hx ht hz hl (hB.sub hv) hd k
theorem Ni (h : Q .normal f w) : WL P ops [] n f w Q := WL.nil h
theorem Ok {v : Value} : WL P ops [] n (upd f d v) w (Left1 f d v w) := WL.ok
theorem Sq {x y : Code} (h : WC P x n f w (Then n P y Q)) : WC P (.seq x y) n f w Q := WC.seq h
theorem Rg {id : Nat} {l : List Oper} (h : WL P l.toArray l n f w Q) : WC P (.region id l.toArray false) n f w Q := WC.region h
theorem Sr {id : Nat} {l : List Oper} {y : Code} (h : WL P l.toArray l n f w (Then n P y Q)) : WC P (.seq (.region id l.toArray false) y) n f w Q := WC.seq (WC.region h)
theorem Bk {id : Nat} {c : Code} (h : WC P c n f w (InB id Q)) : WC P (.block id c) n f w Q := WC.block h
theorem Ct {c : Operand} {x y : Code} (hc : ev f c = .bool true) (h : WC P x n f w Q) : WC P (.cond c x y) n f w Q := WC.condT hc h
theorem Cf {c : Operand} {x y : Code} (hc : ev f c = .bool false) (h : WC P y n f w Q) : WC P (.cond c x y) n f w Q := WC.condF hc h
theorem Nz {id d d' : Nat} {t u ty ty' : TypeId} {pos pos' : String} {aft aft' : Array Edge} {a b e ce : Operand} {z : BitVec 8} (c : Nat) {S : List (BitVec 8)} (hz : ∀ c ∈ S, (z == c) = false) {x y : Code}
    (k : WC P y n (upd (upd f d (.bool false)) d' (.bool false)) w Q) (hm : BitVec.ofNat 8 c ∈ S := by decide)
    (ha : ev f a = U8 z := by exact rfl) (hb : ev f b = U8 (BitVec.ofNat 8 c) := by exact rfl) (hd : (decide (d < n) && decide (d' < n)) = true := by exact rfl) (he : ev (upd f d (.bool false)) e = .bool false := by exact rfl) (hc : ev (upd (upd f d (.bool false)) d' (.bool false)) ce = .bool false := by exact rfl) :
    WC P (.region id [(⟨some d, .binOp .eql t a b u, ty, pos, aft, none⟩ : Oper), ⟨some d', .assign e, ty', pos', aft', none⟩].toArray false) n f w (Then n P (.cond ce x y) Q) := by
  rw [Bool.and_eq_true] at hd
  exact WC.neU ha hb hd.1 hd.2 he hc (hz _ hm) k
theorem Eu {id d d' : Nat} {t u ty ty' : TypeId} {pos pos' : String} {aft aft' : Array Edge} {a b e ce : Operand} {z : BitVec 8} (c : Nat) {x y : Code}
    (k : WC P x n (upd (upd f d (.bool true)) d' (.bool true)) w Q)
    (ha : ev f a = U8 z := by exact rfl) (hb : ev f b = U8 (BitVec.ofNat 8 c) := by exact rfl) (hd : (decide (d < n) && decide (d' < n)) = true := by exact rfl) (he : ev (upd f d (.bool true)) e = .bool true := by exact rfl) (hc : ev (upd (upd f d (.bool true)) d' (.bool true)) ce = .bool true := by exact rfl) (hne : (z == BitVec.ofNat 8 c) = true := by decide) :
    WC P (.region id [(⟨some d, .binOp .eql t a b u, ty, pos, aft, none⟩ : Oper), ⟨some d', .assign e, ty', pos', aft', none⟩].toArray false) n f w (Then n P (.cond ce x y) Q) := by
  rw [Bool.and_eq_true] at hd
  exact WC.region (WL.bin (v := .bool true) ha hb hd.1 (BinR.toB BinR.eqlU8 hne) (WL.assign (v := .bool true) he hd.2 (WL.nil (WC.condT hc k))))
theorem Nu {id d d' : Nat} {t u ty ty' : TypeId} {pos pos' : String} {aft aft' : Array Edge} {a b e ce : Operand} {z : BitVec 8} (c : Nat) {x y : Code}
    (k : WC P y n (upd (upd f d (.bool false)) d' (.bool false)) w Q)
    (ha : ev f a = U8 z := by exact rfl) (hb : ev f b = U8 (BitVec.ofNat 8 c) := by exact rfl) (hd : (decide (d < n) && decide (d' < n)) = true := by exact rfl) (he : ev (upd f d (.bool false)) e = .bool false := by exact rfl) (hc : ev (upd (upd f d (.bool false)) d' (.bool false)) ce = .bool false := by exact rfl) (hne : (z == BitVec.ofNat 8 c) = false := by decide) :
    WC P (.region id [(⟨some d, .binOp .eql t a b u, ty, pos, aft, none⟩ : Oper), ⟨some d', .assign e, ty', pos', aft', none⟩].toArray false) n f w (Then n P (.cond ce x y) Q) := by
  rw [Bool.and_eq_true] at hd
  exact WC.neU ha hb hd.1 hd.2 he hc hne k
end
section
variable {P : Program} {ops : Array Oper} {n : Nat} {f : Fr} {w : World} {Q : Exit → Fr → World → Prop} {S : World → Prop} {L : Nat}
theorem Tk (i : Nat) (v : Value) {m d fuel : Nat} {o : Oper} (hi : ops[i]? = some o) (hd : o.dst = some d) (hy : ∀ w, S w → WL P ops [o] n f w (Left1 f d v w)) (hS : S w) (k : WA P ops S n fuel (m ||| 1 <<< i) (upd f d v) w Q)
    (hb : (calm o && decide (d < n)) = true := by exact rfl) (hs : (Region.noSelect ops && Region.free .any ops (Ux.bits ops.size m) i && (Region.ready .any ops (Ux.bits ops.size m)).contains i) = true := by kernel_rfl)
    (hQ : ∀ c f w, Q (.panic c) f w → False := by first | exact fun _ _ _ h => h | exact fun _ _ _ h => nomatch h.1) : WA P ops S n (fuel + 1) m f w Q := WA.tk i v hi hd hb hs hy hS k hQ
theorem Tn (i : Nat) (v : Value) {m d fuel : Nat} {o : Oper} (hi : ops[i]? = some o) (hd : o.dst = some d) (hy : ∀ w, S w → WL P ops [o] n f w (Left1 f d v w)) (hS : S w) (k : WA P ops S n fuel (m ||| 1 <<< i) (upd f d v) w Q)
    (hb : (calmL o && decide (d < n)) = true := by exact rfl) (hs : (Region.noSelect ops && Region.free .any ops (Ux.bits ops.size m) i && (Region.ready .any ops (Ux.bits ops.size m)).contains i) = true := by kernel_rfl)
    (hQ : ∀ c f w, Q (.panic c) f w → False := by first | exact fun _ _ _ h => h | exact fun _ _ _ h => nomatch h.1) : WA P ops S n (fuel + 1) m f w Q := WA.tN i v hi hd hb hs hy hS k hQ
theorem Tl (i : Nat) (v : Value) {m d fuel : Nat} {o : Oper} (hi : ops[i]? = some o) (hd : o.dst = some d) (hy : ∀ w, S w → WL P ops [o] n f w (Left1 f d v w)) (hS : S w) (k : WAL P ops S L n fuel (m ||| 1 <<< i) (upd f d v) w Q)
    (hb : (calmL o && decide (d < n)) = true := by exact rfl) (hs : (Region.noSelect ops && Region.free .any ops (Ux.bits ops.size m) i && (Region.ready .any ops (Ux.bits ops.size m)).contains i && (waitsFor ops L i && !(L == i) && !((Ux.bits ops.size m).getD L false))) = true := by kernel_rfl)
    (hQ : ∀ c f w, Q (.panic c) f w → False := by first | exact fun _ _ _ h => h | exact fun _ _ _ h => nomatch h.1) : WAL P ops S L n (fuel + 1) m f w Q := WAL.tk i v hi hd hb hs hy hS k hQ
theorem To (i : Nat) {m d fuel j : Nat} {b : Bool} (y : Option Bool) {o : Oper} (hi : ops[i]? = some o) (hg : o.guard = some (j, b)) (hd : o.dst = some d) (hy : yf ops f j = y) (hS : S w) (k : WA P ops S n fuel (m ||| 1 <<< i) (upd f d undef) w Q)
    (hdn : decide (d < n) = true := by exact rfl) (hs : (Region.noSelect ops && Region.free .any ops (Ux.bits ops.size m) i && (Region.ready .any ops (Ux.bits ops.size m)).contains i) = true := by kernel_rfl) (hb : (y == some b) = false := by exact rfl)
    (hQ : ∀ c f w, Q (.panic c) f w → False := by first | exact fun _ _ _ h => h | exact fun _ _ _ h => nomatch h.1) : WA P ops S n (fuel + 1) m f w Q := WA.of i y hi hg hd hdn hs hy hb hS k hQ
theorem Yb {ops : Array Oper} {f : Fr} {j d : Nat} {c b : Bool} (hd : (ops[j]?).bind (·.dst) = some d) (hv : f d = .bool c) (h : c = b) : yf ops f j = some b := yf_bool hd hv h
theorem Mt {O : Nat → Prop} {a b c : World} (h : Mod O a b) (k : Mod O b c) : Mod O a c := Mod.trans h k
end
end Go
end
section
namespace Go
open Go.Ux
abbrev Sv (b n m : Nat) : Value := .slice (some ⟨b, 0, none⟩) n m
abbrev Z1 : Value := .int .u8 0
abbrev Z8 : Value := .int .u64 0
abbrev HX (w : World) : Prop := w.cell? ⟨3, 0, none⟩ = some (.iface 206 (.agg #[.pointer (some ⟨6, 83, none⟩)]))
section
variable {P : Program} {ops : Array Oper} {l : List Oper} {n : Nat} {f : Fr} {w : World} {Q : Exit → Fr → World → Prop}
variable {d : Nat} {ty : TypeId} {pos : String} {aft : Array Edge}
theorem Me {x : Operand} (v : Value) (k : WL P ops l n (upd f d v) w Q) (hx : ev f x = v := by exact rfl) (hd : decide (d < n) = true := by exact rfl) : WL P ops (⟨some d, .move x, ty, pos, aft, none⟩ :: l) n f w Q := WL.move hx hd k
theorem Ae {x : Operand} (v : Value) (k : WL P ops l n (upd f d v) w Q) (hx : ev f x = v := by exact rfl) (hd : decide (d < n) = true := by exact rfl) : WL P ops (⟨some d, .assign x, ty, pos, aft, none⟩ :: l) n f w Q := WL.assign hx hd k
theorem Gr {d : Option Nat} {op : Op} {j : Nat} {b : Bool} (k : WL P ops (⟨d, op, ty, pos, aft, none⟩ :: l) n f w Q) (hj : yf ops f j = some b := by exact rfl) : WL P ops (⟨d, op, ty, pos, aft, some (j, b)⟩ :: l) n f w Q := WL.guardT hj k
theorem yfM {j : Nat} {c b : Bool} (hv : ((ops[j]?).bind (·.dst)).map f = some (.bool c)) (h : c = b) : yf ops f j = some b := by
  cases hd : (ops[j]?).bind (·.dst) with
  | none => rw [hd] at hv; cases hv
  | some d => rw [hd] at hv; exact yf_bool hd (Option.some.inj hv) h
theorem Gy {d : Option Nat} {op : Op} {j : Nat} {c b : Bool} (h : c = b) (k : WL P ops (⟨d, op, ty, pos, aft, none⟩ :: l) n f w Q) (hv : ((ops[j]?).bind (·.dst)).map f = some (.bool c) := by exact rfl) : WL P ops (⟨d, op, ty, pos, aft, some (j, b)⟩ :: l) n f w Q := WL.guardT (yfM hv h) k
theorem Gx {d : Option Nat} {op : Op} {j : Nat} {b : Bool} (k : WL P ops l n (updO f d undef) w Q) (hj : yf ops f j = some (!b) := by exact rfl) (hd : dstOk n d = true := by exact rfl) : WL P ops (⟨d, op, ty, pos, aft, some (j, b)⟩ :: l) n f w Q := WL.guardF hj (by cases b <;> rfl) hd k
theorem Gz {d : Option Nat} {op : Op} {j : Nat} {c b : Bool} (h : c = !b) (k : WL P ops l n (updO f d undef) w Q) (hv : ((ops[j]?).bind (·.dst)).map f = some (.bool c) := by exact rfl) (hd : dstOk n d = true := by exact rfl) : WL P ops (⟨d, op, ty, pos, aft, some (j, b)⟩ :: l) n f w Q := WL.guardF (yfM hv h) (by cases b <;> rfl) hd k
theorem Pt {c x y : Operand} {v : Value} (hv : ev f x = v) (k : WL P ops l n (upd f d v) w Q) (hc : ev f c = .bool true := by exact rfl) (hd : decide (d < n) = true := by exact rfl) : WL P ops (⟨some d, .pick c x y, ty, pos, aft, none⟩ :: l) n f w Q := WL.pick hc hv hd k
theorem Pf {c x y : Operand} {v : Value} (hv : ev f y = v) (k : WL P ops l n (upd f d v) w Q) (hc : ev f c = .bool false := by exact rfl) (hd : decide (d < n) = true := by exact rfl) : WL P ops (⟨some d, .pick c x y, ty, pos, aft, none⟩ :: l) n f w Q := WL.pick hc hv hd k
theorem Qt {c x y : Operand} {v : Value} {b : Bool} (h : b = true) (hv : ev f x = v) (k : WL P ops l n (upd f d v) w Q) (hc : ev f c = .bool b := by exact rfl) (hd : decide (d < n) = true := by exact rfl) : WL P ops (⟨some d, .pick c x y, ty, pos, aft, none⟩ :: l) n f w Q := WL.pick (b := true) (hc.trans (congrArg _ h)) hv hd k
theorem Qf {c x y : Operand} {v : Value} {b : Bool} (h : b = false) (hv : ev f y = v) (k : WL P ops l n (upd f d v) w Q) (hc : ev f c = .bool b := by exact rfl) (hd : decide (d < n) = true := by exact rfl) : WL P ops (⟨some d, .pick c x y, ty, pos, aft, none⟩ :: l) n f w Q := WL.pick (b := false) (hc.trans (congrArg _ h)) hv hd k
theorem Bt {op : BinOp} {t u : TypeId} {x y : Operand} {vx vy : Value} {c : Bool} (hx : ev f x = vx) (hy : ev f y = vy) (b : BinR P op t vx vy (.bool c)) (h : c = true) (k : WL P ops l n (upd f d (.bool true)) w Q) (hd : decide (d < n) = true := by exact rfl) : WL P ops (⟨some d, .binOp op t x y u, ty, pos, aft, none⟩ :: l) n f w Q := WL.bin hx hy hd (BinR.toB b h) k
theorem Bf {op : BinOp} {t u : TypeId} {x y : Operand} {vx vy : Value} {c : Bool} (hx : ev f x = vx) (hy : ev f y = vy) (b : BinR P op t vx vy (.bool c)) (h : c = false) (k : WL P ops l n (upd f d (.bool false)) w Q) (hd : decide (d < n) = true := by exact rfl) : WL P ops (⟨some d, .binOp op t x y u, ty, pos, aft, none⟩ :: l) n f w Q := WL.bin hx hy hd (BinR.toB b h) k
theorem Bo {op : BinOp} {t u : TypeId} {x y : Operand} {vx vy : Value} {p : Prop} [Decidable p] (hx : ev f x = vx) (hy : ev f y = vy) (b : BinR P op t vx vy (.bool (decide p))) (k : WL P ops l n (upd f d (.bool false)) w Q) (h : ¬ p := by omega) (hd : decide (d < n) = true := by exact rfl) : WL P ops (⟨some d, .binOp op t x y u, ty, pos, aft, none⟩ :: l) n f w Q := WL.bin hx hy hd (BinR.toB b (decide_eq_false h)) k
theorem Bp {op : BinOp} {t u : TypeId} {x y : Operand} {vx vy : Value} {p : Prop} [Decidable p] (hx : ev f x = vx) (hy : ev f y = vy) (b : BinR P op t vx vy (.bool (decide p))) (k : WL P ops l n (upd f d (.bool true)) w Q) (h : p := by omega) (hd : decide (d < n) = true := by exact rfl) : WL P ops (⟨some d, .binOp op t x y u, ty, pos, aft, none⟩ :: l) n f w Q := WL.bin hx hy hd (BinR.toB b (decide_eq_true h)) k
theorem Ca {g : Nat} {args : Array Operand} {ats : Array TypeId} {vs : List Value} {S : Value → World → Prop} (c : CallsR P g vs.toArray w S) (k : ∀ v w', S v w' → WL P ops l n (upd f d v) w' Q) (ha : args.toList.map (ev f) = vs := by exact rfl) (hd : decide (d < n) = true := by exact rfl) (hcal : callable P g = true := by kernel_rfl) :
    WL P ops (⟨some d, .call { callee := .value (.func g), args := args, argTypes := ats }, ty, pos, aft, none⟩ :: l) n f w Q := WL.call hcal ha hd c k
theorem Le {t : Nat} {x : Operand} {b o : Nat} {v : Value} (hc : w.cell? ⟨b, o, none⟩ = some v) (k : WL P ops l n (upd f d v) w Q) (hx : ev f x = ptr b o := by exact rfl) (hd : decide (d < n) = true := by exact rfl) (ht : isAggT P t = some false := by kernel_rfl) : WL P ops (⟨some d, .load t x, ty, pos, aft, none⟩ :: l) n f w Q := WL.load1 hx ht hc hd k
theorem Lx {t : Nat} {x : Operand} {b o : Nat} {v : Value} (hx : ev f x = ptr b o) (hc : w.cell? ⟨b, o, none⟩ = some v) (k : WL P ops l n (upd f d v) w Q) (hd : decide (d < n) = true := by exact rfl) (ht : isAggT P t = some false := by kernel_rfl) : WL P ops (⟨some d, .load t x, ty, pos, aft, none⟩ :: l) n f w Q := WL.load1 hx ht hc hd k
theorem Se {t t' : Nat} {x : Operand} {b : Nat} {cs : Array Value} (vs : List Value) (hB : Blk w b cs t') (k : WL P ops l n (upd f d (.agg vs.toArray)) w Q)
    (hx : ev f x = ptr b 0 := by exact rfl) (hd : decide (d < n) = true := by exact rfl) (hv : (cs.toList.drop 0).take vs.length = vs := by exact rfl) (ht : isAggT P t = some true := by kernel_rfl) (hz : sizeT P t = some vs.length := by kernel_rfl) : WL P ops (⟨some d, .load t x, ty, pos, aft, none⟩ :: l) n f w Q := WL.loadS vs hx ht hz rfl (hB.sub hv) hd k
theorem Bl {t : Nat} {ps : Array (Nat × Operand)} (v : Value) (vs : List (Nat × Value)) (k : WL P ops l n (upd f d v) w Q) (hp : ps.toList.map (fun p => (p.1, ev f p.2)) = vs := by exact rfl) (hd : decide (d < n) = true := by exact rfl) (hr : ∀ w, (Instr.build t vs.toArray).run P w = .ok v w := by intro _; kernel_rfl) :
    WL P ops (⟨some d, .build t ps, ty, pos, aft, none⟩ :: l) n f w Q := WL.build hp hr hd k
theorem Ro {fn : Func} {t : Nat} {v : Value} (h : fn.results = #[.tmp t]) (hv : f t = v) : Res P fn n f w v := Res.one h hv
theorem Rp {fn : Func} {t u : Nat} {v v' : Value} (h : fn.results = #[.tmp t, .tmp u]) (hv : f t = v) (hv' : f u = v') : Res P fn n f w (.tuple #[v, v']) := Res.two h hv hv'
theorem Co {i : Nat} {fn : Func} {c : Code} {args : Array Value} {S : Value → World → Prop} (hf : P.funcs[i]? = some fn) (hb : fn.body = some c) (hn : fn.ntmps = n) (h : WC P c n (fun t => args.getD t undef) w (Fin P fn n S)) (ha : decide (args.size ≤ n) = true := by exact rfl) : CallsR P i args w S := callsR_of hf hb hn ha h
end
section
variable {P : Program} {ops : Array Oper} {n : Nat} {f : Fr} {w : World} {Q : Exit → Fr → World → Prop} {S : World → Prop} {L : Nat}
theorem Tp (i : Nat) (v : Value) {m d fuel : Nat} {o : Oper} (hi : ops[i]? = some o) (hd : o.dst = some d) (hy : ∀ {w}, WL P ops [o] n f w (Left1 f d v w)) (hS : S w) (k : WA P ops S n fuel (m ||| 1 <<< i) (upd f d v) w Q)
    (hb : (calm o && decide (d < n)) = true := by exact rfl) (hs : (Region.noSelect ops && Region.free .any ops (Ux.bits ops.size m) i && (Region.ready .any ops (Ux.bits ops.size m)).contains i) = true := by kernel_rfl)
    (hQ : ∀ c f w, Q (.panic c) f w → False := by first | exact fun _ _ _ h => h | exact fun _ _ _ h => nomatch h.1) : WA P ops S n (fuel + 1) m f w Q := WA.tk i v hi hd hb hs (fun _ _ => hy) hS k hQ
theorem Tm (i : Nat) (v : Value) {m d fuel : Nat} {o : Oper} (hi : ops[i]? = some o) (hd : o.dst = some d) (hS : S w) (k : WA P ops S n fuel (m ||| 1 <<< i) (upd f d v) w Q) (hy : ∀ w, WL P ops [o] n f w (Left1 f d v w) := by exact fun _ => by first | exact Me _ Ok | exact Ae _ Ok | exact Et rfl rfl Ok | exact Gr (Me _ Ok))
    (hb : (calm o && decide (d < n)) = true := by exact rfl) (hs : (Region.noSelect ops && Region.free .any ops (Ux.bits ops.size m) i && (Region.ready .any ops (Ux.bits ops.size m)).contains i) = true := by kernel_rfl)
    (hQ : ∀ c f w, Q (.panic c) f w → False := by first | exact fun _ _ _ h => h | exact fun _ _ _ h => nomatch h.1) : WA P ops S n (fuel + 1) m f w Q := WA.tk i v hi hd hb hs (fun w _ => hy w) hS k hQ
theorem Tj (i : Nat) (v : Value) {m d fuel : Nat} {o : Oper} (hi : ops[i]? = some o) (hd : o.dst = some d) (hS : S w) (k : WA P ops S n fuel (m ||| 1 <<< i) (upd f d v) w Q) (hy : ∀ w, WL P ops [o] n f w (Left1 f d v w) := by exact fun _ => WL.nilCheck rfl rfl Ok)
    (hb : (calmL o && decide (d < n)) = true := by exact rfl) (hs : (Region.noSelect ops && Region.free .any ops (Ux.bits ops.size m) i && (Region.ready .any ops (Ux.bits ops.size m)).contains i) = true := by kernel_rfl)
    (hQ : ∀ c f w, Q (.panic c) f w → False := by first | exact fun _ _ _ h => h | exact fun _ _ _ h => nomatch h.1) : WA P ops S n (fuel + 1) m f w Q := WA.tN i v hi hd hb hs (fun w _ => hy w) hS k hQ
theorem Ti (i : Nat) (v : Value) {m d fuel : Nat} {o : Oper} (hi : ops[i]? = some o) (hd : o.dst = some d) (hy : ∀ {w}, WL P ops [o] n f w (Left1 f d v w)) (hS : S w) (k : WAL P ops S L n fuel (m ||| 1 <<< i) (upd f d v) w Q)
    (hb : (calmL o && decide (d < n)) = true := by exact rfl) (hs : (Region.noSelect ops && Region.free .any ops (Ux.bits ops.size m) i && (Region.ready .any ops (Ux.bits ops.size m)).contains i && (waitsFor ops L i && !(L == i) && !((Ux.bits ops.size m).getD L false))) = true := by kernel_rfl)
    (hQ : ∀ c f w, Q (.panic c) f w → False := by first | exact fun _ _ _ h => h | exact fun _ _ _ h => nomatch h.1) : WAL P ops S L n (fuel + 1) m f w Q := WAL.tk i v hi hd hb hs (fun _ _ => hy) hS k hQ
end
end Go
end
section
namespace Go
open Go.Ux Go.Proofs
abbrev Cx (g : Nat) (vs : Array Value) (w : World) (x : Value) : Prop := CallsR Tryz.prog g vs w fun v w' => v = x ∧ Ext w w'
end Go
namespace Go.Proofs.Tryz
theorem y2 : type_of% underlying2 := underlying2
theorem y3 : type_of% underlying3 := underlying3
theorem y4 : type_of% underlying4 := underlying4
theorem y5 : type_of% underlying5 := underlying5
theorem y9 : type_of% underlying9 := underlying9
theorem y21 : type_of% underlying21 := underlying21
theorem y23 : type_of% underlying23 := underlying23
theorem y26 : type_of% underlying26 := underlying26
theorem y28 : type_of% underlying28 := underlying28
theorem y34 : type_of% underlying34 := underlying34
theorem y39 : type_of% underlying39 := underlying39
theorem y45 : type_of% underlying45 := underlying45
theorem y49 : type_of% underlying49 := underlying49
theorem y50 : type_of% underlying50 := underlying50
theorem y59 : type_of% underlying59 := underlying59
theorem y81 : type_of% underlying81 := underlying81
theorem y83 : type_of% underlying83 := underlying83
theorem y128 : type_of% underlying128 := underlying128
theorem y144 : type_of% underlying144 := underlying144
theorem y146 : type_of% underlying146 := underlying146
theorem y163 : type_of% underlying163 := underlying163
theorem y178 : type_of% underlying178 := underlying178
theorem y204 : type_of% underlying204 := underlying204
end Go.Proofs.Tryz
end
section
namespace Go.Ux.Mach
open Go Go.Ux
structure RvForm where
 rd : Bool
 rs1 : Bool
 rs2 : Bool
 imm : List (Nat × Nat)
 noughts : Nat
 signed : Bool
 mask : BitVec 32
deriving DecidableEq
structure RvInst where
 op : BitVec 8
 rd : BitVec 8
 rs1 : BitVec 8
 rs2 : BitVec 8
 imm : BitVec 64
deriving DecidableEq
def bitsOf (b : Nat × Nat) (w : BitVec 32) : BitVec 32 := (w >>> b.1) &&& ((1#32 <<< b.2) - 1#32)
def widthL (n : Nat) (l : List (Nat × Nat)) : Nat := l.foldl (fun n b => n + b.2) n
def width (f : RvForm) : Nat := widthL f.noughts f.imm
def numberL (n : BitVec 64) (l : List (Nat × Nat)) (w : BitVec 32) : BitVec 64 := l.foldl (fun n b => (n <<< b.2) ||| (bitsOf b w).setWidth 64) n
def number (f : RvForm) (w : BitVec 32) : BitVec 64 :=
 let n := numberL 0#64 f.imm w <<< f.noughts
 if f.signed then BitVec.sshiftRight (n <<< (64 - width f)) (64 - width f) else n
def tog (l : List (BitVec 32)) : BitVec 32 := l.foldl (· ||| ·) 0#32
def zeroForm : RvForm := ⟨false, false, false, [], 0, false, 0⟩
inductive FK where | R | I | H | W | S | B | U | J | E | Z
deriving DecidableEq
def formOf : FK → RvForm
 | .R => ⟨true, true, true, [], 0, false, 4261441663⟩
 | .I => ⟨true, true, false, [(20, 12)], 0, true, 28799⟩
 | .H => ⟨true, true, false, [(20, 6)], 0, false, 4227887231⟩
 | .W => ⟨true, true, false, [(20, 5)], 0, false, 4261441663⟩
 | .S => ⟨false, true, true, [(25, 7), (7, 5)], 0, true, 28799⟩
 | .B => ⟨false, true, true, [(31, 1), (7, 1), (25, 6), (8, 4)], 1, true, 28799⟩
 | .U => ⟨true, false, false, [(12, 20)], 12, true, 127⟩
 | .J => ⟨true, false, false, [(31, 1), (12, 8), (20, 1), (21, 10)], 1, true, 127⟩
 | .E => ⟨false, false, false, [], 0, false, 4294967295⟩
 | .Z => zeroForm
structure RvRow where
 k : FK
 name : List UInt8
 mtch : BitVec 32
deriving DecidableEq
def RvRow.form (r : RvRow) : RvForm := formOf r.k
def tellsD (k : FK) (name : List UInt8) (a b c : BitVec 32) : RvRow := ⟨k, name, tog [a, b <<< 12, c <<< 25]⟩
def zeroRow : RvRow := ⟨.Z, [], 0⟩
def tableD : List RvRow := [zeroRow,
 tellsD .U [108, 117, 105] 55 0 0,
 tellsD .U [97, 117, 105, 112, 99] 23 0 0,
 tellsD .J [106, 97, 108] 111 0 0,
 tellsD .I [106, 97, 108, 114] 103 0 0,
 tellsD .B [98, 101, 113] 99 0 0,
 tellsD .B [98, 110, 101] 99 1 0,
 tellsD .B [98, 108, 116] 99 4 0,
 tellsD .B [98, 103, 101] 99 5 0,
 tellsD .B [98, 108, 116, 117] 99 6 0,
 tellsD .B [98, 103, 101, 117] 99 7 0,
 tellsD .I [108, 98] 3 0 0,
 tellsD .I [108, 104] 3 1 0,
 tellsD .I [108, 119] 3 2 0,
 tellsD .I [108, 100] 3 3 0,
 tellsD .I [108, 98, 117] 3 4 0,
 tellsD .I [108, 104, 117] 3 5 0,
 tellsD .I [108, 119, 117] 3 6 0,
 tellsD .S [115, 98] 35 0 0,
 tellsD .S [115, 104] 35 1 0,
 tellsD .S [115, 119] 35 2 0,
 tellsD .S [115, 100] 35 3 0,
 tellsD .I [97, 100, 100, 105] 19 0 0,
 tellsD .I [115, 108, 116, 105] 19 2 0,
 tellsD .I [115, 108, 116, 105, 117] 19 3 0,
 tellsD .I [120, 111, 114, 105] 19 4 0,
 tellsD .I [111, 114, 105] 19 6 0,
 tellsD .I [97, 110, 100, 105] 19 7 0,
 tellsD .H [115, 108, 108, 105] 19 1 0,
 tellsD .H [115, 114, 108, 105] 19 5 0,
 tellsD .H [115, 114, 97, 105] 19 5 32,
 tellsD .R [97, 100, 100] 51 0 0,
 tellsD .R [115, 117, 98] 51 0 32,
 tellsD .R [115, 108, 108] 51 1 0,
 tellsD .R [115, 108, 116] 51 2 0,
 tellsD .R [115, 108, 116, 117] 51 3 0,
 tellsD .R [120, 111, 114] 51 4 0,
 tellsD .R [115, 114, 108] 51 5 0,
 tellsD .R [115, 114, 97] 51 5 32,
 tellsD .R [111, 114] 51 6 0,
 tellsD .R [97, 110, 100] 51 7 0,
 tellsD .I [97, 100, 100, 105, 119] 27 0 0,
 tellsD .W [115, 108, 108, 105, 119] 27 1 0,
 tellsD .W [115, 114, 108, 105, 119] 27 5 0,
 tellsD .W [115, 114, 97, 105, 119] 27 5 32,
 tellsD .R [97, 100, 100, 119] 59 0 0,
 tellsD .R [115, 117, 98, 119] 59 0 32,
 tellsD .R [115, 108, 108, 119] 59 1 0,
 tellsD .R [115, 114, 108, 119] 59 5 0,
 tellsD .R [115, 114, 97, 119] 59 5 32,
 tellsD .R [109, 117, 108] 51 0 1,
 tellsD .R [109, 117, 108, 104] 51 1 1,
 tellsD .R [109, 117, 108, 104, 115, 117] 51 2 1,
 tellsD .R [109, 117, 108, 104, 117] 51 3 1,
 tellsD .R [100, 105, 118] 51 4 1,
 tellsD .R [100, 105, 118, 117] 51 5 1,
 tellsD .R [114, 101, 109] 51 6 1,
 tellsD .R [114, 101, 109, 117] 51 7 1,
 tellsD .R [109, 117, 108, 119] 59 0 1,
 tellsD .R [100, 105, 118, 119] 59 4 1,
 tellsD .R [100, 105, 118, 117, 119] 59 5 1,
 tellsD .R [114, 101, 109, 119] 59 6 1,
 tellsD .R [114, 101, 109, 117, 119] 59 7 1,
 tellsD .I [102, 101, 110, 99, 101] 15 0 0,
 tellsD .E [101, 99, 97, 108, 108] 115 0 0,
 tellsD .E [101, 98, 114, 101, 97, 107] 1048691 0 0]
def bitsCells (l : List (Nat × Nat)) : List Value := l.flatMap fun p => [IN p.1, IN p.2]
def formCells (v : Value) (f : RvForm) : List Value := [.bool f.rd, .bool f.rs1, .bool f.rs2, v, IN f.noughts, .bool f.signed, U32 f.mask]
def rowCells (iv : FK → Value) (r : RvRow) : List Value := formCells (iv r.k) (formOf r.k) ++ [St r.name, U32 r.mtch]
def rowVal (iv : Value) (r : RvRow) : Value := .agg (rowCells (fun _ => iv) r).toArray
theorem bitsCells_get (l : List (Nat × Nat)) (i : Nat) (h : i < l.length) : (bitsCells l)[i * 2]? = some (IN l[i].1) ∧ (bitsCells l)[i * 2 + 1]? = some (IN l[i].2) := by
 induction l generalizing i with
 | nil => simp at h
 | cons a r ih =>
  cases i with
  | zero => exact ⟨rfl, rfl⟩
  | succ i =>
   have := ih i (by simpa using h)
   simp only [List.getElem_cons_succ]
   rw [show (i + 1) * 2 = i * 2 + 2 by omega, show i * 2 + 2 + 1 = (i * 2 + 1) + 2 by omega]
   exact this
def Fine (f : RvForm) : Prop := f.imm.length ≤ 4 ∧ (∀ b ∈ f.imm, b.1 ≤ 31 ∧ b.2 ≤ 20) ∧ f.noughts ≤ 12 ∧ width f ≤ 32
instance (f : RvForm) : Decidable (Fine f) := by unfold Fine; infer_instance
theorem formOf_fine (k : FK) : Fine (formOf k) := by cases k <;> decide
theorem widthL_le (n : Nat) (l : List (Nat × Nat)) : n ≤ widthL n l := by
 induction l generalizing n with
 | nil => exact Nat.le_refl _
 | cons a r ih => exact Nat.le_trans (by omega) (ih (n + a.2))
theorem width_take (f : RvForm) (j : Nat) (h : j < f.imm.length) : widthL f.noughts (f.imm.take (j + 1)) = widthL f.noughts (f.imm.take j) + (f.imm[j]).2 := by
 unfold widthL
 rw [List.take_succ_eq_append_getElem h, List.foldl_append]; rfl
theorem width_take_le (f : RvForm) (j : Nat) : widthL f.noughts (f.imm.take j) ≤ width f := by
 have e : width f = widthL (widthL f.noughts (f.imm.take j)) (f.imm.drop j) := by
  unfold width widthL; rw [← List.foldl_append, List.take_append_drop]
 rw [e]; exact widthL_le _ _
theorem number_take (f : RvForm) (w : BitVec 32) (j : Nat) (h : j < f.imm.length) : numberL 0#64 (f.imm.take (j + 1)) w = (numberL 0#64 (f.imm.take j) w <<< (f.imm[j]).2) ||| (bitsOf f.imm[j] w).setWidth 64 := by
 unfold numberL
 rw [List.take_succ_eq_append_getElem h, List.foldl_append]; rfl
theorem tog_take (l : List (BitVec 32)) (j : Nat) (h : j < l.length) : tog (l.take (j + 1)) = tog (l.take j) ||| l[j] := by
 unfold tog
 rw [List.take_succ_eq_append_getElem h, List.foldl_append]; rfl
theorem ones_row {iv : Value} (h : iv.oneCell' = true) (p q r : Bool) (n : Nat) (g : Bool) (m : BitVec 32) (nm : List UInt8) (t : BitVec 32) :
  (Value.agg #[.bool p, .bool q, .bool r, iv, IN n, .bool g, U32 m, St nm, U32 t]).cells.toList.all (fun u => u.oneCell') = true := by simp only [Value.cells, List.all_cons, List.all_nil, h]; rfl
theorem tableD_length : tableD.length = 66 := rfl
def rvAt (i : Nat) : RvRow := tableD.getD i zeroRow
theorem rvAt_eq (i : Nat) (h : i < tableD.length) : tableD[i] = rvAt i := by unfold rvAt; rw [List.getD, List.getElem?_eq_getElem h]; rfl
end Go.Ux.Mach
namespace Go.Ux
open Go
section
variable {P : Program} {ops : Array Oper} {l : List Oper} {n : Nat} {f : Fr} {w : World} {Q : Exit → Fr → World → Prop}
variable {d : Nat} {ty : TypeId} {pos : String} {aft : Array Edge}
theorem WL.sliceArr {t e sz m : Nat} {x : Operand} {b : Nat} (ht : arrT P t = some (m, e)) (hz : sizeT P e = some sz) (hx : ev f x = ptr b 0) (hd : decide (d < n) = true)
  (k : WL P ops l n (upd f d (.slice (some ⟨b, 0, none⟩) m m)) w Q) : WL P ops (⟨some d, .slice t x none none none, ty, pos, aft, none⟩ :: l) n f w Q := by
 refine WL.val G hd (v := .slice (some ⟨b, 0, none⟩) m m) (w' := w) ?_ k
 unfold arrT at ht
 split at ht <;> try cases ht
 rename_i hu
 have e : ((⟨b, 0, none⟩ : Addr).add 0) = ⟨b, 0, none⟩ := by simp [Addr.add]
 simp [execOp, hx, Instr.sliceAt, run_underlying hu, Instr.sureAddr, Instr.sliceBounds, Instr.sliceBound, sizeT_run hz, Result.andThen, e]
end
def findRegion (id : Nat) : Code → List Oper
 | .region i ops _ => if i = id then ops.toList else []
 | .seq a b => findRegion id a ++ findRegion id b
 | .cond _ a b => findRegion id a ++ findRegion id b
 | .block _ a => findRegion id a
 | .loop a => findRegion id a
 | _ => []
def regionIn (fn : Func) (id : Nat) : List Oper := match fn.body with
 | some c => findRegion id c
 | none => []
end Go.Ux
end
section
set_option linter.unusedSimpArgs false
set_option linter.unusedVariables false
namespace Go.Proofs.M
open Go Go.Ux Go.Ux.Mach Go.Proofs
open Tryz
theorem fo125_0 : fieldOff prog 125 0 = some 0 := by kernel_rfl
theorem fo125_1 : fieldOff prog 125 1 = some 1 := by kernel_rfl
theorem fo116_4 : fieldOff prog 116 4 = some 4 := by kernel_rfl
theorem fo116_3 : fieldOff prog 116 3 = some 3 := by kernel_rfl
theorem el114 : elemT prog 114 = some 125 := by kernel_rfl
theorem sz125 : sizeT prog 125 = some 2 := by kernel_rfl
theorem ag125 : isAggT prog 125 = some true := by kernel_rfl
theorem zt125 : zeroT prog 125 = some #[.int .i64 0, .int .i64 0] := by kernel_rfl
theorem el23 : elemT prog 23 = some 50 := by kernel_rfl
theorem sz50 : sizeT prog 50 = some 1 := by kernel_rfl
theorem fo116_5 : fieldOff prog 116 5 = some 5 := by kernel_rfl
theorem ag116 : isAggT prog 116 = some true := by kernel_rfl
theorem sz116 : sizeT prog 116 = some 7 := by kernel_rfl
theorem fo118_0 : fieldOff prog 118 0 = some 0 := by kernel_rfl
theorem fo116_6 : fieldOff prog 116 6 = some 6 := by kernel_rfl
theorem fo118_2 : fieldOff prog 118 2 = some 8 := by kernel_rfl
theorem mixed : prog.follows .mixedOrders = true := by kernel_rfl
structure Glob (w : World) : Prop where
 rd : Cells w 0 0 [IN 7, IN 5]
 rs1 : Cells w 1 0 [IN 15, IN 5]
 rs2 : Cells w 2 0 [IN 20, IN 5]
 f3 : Cells w 4 0 [IN 12, IN 3]
 f7 : Cells w 5 0 [IN 25, IN 7]
theorem Glob.ext {w w' : World} (h : Glob w) (m : Ext w w') : Glob w' := ⟨h.rd.ext m, h.rs1.ext m, h.rs2.ext m, h.f3.ext m, h.f7.ext m⟩
theorem Sl.ofCells {w : World} {b n size : Nat} {xs : List Value} (h : Cells w b 0 xs) (hl : xs.length = n * size) : Sl w (Sv b n n) size n xs := ⟨_, n, rfl, Nat.le_refl _, hl, .inr ⟨b, 0, rfl, h⟩⟩
theorem u32_get (l : List (BitVec 32)) (j : Nat) (h : j < l.length) : (l.map U32)[j]? = some (U32 l[j]) := by simp [h]
theorem of_spec (b : Nat × Nat) (x : BitVec 32) (w : World) : Cx 66 #[.agg #[IN b.1, IN b.2], U32 x] w (U32 (bitsOf b x)) := by
 refine Co func66 G G ?_
 refine Sr (WL.box (v := .agg #[IN b.1, IN b.2]) G G ?_)
 intro b2 w2 n2
 have E1 : Ext w w2 := n2.ext
 refine Ae (U32 0#32) (Ni (Sq (WC.draw (fun w_ => Ext w2 w_) 10 G mixed ?_)))
 intro wd_1 ed_1
 have R2 : Ext w2 wd_1 := ed_1
 have E3 := Mt E1 ed_1
 refine Tm 0 (U32 x) G G R2 (Tp 1 (ptr b2 0) G G (Fa G fo125_0 Ok) R2 (Tk 2 (IN b.1) G G (fun _ hS => Le ((n2.blk.ext hS).cell (j := 0) G) Ok) R2 (Tp 3 (U32 ((x >>> b.1))) G G (Bn G G BinR.shrU32 Ok) R2 (Tp 4 (ptr b2 1) G G (Fa G fo125_1 Ok) R2 (Tk 5 (IN b.2) G G (fun _ hS => Le ((n2.blk.ext hS).cell (j := 1) G) Ok) R2 (Tp 6 (U32 ((1#32 <<< b.2))) G G (Bn (vx := U32 1#32) G G BinR.shlU32 Ok) R2 (Tp 7 (U32 (((1#32 <<< b.2) - 1#32))) G G (Bn (vy := U32 1#32) G G BinR.subU32 Ok) R2 (Tp 8 (U32 (((x >>> b.1) &&& ((1#32 <<< b.2) - 1#32)))) G G (Bn G G BinR.andU32 Ok) R2 (Tm 9 (U32 (((x >>> b.1) &&& ((1#32 <<< b.2) - 1#32)))) G G R2 (WA.done (by kernel_rfl) (WC.ret ?_)))))))))))
 exact ⟨_, Ro G G, G, E3⟩
theorem width_spec (fm : RvForm) (iv : Value) (w : World) (hI : Sl w iv 2 fm.imm.length (bitsCells fm.imm)) (hf : Fine fm) : Cx 85 #[.agg #[.bool fm.rd, .bool fm.rs1, .bool fm.rs2, iv, IN fm.noughts, .bool fm.signed, U32 fm.mask]] w (IN (width fm)) := by
 obtain ⟨hf1, hf2, hf3, hf4⟩ := hf
 refine Co func85 G G ?_
 refine Sr (WL.box (v := .agg #[.bool fm.rd, .bool fm.rs1, .bool fm.rs2, iv, IN fm.noughts, .bool fm.signed, U32 fm.mask]) G G ?_)
 intro b1 w1 n1
 have E1 : Ext w w1 := n1.ext
 refine Ae (IN 0) (Ni (Sr (Fa G fo116_4 (Le (n1.blk.cell (j := 4) G) (Ae (IN fm.noughts) (Ni (Sq (Sr (Fa G fo116_3 (Le (n1.blk.cell (j := 3) G) (WL.lenSl (sz := 2) (m := fm.imm.length) (xs := bitsCells fm.imm) el114 G (hI.ext' E1) G (Me (IN 0) (Ni (Bk ?_))))))))))))))
 refine WC.loop (fun k f w_ => ∃ j, (k + j = fm.imm.length) ∧ f 0 = .agg #[.bool fm.rd, .bool fm.rs1, .bool fm.rs2, iv, IN fm.noughts, .bool fm.signed, U32 fm.mask] ∧ f 1 = ptr b1 0 ∧ f 2 = IN 0 ∧ f 3 = IN (widthL fm.noughts (fm.imm.take j)) ∧ f 6 = ptr b1 4 ∧ f 7 = IN fm.noughts ∧ f 8 = ptr b1 3 ∧ f 9 = iv ∧ f 10 = IN fm.imm.length ∧ f 11 = IN j ∧ (Ext w w_)) fm.imm.length ?_ ?_
 ·exact ⟨0, by omega, G, G, G, G, G, G, G, G, G, G, E1⟩
 rintro k f1 wr ⟨j, hk1, h0_1, h1_1, h2_1, h3_1, h6_1, h7_1, h8_1, h9_1, h10_1, h11_1, hE⟩
 refine Sr (Bn h11_1 h10_1 BinR.lss (Ni (Sq ?_)))
 refine WC.cond G (fun hc12 => ?_) (fun hc12 => ?_)
 ·have hj : j < fm.imm.length := by have := of_decide_eq_true hc12; omega
  obtain ⟨bi, oi, ci, ei, hci⟩ := hI.at (by omega)
  have hbj := hf2 _ (List.getElem_mem hj)
  have hwj := width_take_le fm (j + 1)
  rw [width_take fm j hj] at hwj
  refine WC.skip (Sq (Bk (Sr (WL.indexAddr (i := j) (b := bi) (o := oi) el114 sz125 (Eq.trans h9_1 ei) h11_1 (by omega) G (WL.loadS [IN ((fm.imm[j]).1), IN ((fm.imm[j]).2)] G ag125 sz125 G (cells2 (hci.ext hE) (bitsCells_get fm.imm j hj).1 (bitsCells_get fm.imm j hj).2) G (WL.allocStore (v := .agg #[IN ((fm.imm[j]).1), IN ((fm.imm[j]).2)]) zt125 G sz125 G G G G ?_))))))
  intro b5 w5 n5
  have E3 := Mt hE n5.ext
  refine Ni (Rg (Mv (IN (widthL fm.noughts (fm.imm.take j))) h3_1 (Fa G fo125_1 (Le (n5.blk.cell (j := 1) G) (Bn G G (BinR.addN (by omega)) (Ae (IN ((widthL fm.noughts (fm.imm.take j) + (fm.imm[j]).2))) (Ni (Rg (Bn h11_1 G (BinR.succN (by omega)) (Me (IN (j + 1)) (Ni ?_)))))))))))
  exact ⟨k - 1, by omega, (j + 1), by omega, h0_1, h1_1, h2_1, congrArg IN (width_take fm j hj).symm, h6_1, h7_1, h8_1, h9_1, h10_1, G, E3⟩
 ·have hj : fm.imm.length ≤ j := by have := of_decide_eq_false hc12; omega
  have htk : fm.imm.take j = fm.imm := List.take_of_length_le hj
  refine WC.exit (Sr (Mv (IN (widthL fm.noughts (fm.imm.take j))) h3_1 (Ae (IN (widthL fm.noughts (fm.imm.take j))) (Ni (WC.ret ?_)))))
  exact ⟨_, Res.one (v := IN (widthL fm.noughts (fm.imm.take j))) G G, (by rw [htk]; rfl), hE⟩
theorem together_spec (sv : Value) (l : List (BitVec 32)) (w : World) (hS : Sl w sv 1 l.length (l.map U32)) (hl : l.length ≤ 100) : Cx 51 #[sv] w (U32 (tog l)) := by
 refine Co func51 G G ?_
 refine Sr (Ae (U32 0#32) (Ni (Sr (Ae (U32 0#32) (Ni (Sq (Sr (Me sv (WL.lenSl (sz := 1) (m := l.length) (xs := l.map U32) el23 G hS G (Me (IN 0) (Ni (Bk ?_))))))))))))
 refine WC.loop (fun k f w_ => ∃ j, (k + j = l.length) ∧ f 0 = sv ∧ f 2 = U32 0#32 ∧ f 3 = U32 (tog (l.take j)) ∧ f 6 = sv ∧ f 7 = IN l.length ∧ f 8 = IN j ∧ (Ext w w_)) l.length ?_ ?_
 ·exact ⟨0, by omega, G, G, G, G, G, G, Mod.refl _ _⟩
 rintro k f1 wr ⟨j, hk1, h0_1, h2_1, h3_1, h6_1, h7_1, h8_1, hE⟩
 refine Sr (Bn h8_1 h7_1 BinR.lss (Ni (Sq ?_)))
 refine WC.cond G (fun hc9 => ?_) (fun hc9 => ?_)
 ·have hj : j < l.length := by have := of_decide_eq_true hc9; omega
  refine WC.skip (Sq (Bk (Sr (WL.indexSl (sz := 1) (m := l.length) (xs := l.map U32) (i := j) el23 sz50 h6_1 h8_1 (by omega) (hS.ext' hE) G ?_))))
  intro b10 o10 hb10 hc10
  refine Lx G (hc10 (j * 1) _ (by rw [Nat.mul_one]; exact u32_get l j hj)) (Ae (U32 (l[j])) (Ni (Rg (Mv (U32 (tog (l.take j))) h3_1 (Me (U32 (l[j])) (Bn G G BinR.orU32 (Ae (U32 ((tog (l.take j) ||| l[j]))) (Ni (Rg (Bn h8_1 G (BinR.succN (by omega)) (Me (IN (j + 1)) (Ni ?_))))))))))))
  exact ⟨k - 1, by omega, (j + 1), by omega, h0_1, h2_1, congrArg U32 (tog_take l j hj).symm, h6_1, h7_1, G, hE⟩
 ·have hj : l.length ≤ j := by have := of_decide_eq_false hc9; omega
  have htk : l.take j = l := List.take_of_length_le hj
  refine WC.exit (Sr (Mv (U32 (tog (l.take j))) h3_1 (Ae (U32 (tog (l.take j))) (Ni (WC.ret ?_)))))
  exact ⟨_, Res.one (v := U32 (tog (l.take j))) G G, (by rw [htk]), hE⟩
theorem number_spec (fm : RvForm) (iv : Value) (x : BitVec 32) (w : World) (hI : Sl w iv 2 fm.imm.length (bitsCells fm.imm)) (hf : Fine fm) : Cx 65 #[.agg #[.bool fm.rd, .bool fm.rs1, .bool fm.rs2, iv, IN fm.noughts, .bool fm.signed, U32 fm.mask], U32 x] w (I64 (number fm x)) := by
 have hf0 := hf
 obtain ⟨hf1, hf2, hf3, hf4⟩ := hf0
 refine Co func65 G G ?_
 refine Sr (WL.box (v := .agg #[.bool fm.rd, .bool fm.rs1, .bool fm.rs2, iv, IN fm.noughts, .bool fm.signed, U32 fm.mask]) G G ?_)
 intro b2 w2 n2
 have E1 : Ext w w2 := n2.ext
 refine Ae (I64 0#64) (Ni (Sr (Ae (I64 0#64) (Ni (Sq (Sr (Fa G fo116_3 (Le (n2.blk.cell (j := 3) G) (WL.lenSl (sz := 2) (m := fm.imm.length) (xs := bitsCells fm.imm) el114 G (hI.ext' E1) G (Me (IN 0) (Ni (Bk ?_))))))))))))
 refine WC.loop (fun k f w_ => ∃ j, (k + j = fm.imm.length) ∧ f 0 = .agg #[.bool fm.rd, .bool fm.rs1, .bool fm.rs2, iv, IN fm.noughts, .bool fm.signed, U32 fm.mask] ∧ f 1 = U32 x ∧ f 2 = ptr b2 0 ∧ f 4 = I64 0#64 ∧ f 5 = I64 (numberL 0#64 (fm.imm.take j) x) ∧ f 8 = ptr b2 3 ∧ f 9 = iv ∧ f 10 = IN fm.imm.length ∧ f 11 = IN j ∧ (Ext w w_) ∧ (Blk w_ b2 #[.bool fm.rd, .bool fm.rs1, .bool fm.rs2, iv, IN fm.noughts, .bool fm.signed, U32 fm.mask] 116)) fm.imm.length ?_ ?_
 ·exact ⟨0, by omega, G, G, G, G, G, G, G, G, G, E1, n2.blk⟩
 rintro k f1 wr ⟨j, hk1, h0_1, h1_1, h2_1, h4_1, h5_1, h8_1, h9_1, h10_1, h11_1, hE, hB2⟩
 refine Sr (Bn h11_1 h10_1 BinR.lss (Ni (Sq ?_)))
 refine WC.cond G (fun hc12 => ?_) (fun hc12 => ?_)
 ·have hj : j < fm.imm.length := by have := of_decide_eq_true hc12; omega
  obtain ⟨bi, oi, ci, ei, hci⟩ := hI.at (by omega)
  have hbj := hf2 _ (List.getElem_mem hj)
  have hwj := width_take_le fm (j + 1)
  rw [width_take fm j hj] at hwj
  refine WC.skip (Sq (Bk (Sr (WL.indexAddr (i := j) (b := bi) (o := oi) el114 sz125 (Eq.trans h9_1 ei) h11_1 (by omega) G (WL.loadS [IN ((fm.imm[j]).1), IN ((fm.imm[j]).2)] G ag125 sz125 G (cells2 (hci.ext hE) (bitsCells_get fm.imm j hj).1 (bitsCells_get fm.imm j hj).2) G (WL.allocStore (v := .agg #[IN ((fm.imm[j]).1), IN ((fm.imm[j]).2)]) zt125 G sz125 G G G G ?_))))))
  intro b7 w7 n7
  have E3 := Mt hE n7.ext
  refine Ni (WC.draw (fun w_ => Ext w7 w_) 10 G mixed ?_)
  intro wd_5 ed_5
  have R5 : Ext w7 wd_5 := ed_5
  have E6 := Mt E3 ed_5
  refine Tp 0 (I64 (numberL 0#64 (fm.imm.take j) x)) G G (Mv (I64 (numberL 0#64 (fm.imm.take j) x)) h5_1 Ok) R5 (Tp 1 (ptr b7 1) G G (Fa G fo125_1 Ok) R5 (Tk 2 (IN ((fm.imm[j]).2)) G G (fun _ hS => Le ((n7.blk.ext hS).cell (j := 1) G) Ok) R5 (Tp 3 (I64 ((numberL 0#64 (fm.imm.take j) x <<< ((fm.imm[j]).2)))) G G (Bn G G BinR.shl64 Ok) R5 (Tk 4 (.agg #[IN ((fm.imm[j]).1), IN ((fm.imm[j]).2)]) G G (fun _ hS => Se _ (n7.blk.ext hS) Ok) R5 (Tp 5 (U32 x) G G (Mv (U32 x) h1_1 Ok) R5 (WA.one (i := 6) (m' := 127) (by kernel_rfl) G G (Ca (of_spec (fm.imm[j]) x _) ?_)))))))
  rintro _ wd21 ⟨rfl, ed21⟩
  have R16 := Mt R5 ed21
  have E17 := Mt E6 ed21
  refine WL.behind R16 (Tp 7 (I64 ((bitsOf (fm.imm[j]) x).setWidth 64)) G G (Cv G (ConvR.u32i64 y50 y2) Ok) R16 (Tp 8 (I64 (((numberL 0#64 (fm.imm.take j) x <<< ((fm.imm[j]).2)) ||| (bitsOf (fm.imm[j]) x).setWidth 64))) G G (Bn G G BinR.or64 Ok) R16 (Tm 9 (I64 (((numberL 0#64 (fm.imm.take j) x <<< ((fm.imm[j]).2)) ||| (bitsOf (fm.imm[j]) x).setWidth 64))) G G R16 (WA.done (by kernel_rfl) (Rg (Bn h11_1 G (BinR.succN (by omega)) (Me (IN (j + 1)) (Ni ?_))))))))
  have B21 := ((hB2.ext n7.ext).ext ed_5).ext ed21
  exact ⟨k - 1, by omega, (j + 1), by omega, h0_1, h1_1, h2_1, h4_1, congrArg I64 (number_take fm x j hj).symm, h8_1, h9_1, h10_1, G, E17, B21⟩
 ·have hj : fm.imm.length ≤ j := by have := of_decide_eq_false hc12; omega
  have htk : fm.imm.take j = fm.imm := List.take_of_length_le hj
  refine WC.exit (Sr (Mv (I64 (numberL 0#64 (fm.imm.take j) x)) h5_1 (Fa h2_1 fo116_4 (Le (hB2.cell (j := 4) G) (Bn G G BinR.shl64 (Ae (I64 ((numberL 0#64 (fm.imm.take j) x <<< fm.noughts))) (Ni (Sq (Sr (Fa h2_1 fo116_5 (Le (hB2.cell (j := 5) G) (Ni ?_))))))))))))
  refine WC.cond G (fun hc30 => ?_) (fun hc30 => ?_)
  ·refine WC.draw (fun w_ => Ext wr w_) 10 G mixed ?_
   intro wd_9 ed_9
   have R23 : Ext wr wd_9 := ed_9
   have E24 := Mt hE ed_9
   refine Tm 0 (I64 ((numberL 0#64 (fm.imm.take j) x <<< fm.noughts))) G G R23 (Tk 1 (.agg #[.bool fm.rd, .bool fm.rs1, .bool fm.rs2, iv, IN fm.noughts, .bool fm.signed, U32 fm.mask]) G G (fun _ hS => Ls _ h2_1 ag116 sz116 ((hB2.ext hS)) Ok) R23 (Tk 5 (.agg #[.bool fm.rd, .bool fm.rs1, .bool fm.rs2, iv, IN fm.noughts, .bool fm.signed, U32 fm.mask]) G G (fun _ hS => Ls _ h2_1 ag116 sz116 ((hB2.ext hS)) Ok) R23 (WA.one (i := 2) (m' := 39) (by kernel_rfl) G G (Ca (width_spec fm iv _ (hI.ext' E24) hf) ?_))))
   rintro _ wd33 ⟨rfl, ed33⟩
   have R31 := Mt R23 ed33
   have E32 := Mt E24 ed33
   refine WL.behind R31 (Tp 3 (IN ((64 - width fm))) G G (Bn G G (BinR.subN (a := 64) (b := width fm) (by omega) (by omega)) Ok) R31 (Tp 4 (I64 (((numberL 0#64 (fm.imm.take j) x <<< fm.noughts) <<< ((64 - width fm))))) G G (Bn G G BinR.shl64 Ok) R31 (WA.one (i := 6) (m' := 127) (by kernel_rfl) G G (Ca (width_spec fm iv _ (hI.ext' E32) hf) ?_))))
   rintro _ wd37 ⟨rfl, ed37⟩
   have R36 := Mt R31 ed37
   have E37 := Mt E32 ed37
   refine WL.behind R36 (Tp 7 (IN ((64 - width fm))) G G (Bn G G (BinR.subN (a := 64) (b := width fm) (by omega) (by omega)) Ok) R36 (Tp 8 (I64 ((BitVec.sshiftRight (((numberL 0#64 (fm.imm.take j) x <<< fm.noughts) <<< ((64 - width fm)))) ((64 - width fm))))) G G (Bn G G BinR.shr64 Ok) R36 (Tm 9 (I64 ((BitVec.sshiftRight (((numberL 0#64 (fm.imm.take j) x <<< fm.noughts) <<< ((64 - width fm)))) ((64 - width fm))))) G G R36 (WA.done (by kernel_rfl) (Sr (Me (I64 ((BitVec.sshiftRight (((numberL 0#64 (fm.imm.take j) x <<< fm.noughts) <<< ((64 - width fm)))) ((64 - width fm))))) (Ae (I64 ((BitVec.sshiftRight (((numberL 0#64 (fm.imm.take j) x <<< fm.noughts) <<< ((64 - width fm)))) ((64 - width fm))))) (Ni (WC.ret ?_)))))))))
   have hfin : ((I64 ((BitVec.sshiftRight (((numberL 0#64 (fm.imm.take j) x <<< fm.noughts) <<< ((64 - width fm)))) ((64 - width fm))))) : Value) = I64 (number fm x) := congrArg I64 (by unfold number; rw [← htk]; simp only [hc30, htk]; rfl)
   exact ⟨_, Ro G G, hfin, E37⟩
  ·refine WC.skip (Sr (Me (I64 ((numberL 0#64 (fm.imm.take j) x <<< fm.noughts))) (Ae (I64 ((numberL 0#64 (fm.imm.take j) x <<< fm.noughts))) (Ni (WC.ret ?_)))))
   have hfin : ((I64 ((numberL 0#64 (fm.imm.take j) x <<< fm.noughts))) : Value) = I64 (number fm x) := congrArg I64 (by unfold number; rw [← htk]; simp only [hc30, htk]; rfl)
   exact ⟨_, Ro G G, hfin, hE⟩
def rowIs (r : RvRow) (x : BitVec 32) : Bool := (r.form.mask != 0#32) && ((x &&& r.form.mask) == r.mtch)
def mayF (has : Bool) (n : BitVec 8) : Bool := BitVec.ult n 32#8 && (has || (n == 0#8))
theorem rowIs_spec (r : RvRow) (iv : Value) (bw : Nat) (x : BitVec 32) (w : World) (hW : Blk w bw #[U32 x] 50) : Cx 64 #[.agg #[.bool r.form.rd, .bool r.form.rs1, .bool r.form.rs2, iv, IN r.form.noughts, .bool r.form.signed, U32 r.form.mask, St r.name, U32 r.mtch], ptr bw 0] w (.bool (rowIs r x)) := by
 refine Co func64 G G ?_
 refine Sr (WL.box (v := .agg #[.bool r.form.rd, .bool r.form.rs1, .bool r.form.rs2, iv, IN r.form.noughts, .bool r.form.signed, U32 r.form.mask, St r.name, U32 r.mtch]) G G ?_)
 intro b2 w2 n2
 have E1 : Ext w w2 := n2.ext
 refine Ae (.bool false) (Ni (Sr (Fa G fo118_0 (Fa G fo116_6 (Le (n2.blk.cell (j := 6) G) (Bn (vy := U32 0#32) G G BinR.neqU32 (Me (.bool ((r.form.mask != 0#32))) ?_)))))))
 rcases Bool.eq_false_or_eq_true ((r.form.mask != 0#32)) with hg8 | hg8
 ·refine Gy hg8 ?_
  have B2 := hW.ext n2.ext
  refine Le (B2.cell (j := 0) G) (Gy hg8 (Fa G fo118_0 (Gy hg8 (Fa G fo116_6 (Gy hg8 (Le (n2.blk.cell (j := 6) G) (Gy hg8 (Bn G G BinR.andU32 (Gy hg8 (Fa G fo118_2 (Gy hg8 (Le (n2.blk.cell (j := 8) G) (Gy hg8 (Bn G G BinR.eqlU32 (Qt hg8 G (Ae (.bool (((x &&& r.form.mask) == r.mtch))) (Ni (WC.ret ?_))))))))))))))))))
  have hfin : ((.bool (((x &&& r.form.mask) == r.mtch))) : Value) = Value.bool (rowIs r x) := congrArg Value.bool (by simp only [rowIs, *, Bool.true_or, Bool.or_true, Bool.false_or, Bool.or_false, Bool.true_and, Bool.and_true, Bool.false_and, Bool.and_false])
  exact ⟨_, Ro G G, hfin, E1⟩
 ·refine Gz hg8 (Gz hg8 (Gz hg8 (Gz hg8 (Gz hg8 (Gz hg8 (Gz hg8 (Gz hg8 (Qf hg8 G (Ae (.bool false) (Ni (WC.ret ?_)))))))))))
  have hfin : ((.bool false) : Value) = Value.bool (rowIs r x) := congrArg Value.bool (by simp only [rowIs, *, Bool.true_or, Bool.or_true, Bool.false_or, Bool.or_false, Bool.true_and, Bool.and_true, Bool.false_and, Bool.and_false])
  exact ⟨_, Ro G G, hfin, E1⟩
theorem may_spec (has : Bool) (n : BitVec 8) (w : World) : Cx 49 #[.bool has, U8 n] w (.bool (mayF has n)) := by
 refine Co func49 G G ?_
 refine Sr (Ae (.bool false) (Ni (Sr (Me (U8 n) (Bn (vy := U8 32#8) G G BinR.lssU8 (Me (.bool (BitVec.ult n 32#8)) ?_))))))
 rcases Bool.eq_false_or_eq_true (BitVec.ult n 32#8) with hg7 | hg7
 ·refine Gy hg7 (Me (.bool has) (Gy hg7 (Me (.bool has) ?_)))
  rcases Bool.eq_false_or_eq_true has with hg9 | hg9
  ·refine Gz hg9 (Gz hg9 (Gy hg7 (Qt hg9 G (Qt hg7 G (Ae (.bool true) (Ni (WC.ret ?_)))))))
   have hfin : ((.bool true) : Value) = Value.bool (mayF has n) := congrArg Value.bool (by simp only [mayF, *, Bool.true_or, Bool.or_true, Bool.false_or, Bool.or_false, Bool.true_and, Bool.and_true, Bool.false_and, Bool.and_false])
   exact ⟨_, Ro G G, hfin, Mod.refl _ _⟩
  ·refine Gy hg9 (Me (U8 n) (Gy hg9 (Bn (vy := U8 0#8) G G BinR.eqlU8 (Gy hg7 (Qf hg9 G (Qt hg7 G (Ae (.bool ((n == 0#8))) (Ni (WC.ret ?_)))))))))
   have hfin : ((.bool ((n == 0#8))) : Value) = Value.bool (mayF has n) := congrArg Value.bool (by simp only [mayF, *, Bool.true_or, Bool.or_true, Bool.false_or, Bool.or_false, Bool.true_and, Bool.and_true, Bool.false_and, Bool.and_false])
   exact ⟨_, Ro G G, hfin, Mod.refl _ _⟩
 ·refine Gz hg7 (Gz hg7 (WL.guardU G G (WL.guardU G G (Gz hg7 (Qf hg7 G (Ae (.bool false) (Ni (WC.ret ?_))))))))
  have hfin : ((.bool false) : Value) = Value.bool (mayF has n) := congrArg Value.bool (by simp only [mayF, *, Bool.true_or, Bool.or_true, Bool.false_or, Bool.or_false, Bool.true_and, Bool.and_true, Bool.false_and, Bool.and_false])
  exact ⟨_, Ro G G, hfin, Mod.refl _ _⟩
end Go.Proofs.M
end
section
namespace Go.Proofs.YtlabgjcjccdjfaaGreatDoor.Condition
open Go.ChangeShapes Go.WideShapes Go.ChangeAt Go.RowKit Go.Ux Go.Deep Go.Joins Go.Proofs.M
theorem own : ownKnob Tryz.prog.godebug = none := by kernel_rfl
theorem laidOut : laidOutB Tryz.prog = true := by kernel_rfl
theorem rt : (Tryz.prog.cutTypes.find? (·.1 == "internal/reflectlite.rtype")).map (·.2) = some 206 := by kernel_rfl
theorem oneRow : ((List.range Tryz.prog.types.size).filter fun t => Tryz.prog.rowNamed t [101, 114, 114, 111, 114]) = [83] := by kernel_rfl
theorem handle83 : typeHandle Tryz.prog 83 = .pointer (some ⟨6, 83, none⟩) := by kernel_rfl
theorem c125 : Tryz.prog.cellsOf 125 = 2 := by kernel_rfl
theorem ones : oneCellFields Tryz.prog #[{ name := "from", type := 3, offset := 0, embedded := false, tag := "", pkgPath := "proofmark/rv", byteOffset := 0 }, { name := "many", type := 3, offset := 1, embedded := false, tag := "", pkgPath := "proofmark/rv", byteOffset := 8 }] = true := by kernel_rfl
theorem gE : Tryz.prog.globalNamed "errors.errorType" = some 3 := by kernel_rfl
theorem g0 : Tryz.prog.globalNamed "proofmark/rv.rd" = some 0 := by kernel_rfl
theorem g1 : Tryz.prog.globalNamed "proofmark/rv.rs1" = some 1 := by kernel_rfl
theorem g2 : Tryz.prog.globalNamed "proofmark/rv.rs2" = some 2 := by kernel_rfl
theorem g4 : Tryz.prog.globalNamed "proofmark/rv.f3" = some 4 := by kernel_rfl
theorem g5 : Tryz.prog.globalNamed "proofmark/rv.f7" = some 5 := by kernel_rfl
theorem t0 : (Tryz.prog.globals[0]?).map (·.type) = some 125 := by kernel_rfl
theorem t1 : (Tryz.prog.globals[1]?).map (·.type) = some 125 := by kernel_rfl
theorem t2 : (Tryz.prog.globals[2]?).map (·.type) = some 125 := by kernel_rfl
theorem t4 : (Tryz.prog.globals[4]?).map (·.type) = some 125 := by kernel_rfl
theorem t5 : (Tryz.prog.globals[5]?).map (·.type) = some 125 := by kernel_rfl
def list : List (String × DataW Unit) := [("errors.errorType", Rows.laid_errors_errorType), ("proofmark/rv.rd", Rows.laid_proofmark_rv_rd), ("proofmark/rv.f3", Rows.laid_proofmark_rv_f3), ("proofmark/rv.rs1", Rows.laid_proofmark_rv_rs1), ("proofmark/rv.rs2", Rows.laid_proofmark_rv_rs2), ("proofmark/rv.f7", Rows.laid_proofmark_rv_f7)]
def Reads (w : World) (n : String) (d : DataW Unit) : Prop :=
 ∃ g t cs fuel p, Tryz.prog.globalNamed n = some g ∧ (Tryz.prog.globals[g]?).map (·.type) = some t ∧ w.var? Tryz.prog n = some cs ∧ DataW.trod (fun _ => ()) Tryz.prog w 0 (fun _ => true) false fuel t cs.toList = some (d, p)
theorem vars_reads {w : World} : ∀ {l : List (String × DataW Unit)} {ps : List MemPlace}, DataW.LaidVars Tryz.prog w l ps → ∀ n d, (n, d) ∈ l → Reads w n d
 | [], _, _, _, _, hm => by cases hm
 | (n', d') :: r, ps, h, n, d, hm => by
  obtain ⟨g, t, cs, fuel, p, q, h1, h2, h3, h4, h5, _⟩ := h
  rcases List.mem_cons.1 hm with e | e
  ·cases e
   exact ⟨g, t, cs, fuel, p, h1, h2, h3, h4⟩
  ·exact vars_reads h5 n d e
theorem two_cells {P : Program} {w : World} {base : Nat} {sp : Nat → Bool} {held : Bool} {f0 f1 : Field} {t : TypeId} {fuel : Nat} {cs : List Value} {x y : Int} {p : List MemPlace} (ht : P.underlying t = some (.struct #[f0, f1])) (hone : oneCellFields P #[f0, f1] = true) (hC : P.cellsOf t = 2)
  (h0 : P.underlying f0.type = some (.int .i64)) (h1 : P.underlying f1.type = some (.int .i64)) (h : DataW.trod (fun _ => ()) P w base sp held fuel t cs = some (.agg [.lit (.int .i64 x), .lit (.int .i64 y)], p)) : cs = [.int .i64 x, .int .i64 y] := by
 obtain ⟨y0, y1, m, hx, hl, k0, k1⟩ := trod_struct2 ht h
 obtain ⟨o0, n0⟩ := hone_of hone 0 f0 rfl
 obtain ⟨o1, n1⟩ := hone_of hone 1 f1 rfl
 obtain ⟨c0, c1, rfl⟩ : ∃ c0 c1, cs = [c0, c1] := by
  match cs, hl.trans hC with
  | [a, b], _ => exact ⟨a, b, rfl⟩
 obtain ⟨z0, e0, q0, _⟩ := DataW.trod_int h0 k0
 obtain ⟨z1, e1, q1, _⟩ := DataW.trod_int h1 k1
 subst q0 q1
 simp only [Prod.mk.injEq, DataW.agg.injEq, List.cons.injEq, DataW.lit.injEq, Lit.int.injEq, true_and, and_true] at hx
 obtain ⟨⟨rfl, rfl⟩, _⟩ := hx
 have e0' : c0 = .int .i64 x := by simpa [o0, n0] using e0
 have e1' : c1 = .int .i64 y := by simpa [o1, n1] using e1
 rw [e0', e1']
theorem two {w : World} {n : String} {g : Nat} {x y : Int} (h : Reads w n (.agg [.lit (.int .i64 x), .lit (.int .i64 y)])) (hg : Tryz.prog.globalNamed n = some g) (ht : (Tryz.prog.globals[g]?).map (·.type) = some 125) :
  Cells w g 0 [.int .i64 x, .int .i64 y] := by
 obtain ⟨g', t', cs, fuel, p, h1, h2, h3, h4⟩ := h
 obtain rfl := Option.some.inj (hg.symm.trans h1)
 obtain rfl := Option.some.inj (ht.symm.trans h2)
 have e := two_cells Tryz.underlying125 ones c125 Tryz.underlying3 Tryz.underlying3 h4
 intro j u hj
 rw [Nat.zero_add, ← hj, ← e, Array.getElem?_toList]
 exact World.var?_cell hg h3 j
theorem opened {w : World} (h : laidMetH Tryz.prog list w) : Glob w ∧ w.cell? ⟨3, 0, none⟩ = some (.iface 206 (.agg #[.pointer (some ⟨6, 83, none⟩)])) := by
 have h' : laidMet Tryz.prog list.tail w ∧ handlesMet Tryz.prog [("errors.errorType", Rows.laid_errors_errorType)] w := h
 obtain ⟨⟨ps, hv, _⟩, hH⟩ := h'
 refine ⟨⟨two (vars_reads hv _ _ (by simp [list, Rows.laid_proofmark_rv_rd])) g0 t0, two (vars_reads hv _ _ (by simp [list, Rows.laid_proofmark_rv_rs1])) g1 t1, two (vars_reads hv _ _ (by simp [list, Rows.laid_proofmark_rv_rs2])) g2 t2,
  two (vars_reads hv _ _ (by simp [list, Rows.laid_proofmark_rv_f3])) g4 t4, two (vars_reads hv _ _ (by simp [list, Rows.laid_proofmark_rv_f7])) g5 t5⟩, ?_⟩
 obtain ⟨name, u, ty, e1, e2, e3, e4, e5⟩ := hH _ (List.mem_singleton.2 rfl)
 have en : name = [101, 114, 114, 111, 114] := (Option.some.inj e1).symm
 subst en
 obtain rfl := Option.some.inj (rt.symm.trans e2)
 have hm : ty ∈ (List.range Tryz.prog.types.size).filter fun t => Tryz.prog.rowNamed t [101, 114, 114, 111, 114] := List.mem_filter.2 ⟨List.mem_range.2 e3, e4⟩
 rw [oneRow] at hm
 obtain rfl := List.mem_singleton.1 hm
 rw [handle83] at e5
 simpa using World.var?_cell gE e5 0
noncomputable def laidWorld (os : Os) : World :=
 { World.holding Tryz.prog os ⟨#[], #[], []⟩ with heap := ((((((World.holding Tryz.prog os ⟨#[], #[], []⟩).heap.modify 0 (put #[IN 7, IN 5])).modify 1 (put #[IN 15, IN 5])).modify 2 (put #[IN 20, IN 5])).modify 3 (put #[.iface 206 (.agg #[.pointer (some ⟨6, 83, none⟩)])])).modify 4 (put #[IN 12, IN 3])).modify 5 (put #[IN 25, IN 7]) }
where put (cs : Array Value) : Obj → Obj
 | .cells _ t frozen => .cells cs t frozen
 | o => o
theorem laid_met (os : Os) (args : Array Value) : laidMetH Tryz.prog list ((laidWorld os).forCall (fun _ _ => 0) ⟨#[], args, []⟩).memory :=
 laidMetH_of_parts (laidMet_of_run' 8 (by kernel_rfl) (by kernel_rfl)) (by kernel_rfl)
end Go.Proofs.YtlabgjcjccdjfaaGreatDoor.Condition
end
section
namespace Go.Ux
open Go
section
variable {P : Program} {H : Type} {enc : TypeId × Value → H} {w : World} {base : Nat} {held : Bool}
open Go.ChangeShapes Go.WideShapes Go.RowKit Go.Deep Go.Joins Go.Ux.Image
end
end Go.Ux
end
section
namespace Go.Ux.Mach
open Go Go.Ux
def signW (x : BitVec 64) (m : Nat) : BitVec 64 := BitVec.sshiftRight (x <<< (64 - m)) (64 - m)
def bitW (b : Bool) : BitVec 64 := if b then 1#64 else 0#64
def hiW (x y : BitVec 64) : BitVec 64 :=
 let x0 := x &&& 4294967295#64
 let x1 := x >>> 32
 let y0 := y &&& 4294967295#64
 let y1 := y >>> 32
 let w0 := x0 * y0
 let t := x1 * y0 + w0 >>> 32
 let w1 := (t &&& 4294967295#64) + x0 * y1
 let w2 := t >>> 32
 x1 * y1 + w2 + w1 >>> 32
def sllW (x y : BitVec 64) : BitVec 64 := x <<< (y &&& 63#64).toNat
def srlW (x y : BitVec 64) : BitVec 64 := x >>> (y &&& 63#64).toNat
def sraW (x y : BitVec 64) : BitVec 64 := BitVec.sshiftRight x (y &&& 63#64).toNat
def mulhsuW (x y : BitVec 64) : BitVec 64 := hiW x y - y * bitW (BitVec.slt x 0#64)
def mulhW (x y : BitVec 64) : BitVec 64 := mulhsuW x y - x * bitW (BitVec.slt y 0#64)
def divW (x y : BitVec 64) : BitVec 64 := if y == 0#64 then 18446744073709551615#64 else if y == (BitVec.ofInt 64 (-1)) then -x else x.sdiv y
def remW (x y : BitVec 64) : BitVec 64 := if y == 0#64 then x else if y == (BitVec.ofInt 64 (-1)) then 0#64 else x.srem y
def divuW (x y : BitVec 64) : BitVec 64 := if y == 0#64 then 18446744073709551615#64 else x / y
def remuW (x y : BitVec 64) : BitVec 64 := if y == 0#64 then x else x % y
def signedF (F : BitVec 64 → BitVec 64 → BitVec 64) (x y : BitVec 64) : BitVec 64 := signW (F (signW x 32) (signW y 32)) 32
def unsignedF (F : BitVec 64 → BitVec 64 → BitVec 64) (x y : BitVec 64) : BitVec 64 := signW (F (x &&& 4294967295#64) (y &&& 4294967295#64)) 32
def movedF (F : BitVec 64 → BitVec 64 → BitVec 64) (x y : BitVec 64) : BitVec 64 := F x (y &&& 31#64)
end Go.Ux.Mach
end
section
namespace Go.Ux
open Go
variable {P : Program} {t : TypeId}
theorem equalIn_ptr (d : Nat) {e : TypeId} {a : Addr} (h : P.underlying t = some (.pointer e)) (w : World) : (Op.equalIn (d + 1) t (.pointer (some a)) (.pointer none)).run P w = .ok false w := by
 simp [Op.equalIn, run_underlying h, Result.andThen]
theorem BinR.eqlPnil {e : TypeId} {a : Addr} (h : P.underlying t = some (.pointer e)) : BinR P .eql t (.pointer (some a)) (.pointer none) (.bool false) := fun x y w => by
 have e : (Op.equal t (.pointer (some a)) (.pointer none)).run P w = .ok false w := equalIn_ptr 9999 h w
 simp only [eqGuard, binOp, Sem.run_bind, Sem.run_pure, Result.andThen]; simp [e]
theorem BinR.neqPnil {e : TypeId} {a : Addr} (h : P.underlying t = some (.pointer e)) : BinR P .neq t (.pointer (some a)) (.pointer none) (.bool true) := fun x y w => by
 have e : (Op.equal t (.pointer (some a)) (.pointer none)).run P w = .ok false w := equalIn_ptr 9999 h w
 simp only [eqGuard, binOp, Sem.run_bind, Sem.run_pure, Result.andThen]; simp [e]
end Go.Ux
namespace Go.Ux
open Go
variable {P : Program} {t : TypeId}
theorem equalIn_sl (d : Nat) {e : TypeId} {a : Addr} {l c : Nat} (h : P.underlying t = some (.slice e)) (w : World) : (Op.equalIn (d + 1) t (.slice (some a) l c) (.slice none 0 0)).run P w = .ok false w := by
 simp [Op.equalIn, run_underlying h, Result.andThen]
theorem equalIn_slnil (d : Nat) {e : TypeId} (h : P.underlying t = some (.slice e)) (w : World) : (Op.equalIn (d + 1) t (.slice none 0 0) (.slice none 0 0)).run P w = .ok true w := by
 simp [Op.equalIn, run_underlying h, Result.andThen]
theorem BinR.eqlSl {e : TypeId} {a : Addr} {l c : Nat} (h : P.underlying t = some (.slice e)) : BinR P .eql t (.slice (some a) l c) (.slice none 0 0) (.bool false) := fun x y w => by
 have e : (Op.equal t (.slice (some a) l c) (.slice none 0 0)).run P w = .ok false w := equalIn_sl 9999 h w
 simp only [eqGuard, binOp, Sem.run_bind, Sem.run_pure, Result.andThen]; simp [e]
theorem BinR.eqlSlnil {e : TypeId} (h : P.underlying t = some (.slice e)) : BinR P .eql t (.slice none 0 0) (.slice none 0 0) (.bool true) := fun x y w => by
 have e : (Op.equal t (.slice none 0 0) (.slice none 0 0)).run P w = .ok true w := equalIn_slnil 9999 h w
 simp only [eqGuard, binOp, Sem.run_bind, Sem.run_pure, Result.andThen]; simp [e]
end Go.Ux
namespace Go.Ux
open Go
section
variable {P : Program} {ops : Array Oper} {l : List Oper} {n : Nat} {f : Fr} {w : World} {Q : Exit → Fr → World → Prop}
variable {d t u : Nat} {ty : TypeId} {pos : String} {aft : Array Edge}
theorem equalIn_if (k : Nat) {ms : Array (String × TypeId)} {tx : TypeId} {vx : Value} (h : P.underlying t = some (.interface ms)) (w : World) : (Op.equalIn (k + 1) t (.iface tx vx) .nilIface).run P w = .ok false w := by
 simp [Op.equalIn, run_underlying h, Result.andThen]
theorem equalIn_ifnil (k : Nat) {ms : Array (String × TypeId)} (h : P.underlying t = some (.interface ms)) (w : World) : (Op.equalIn (k + 1) t .nilIface .nilIface).run P w = .ok true w := by
 simp [Op.equalIn, run_underlying h, Result.andThen]
theorem BinR.eqlIf {ms : Array (String × TypeId)} {tx : TypeId} {vx : Value} (h : P.underlying t = some (.interface ms)) : BinR P .eql t (.iface tx vx) .nilIface (.bool false) := fun x y w => by
 have e : (Op.equal t (.iface tx vx) .nilIface).run P w = .ok false w := equalIn_if 9999 h w
 simp only [eqGuard, binOp, Sem.run_bind, Sem.run_pure, Result.andThen]; simp [e]
theorem BinR.neqIf {ms : Array (String × TypeId)} {tx : TypeId} {vx : Value} (h : P.underlying t = some (.interface ms)) : BinR P .neq t (.iface tx vx) .nilIface (.bool true) := fun x y w => by
 have e : (Op.equal t (.iface tx vx) .nilIface).run P w = .ok false w := equalIn_if 9999 h w
 simp only [eqGuard, binOp, Sem.run_bind, Sem.run_pure, Result.andThen]; simp [e]
theorem WL.eqlIfnil {ms : Array (String × TypeId)} {x : Operand} (h : P.underlying t = some (.interface ms)) (hx : ev f x = .nilIface) (hd : decide (d < n) = true) (k : WL P ops l n (upd f d (.bool true)) w Q) :
  WL P ops (⟨some d, .binOp .eql t x (.const .nilIface) u, ty, pos, aft, none⟩ :: l) n f w Q := by
 refine WL.val G hd (v := .bool true) (w' := w) ?_ k
 have e : (Op.equal t .nilIface .nilIface).run P w = .ok true w := equalIn_ifnil 9999 h w
 have hy : ev f (.const .nilIface) = .nilIface := rfl
 have b : (do eqGuard .eql t x (.const .nilIface) .nilIface .nilIface; binOp .eql t .nilIface .nilIface : Sem Value).run P w = .ok (.bool true) w := by
  simp only [eqGuard, binOp, Sem.run_bind, Sem.run_pure, Result.andThen]; simp [e]
 simp only [execOp, hx, hy]; rw [Sem.run_bind, b]; simp [Result.andThen]
theorem WL.neqIfnil {ms : Array (String × TypeId)} {x : Operand} (h : P.underlying t = some (.interface ms)) (hx : ev f x = .nilIface) (hd : decide (d < n) = true) (k : WL P ops l n (upd f d (.bool false)) w Q) :
  WL P ops (⟨some d, .binOp .neq t x (.const .nilIface) u, ty, pos, aft, none⟩ :: l) n f w Q := by
 refine WL.val G hd (v := .bool false) (w' := w) ?_ k
 have e : (Op.equal t .nilIface .nilIface).run P w = .ok true w := equalIn_ifnil 9999 h w
 have hy : ev f (.const .nilIface) = .nilIface := rfl
 have b : (do eqGuard .neq t x (.const .nilIface) .nilIface .nilIface; binOp .neq t .nilIface .nilIface : Sem Value).run P w = .ok (.bool false) w := by
  simp only [eqGuard, binOp, Sem.run_bind, Sem.run_pure, Result.andThen]; simp [e]
 simp only [execOp, hx, hy]; rw [Sem.run_bind, b]; simp [Result.andThen]
end
end Go.Ux
end
section
namespace Go.Ux
open Go
theorem Own.at {w : World} {size n : Nat} {v : Value} {xs : List Value} (h : Own w size v n xs) (h0 : 0 < n) : ∃ g cap, v = .slice (some ⟨g, 0, none⟩) n cap ∧ n ≤ cap ∧ Cells w g 0 xs := by
 rcases h.2 with ⟨_, e⟩ | ⟨g, cap, e, hn, hc, _⟩
 ·omega
 ·exact ⟨g, cap, e, hn, hc⟩
theorem Own.one {w : World} {size n : Nat} {v : Value} {xs : List Value} (h : Own w size v n xs) : v.oneCell' = true := by
 rcases h.2 with ⟨e, _⟩ | ⟨g, cap, e, _⟩ <;> (rw [e]; rfl)
end Go.Ux
namespace Go.Ux.Mach
open Go Go.Ux
def bsV (f : Nat → BitVec 8) (n : Nat) : List Value := (List.range n).map fun i => U8 (f i)
theorem bsV_length (f : Nat → BitVec 8) (n : Nat) : (bsV f n).length = n := by simp [bsV]
theorem bsV_get (f : Nat → BitVec 8) {n i : Nat} (h : i < n) : (bsV f n)[i]? = some (U8 (f i)) := by simp [bsV, h]
def updB (f : Nat → BitVec 8) (i : Nat) (v : BitVec 8) : Nat → BitVec 8 := fun k => if k = i then v else f k
theorem bsV_set (f : Nat → BitVec 8) (n i : Nat) (v : BitVec 8) : (bsV f n).set i (U8 v) = bsV (updB f i v) n := by
 apply List.ext_getElem?
 intro k
 rw [List.getElem?_set, bsV_length]
 by_cases hk : k < n
 ·have e1 := bsV_get f hk
  have e2 := bsV_get (updB f i v) hk
  rw [e1, e2]
  by_cases e : i = k
  ·subst e; rw [if_pos rfl, if_pos hk]; simp only [updB, if_true]
  ·rw [if_neg e]; simp only [updB]; rw [if_neg (fun h : k = i => e h.symm)]
 ·have h1 : (bsV f n)[k]? = none := List.getElem?_eq_none (by rw [bsV_length]; omega)
  have h2 : (bsV (updB f i v) n)[k]? = none := List.getElem?_eq_none (by rw [bsV_length]; omega)
  rw [h1, h2]
  split
  ·rename_i e; subst e; rw [if_neg hk]
  ·rfl
def whereM (n : Nat) (addr : BitVec 64) (size : Nat) : Option (Bool × Nat) :=
 if addr.toNat % size ≠ 0 then none
 else if 4194304 ≤ addr.toNat ∧ addr.toNat - 4194304 < n ∧ size ≤ n - (addr.toNat - 4194304) then some (true, addr.toNat - 4194304)
 else if 8323072 ≤ addr.toNat ∧ addr.toNat - 8323072 < 65536 ∧ size ≤ 65536 - (addr.toNat - 8323072) then some (false, addr.toNat - 8323072)
 else none
def loadR (f : Nat → BitVec 8) (o size : Nat) : Nat → BitVec 64
 | 0 => 0#64
 | k + 1 => (loadR f o size k <<< 8) ||| (f (o + (size - 1 - k))).setWidth 64
def loadB (f : Nat → BitVec 8) (o size : Nat) : BitVec 64 := loadR f o size size
def storeB (f : Nat → BitVec 8) (o : Nat) (v : BitVec 64) : Nat → (Nat → BitVec 8)
 | 0 => f
 | k + 1 => updB (storeB f o v k) (o + k) ((v >>> (8 * k)).setWidth 8)
end Go.Ux.Mach
end
section
set_option linter.unusedSimpArgs false
set_option linter.unusedVariables false
namespace Go.Proofs.S
open Go Go.Ux Go.Ux.Mach Go.Proofs
open Tryz
theorem el80 : elemT prog 80 = some 91 := by kernel_rfl
theorem sz91 : sizeT prog 91 = some 2 := by kernel_rfl
theorem ag91 : isAggT prog 91 = some true := by kernel_rfl
theorem zt91 : zeroT prog 91 = some #[Z8, .slice none 0 0] := by kernel_rfl
theorem fo91_0 : fieldOff prog 91 0 = some 0 := by kernel_rfl
theorem fo91_1 : fieldOff prog 91 1 = some 1 := by kernel_rfl
theorem el45 : elemT prog 45 = some 5 := by kernel_rfl
theorem sz5 : sizeT prog 5 = some 1 := by kernel_rfl
theorem mixed : prog.follows .mixedOrders = true := by kernel_rfl
def aB (i : Nat) : BitVec 64 := if i = 0 then 4194304#64 else 8323072#64
def aV (sd ss : Value) (i : Nat) : Value := if i = 0 then sd else ss
def aN (n i : Nat) : Nat := if i = 0 then n else 65536
def aX (xd xs : List Value) (i : Nat) : List Value := if i = 0 then xd else xs
def hitA (n : Nat) (addr : BitVec 64) (size i : Nat) : Bool :=
 (BitVec.ule (aB i) addr && BitVec.ult (addr - aB i) (BitVec.ofNat 64 (aN n i))) && BitVec.ule (BitVec.ofNat 64 size) (BitVec.ofNat 64 (aN n i) - (addr - aB i))
theorem area_cells {w : World} {bq : Nat} {sd ss : Value} (h : Blk w bq #[U64 4194304#64, sd, U64 8323072#64, ss] 91) {i : Nat} (hi : i < 2) : Cells w bq (0 + i * 2) [U64 (aB i), aV sd ss i] := by
 match i, hi with
 | 0, _ => exact h.sub (o := 0) rfl
 | 1, _ => exact h.sub (o := 2) rfl
theorem area_own {w : World} {sd ss : Value} {n : Nat} {xd xs : List Value} (hd : Own w 1 sd n xd) (hs : Own w 1 ss 65536 xs) (i : Nat) : Own w 1 (aV sd ss i) (aN n i) (aX xd xs i) := by
 unfold aV aN aX; split
 ·exact hd
 ·exact hs
theorem aN_le {n : Nat} (hn : n ≤ 140737488355328) (i : Nat) : aN n i ≤ 140737488355328 := by unfold aN; split <;> omega
theorem hit_spec {n : Nat} (hn : n ≤ 140737488355328) (addr : BitVec 64) {size : Nat} (h8 : size ≤ 8) {i : Nat} :
  hitA n addr size i = true ↔ (aB i).toNat ≤ addr.toNat ∧ addr.toNat - (aB i).toNat < aN n i ∧ size ≤ aN n i - (addr.toNat - (aB i).toNat) := by
 have h1 := aN_le hn i
 have h2 := addr.isLt
 unfold hitA
 simp only [Bool.and_eq_true, BitVec.ule, BitVec.ult, decide_eq_true_eq, BitVec.toNat_sub, BitVec.toNat_ofNat]
 generalize (aB i).toNat = b at *
 generalize addr.toNat = a at *
 generalize aN n i = m at *
 rw [Nat.mod_eq_of_lt (show m < 2 ^ 64 by omega), Nat.mod_eq_of_lt (show size < 2 ^ 64 by omega)]
 constructor
 ·rintro ⟨⟨k1, k2⟩, k3⟩
  have e : (2 ^ 64 - b + a) % 2 ^ 64 = a - b := by rw [show 2 ^ 64 - b + a = 2 ^ 64 + (a - b) by omega, Nat.add_mod_left]; exact Nat.mod_eq_of_lt (by omega)
  rw [e] at k2 k3
  rw [show 2 ^ 64 - (a - b) + m = 2 ^ 64 + (m - (a - b)) by omega, Nat.add_mod_left, Nat.mod_eq_of_lt (by omega)] at k3
  exact ⟨k1, k2, k3⟩
 ·rintro ⟨k1, k2, k3⟩
  have e : (2 ^ 64 - b + a) % 2 ^ 64 = a - b := by rw [show 2 ^ 64 - b + a = 2 ^ 64 + (a - b) by omega, Nat.add_mod_left]; exact Nat.mod_eq_of_lt (by omega)
  rw [e]
  rw [show 2 ^ 64 - (a - b) + m = 2 ^ 64 + (m - (a - b)) by omega, Nat.add_mod_left, Nat.mod_eq_of_lt (show m - (a - b) < 2 ^ 64 by omega)]
  exact ⟨⟨k1, k2⟩, k3⟩
theorem where_data {n : Nat} {addr : BitVec 64} {size : Nat} (h : addr.toNat % size = 0) (k : (aB 0).toNat ≤ addr.toNat ∧ addr.toNat - (aB 0).toNat < aN n 0 ∧ size ≤ aN n 0 - (addr.toNat - (aB 0).toNat)) : whereM n addr size = some (true, addr.toNat - (aB 0).toNat) := by
 have e0 : aN n 0 = n := rfl
 have e2 : (aB 0).toNat = 4194304 := rfl
 rw [e0, e2] at k; rw [e2]
 unfold whereM
 rw [if_neg (fun e => e h), if_pos k]
theorem where_stk {n : Nat} {addr : BitVec 64} {size : Nat} (h : addr.toNat % size = 0) (k0 : ¬((aB 0).toNat ≤ addr.toNat ∧ addr.toNat - (aB 0).toNat < aN n 0 ∧ size ≤ aN n 0 - (addr.toNat - (aB 0).toNat))) (k : (aB 1).toNat ≤ addr.toNat ∧ addr.toNat - (aB 1).toNat < aN n 1 ∧ size ≤ aN n 1 - (addr.toNat - (aB 1).toNat)) : whereM n addr size = some (false, addr.toNat - (aB 1).toNat) := by
 have e0 : aN n 0 = n := rfl
 have e1 : aN n 1 = 65536 := rfl
 have e2 : (aB 0).toNat = 4194304 := rfl
 have e3 : (aB 1).toNat = 8323072 := rfl
 rw [e0, e2] at k0; rw [e1, e3] at k; rw [e3]
 unfold whereM
 rw [if_neg (fun e => e h), if_neg k0, if_pos k]
def AtR (sd ss : Value) (n : Nat) (addr : BitVec 64) (size : Nat) (v : Value) : Prop :=
 (whereM n addr size = none ∧ v = .slice none 0 0) ∨ ∃ i g c c', i < 2 ∧ whereM n addr size = some (decide (i = 0), addr.toNat - (aB i).toNat) ∧ aV sd ss i = Sv g (aN n i) c ∧ v = .slice (some ⟨g, addr.toNat - (aB i).toNat, none⟩) size c' ∧ addr.toNat - (aB i).toNat + size ≤ aN n i
theorem hit_T {n : Nat} {addr : BitVec 64} {size i : Nat} (a : BitVec.ule (aB i) addr = true) (b : BitVec.ult (addr - aB i) (BitVec.ofNat 64 (aN n i)) = true) {r : Bool} (c : BitVec.ule (BitVec.ofNat 64 size) (BitVec.ofNat 64 (aN n i) - (addr - aB i)) = r) : hitA n addr size i = r := by unfold hitA; rw [a, b, c]; rfl
theorem hit_F1 {n : Nat} {addr : BitVec 64} {size i : Nat} (a : BitVec.ule (aB i) addr = false) : hitA n addr size i = false := by unfold hitA; rw [a]; rfl
theorem hit_F2 {n : Nat} {addr : BitVec 64} {size i : Nat} (b : BitVec.ult (addr - aB i) (BitVec.ofNat 64 (aN n i)) = false) : hitA n addr size i = false := by unfold hitA; rw [b, Bool.and_false]; rfl
theorem hit_next {n : Nat} {addr : BitVec 64} {size i : Nat} (hl : ∀ j, j < i → hitA n addr size j = false) (h : hitA n addr size i = false) : ∀ j, j < i + 1 → hitA n addr size j = false := fun j hj => by
 rcases Nat.lt_or_ge j i with h' | h'
 ·exact hl j h'
 ·obtain rfl : j = i := by omega
  exact h
theorem at_no1 {sd ss : Value} {n : Nat} {addr : BitVec 64} {size : Nat} (h0 : 0 < size) (h8 : size ≤ 8) (h : (addr % BitVec.ofNat 64 size != 0#64) = true) : AtR sd ss n addr size (.slice none 0 0) := by
 refine .inl ⟨?_, G⟩
 unfold whereM
 rw [if_pos]
 intro e
 have : addr % BitVec.ofNat 64 size = 0#64 := by
  apply BitVec.eq_of_toNat_eq
  rw [BitVec.toNat_umod, BitVec.toNat_ofNat, Nat.mod_eq_of_lt (show size < 2 ^ 64 by omega), e]; rfl
 rw [this] at h; cases h
theorem fits_mod {addr : BitVec 64} {size : Nat} (h0 : 0 < size) (h8 : size ≤ 8) (h : (addr % BitVec.ofNat 64 size != 0#64) = false) : addr.toNat % size = 0 := by
 have e : addr % BitVec.ofNat 64 size = 0#64 := by simpa using h
 have := congrArg BitVec.toNat e
 rwa [BitVec.toNat_umod, BitVec.toNat_ofNat, Nat.mod_eq_of_lt (show size < 2 ^ 64 by omega)] at this
theorem at_no2 {sd ss : Value} {n : Nat} (hn : n ≤ 140737488355328) {addr : BitVec 64} {size : Nat} (h0 : 0 < size) (h8 : size ≤ 8) (hm : (addr % BitVec.ofNat 64 size != 0#64) = false) (h : ∀ j, j < 2 → hitA n addr size j = false) : AtR sd ss n addr size (.slice none 0 0) := by
 refine .inl ⟨?_, G⟩
 have k0 := mt (hit_spec hn addr h8 (i := 0)).2 (by rw [h 0 (by omega)]; decide)
 have k1 := mt (hit_spec hn addr h8 (i := 1)).2 (by rw [h 1 (by omega)]; decide)
 have e0 : aN n 0 = n := rfl
 have e1 : aN n 1 = 65536 := rfl
 have e2 : (aB 0).toNat = 4194304 := rfl
 have e3 : (aB 1).toNat = 8323072 := rfl
 rw [e0, e2] at k0; rw [e1, e3] at k1
 unfold whereM
 rw [if_neg (by rw [fits_mod h0 h8 hm]; omega), if_neg k0, if_neg k1]
theorem at_ok {sd ss : Value} {n : Nat} (hn : n ≤ 140737488355328) {addr : BitVec 64} {size : Nat} (h0 : 0 < size) (h8 : size ≤ 8) (hm : (addr % BitVec.ofNat 64 size != 0#64) = false) {i g c c' : Nat} (hi : i < 2) (hl : ∀ j, j < i → hitA n addr size j = false) (hh : hitA n addr size i = true)
  (hg : aV sd ss i = Sv g (aN n i) c) : AtR sd ss n addr size (.slice (some ⟨g, addr.toNat - (aB i).toNat, none⟩) size c') := by
 have k := (hit_spec hn addr h8).1 hh
 refine .inr ⟨i, g, c, c', hi, ?_, hg, G, by omega⟩
 have h9 := fits_mod h0 h8 hm
 rcases (by omega : i = 0 ∨ i = 1) with rfl | rfl
 ·have e : decide ((0 : Nat) = 0) = true := decide_eq_true rfl
  rw [e]; exact where_data h9 k
 ·have e : decide ((1 : Nat) = 0) = false := decide_eq_false (by omega)
  rw [e]; exact where_stk h9 (mt (hit_spec hn addr h8 (i := 0)).2 (by rw [hl 0 (by omega)]; decide)) k
theorem slice_facts {n : Nat} (hn : n ≤ 140737488355328) (addr : BitVec 64) {size c : Nat} (h0 : 0 < size) (h8 : size ≤ 8) {i : Nat} (hh : hitA n addr size i = true) (hc : aN n i ≤ c) :
  (addr - aB i).toNat ≤ (addr - aB i + BitVec.ofNat 64 size).toNat ∧ (addr - aB i + BitVec.ofNat 64 size).toNat ≤ c ∧ (addr - aB i).toNat < (addr - aB i + BitVec.ofNat 64 size).toNat ∧ (addr - aB i).toNat = addr.toNat - (aB i).toNat ∧ (addr - aB i + BitVec.ofNat 64 size).toNat - (addr - aB i).toNat = size := by
 have k := (hit_spec hn addr h8).1 hh
 have h1 := aN_le hn i
 have h2 := addr.isLt
 have e1 : (addr - aB i).toNat = addr.toNat - (aB i).toNat := by
  rw [BitVec.toNat_sub, show 2 ^ 64 - (aB i).toNat + addr.toNat = 2 ^ 64 + (addr.toNat - (aB i).toNat) by omega, Nat.add_mod_left]; exact Nat.mod_eq_of_lt (by omega)
 have e2 : (addr - aB i + BitVec.ofNat 64 size).toNat = addr.toNat - (aB i).toNat + size := by
  rw [BitVec.toNat_add, e1, BitVec.toNat_ofNat, Nat.mod_eq_of_lt (show size < 2 ^ 64 by omega)]; exact Nat.mod_eq_of_lt (by omega)
 omega
theorem at_spec (bq : Nat) (sd ss : Value) (n : Nat) (xd xs : List Value) (addr : BitVec 64) (size : Nat) (w : World) (hB : Blk w bq #[U64 4194304#64, sd, U64 8323072#64, ss] 91) (hd : Own w 1 sd n xd) (hs : Own w 1 ss 65536 xs) (hn : n ≤ 140737488355328) (h0 : 0 < size) (h8 : size ≤ 8) : CallsR prog 72 #[Sv bq 2 2, U64 addr, IN size] w (fun v w' => AtR sd ss n addr size v ∧ Ext w w') := by
 have hsz : BitVec.ofNat 64 size ≠ 0#64 := by intro e; have := congrArg BitVec.toNat e; rw [BitVec.toNat_ofNat, Nat.mod_eq_of_lt (by omega)] at this; simp at this; omega
 refine Co func72 G G ?_
 refine Sr (Ae (.slice none 0 0) (Ni (Sq (Sr (Me (U64 addr) (Me (IN size) (Cv G (ConvR.nu64 y3 y39) (Bn G G (BinR.remU64 hsz) (Bn (vy := U64 0#64) G G BinR.neqU64 (Ni ?_))))))))))
 refine WC.cond G (fun hc14 => ?_) (fun hc14 => ?_)
 ·refine Sr (Ae (.slice none 0 0) (Ni (WC.ret ?_)))
  have hfin : AtR sd ss n addr size (.slice none 0 0) := by first | exact at_no1 h0 h8 hc14 | exact at_no2 hn h0 h8 hc14 (by subst hi; exact hl) | exact at_ok hn h0 h8 hc14 hi hl hh hg
  exact ⟨_, Ro G G, hfin, Mod.refl _ _⟩
 ·refine WC.skip (Sq (Sr (Me (Sv bq 2 2) (WL.lenS el80 G G (Me (IN 0) (Ni (Bk ?_)))))))
  refine WC.loop (fun k f w_ => ∃ i, (k + i = 2) ∧ (∀ j, j < i → hitA n addr size j = false) ∧ f 0 = Sv bq 2 2 ∧ f 1 = U64 addr ∧ f 2 = IN size ∧ f 10 = U64 addr ∧ f 11 = IN size ∧ f 12 = U64 (BitVec.ofNat 64 size) ∧ f 13 = U64 (addr % BitVec.ofNat 64 size) ∧ f 14 = .bool ((addr % BitVec.ofNat 64 size != 0#64)) ∧ f 15 = Sv bq 2 2 ∧ f 16 = IN 2 ∧ f 17 = IN i ∧ (Ext w w_)) 2 ?_ ?_
  ·exact ⟨0, by omega, fun j hj => absurd hj (by omega), G, G, G, G, G, G, G, G, G, G, G, Mod.refl _ _⟩
  rintro ka f1 wr ⟨i, hk, hl, h0_1, h1_1, h2_1, h10_1, h11_1, h12_1, h13_1, h14_1, h15_1, h16_1, h17_1, hE⟩
  refine Sr (Bn h17_1 h16_1 BinR.lss (Ni (Sq ?_)))
  refine WC.cond G (fun hc18 => ?_) (fun hc18 => ?_)
  ·have hi : i < 2 := by have := of_decide_eq_true hc18; omega
   refine WC.skip (Sq (Bk (Sr (WL.indexAddr (i := i) (b := bq) (o := 0) el80 sz91 (Eq.trans h15_1 G) h17_1 (by omega) G (WL.loadS [U64 (aB i), aV sd ss i] G ag91 sz91 G (area_cells (hB.ext hE) hi) G (WL.allocStore (v := .agg #[U64 (aB i), aV sd ss i]) zt91 G sz91 G G (ones2 G (area_own hd hs i).one) G ?_))))))
   intro b8 w8 n8
   have E2 := Mt hE n8.ext
   refine Ni (Sr (Mv (U64 addr) h1_1 (Fa G fo91_0 (Le (n8.blk.cell (j := 0) G) (Bn G G BinR.subU64 (Ae (U64 ((addr - aB i))) (Ni (Sr (Mv (U64 addr) h1_1 (Fa G fo91_0 (Le (n8.blk.cell (j := 0) G) (Bn G G BinR.geqU64 (Me (.bool (BitVec.ule (aB i) addr)) ?_)))))))))))))
   rcases Bool.eq_false_or_eq_true (BitVec.ule (aB i) addr) with hg29 | hg29
   ·refine Gy hg29 (Me (U64 ((addr - aB i))) (Gy hg29 (Fa G fo91_1 (Gy hg29 (Le (n8.blk.cell (j := 1) G) (Gy hg29 ?_))))))
    obtain ⟨gl33, cl33, el33, _⟩ := (area_own hd hs i).sl
    refine WL.lenSl (sz := 1) (m := aN n i) (xs := aX xd xs i) el45 G ((area_own hd hs i).sl.ext E2) G (Gy hg29 (Cv G (ConvR.nu64 y3 y39) (Gy hg29 (Bn G G BinR.lssU64 (Qt hg29 G (Me (.bool (BitVec.ult ((addr - aB i)) (BitVec.ofNat 64 (aN n i)))) ?_))))))
    rcases Bool.eq_false_or_eq_true (BitVec.ult ((addr - aB i)) (BitVec.ofNat 64 (aN n i))) with hg37 | hg37
    ·refine Gy hg37 (Fa G fo91_1 (Gy hg37 (Le (n8.blk.cell (j := 1) G) (Gy hg37 ?_))))
     obtain ⟨gl40, cl40, el40, _⟩ := (area_own hd hs i).sl
     refine WL.lenSl (sz := 1) (m := aN n i) (xs := aX xd xs i) el45 G ((area_own hd hs i).sl.ext E2) G (Gy hg37 (Cv G (ConvR.nu64 y3 y39) (Gy hg37 (Me (U64 ((addr - aB i))) (Gy hg37 (Bn G G BinR.subU64 (Gy hg37 (Mv (IN size) h2_1 (Gy hg37 (Cv G (ConvR.nu64 y3 y39) (Gy hg37 (Bn G G BinR.geqU64 (Qt hg37 G (Ni ?_))))))))))))))
     refine WC.cond G (fun hc47 => ?_) (fun hc47 => ?_)
     ·have hh : hitA n addr size i = true := hit_T hg29 hg37 hc47
      obtain ⟨g, c, hg, hcc, _⟩ := (area_own hd hs i).at (by have := (hit_spec hn addr h8).1 hh; omega)
      obtain ⟨hx1, hx2, hx3, hx4, hx5⟩ := slice_facts hn addr h0 h8 hh hcc
      refine Sr (Fa G fo91_1 (Le (n8.blk.cell (j := 1) G) (Me (U64 ((addr - aB i))) (Me (U64 ((addr - aB i))) (Mv (IN size) h2_1 (Cv G (ConvR.nu64 y3 y39) (Bn G G BinR.addU64 (WL.sliceLH (i := (addr - aB i).toNat) (j := (addr - aB i + BitVec.ofNat 64 size).toNat) el45 sz5 (Eq.trans G hg) G G hx1 hx2 G ?_))))))))
      intro ao h55
      have hao : ao = some ⟨g, addr.toNat - (aB i).toNat, none⟩ := by rw [h55 hx3]; simp [addr_add, hx4]
      subst hao
      rw [hx5]
      refine Ae (.slice (some ⟨g, addr.toNat - (aB i).toNat, none⟩) size (c - (addr - aB i).toNat)) (Ni (WC.ret ?_))
      have hfin : AtR sd ss n addr size ((.slice (some ⟨g, addr.toNat - (aB i).toNat, none⟩) size (c - (addr - aB i).toNat))) := by first | exact at_no1 h0 h8 hc14 | exact at_no2 hn h0 h8 hc14 (by subst hi; exact hl) | exact at_ok hn h0 h8 hc14 hi hl hh hg
      exact ⟨_, Ro G G, hfin, E2⟩
     ·have hh : hitA n addr size i = false := hit_T hg29 hg37 hc47
      refine WC.skip (Rg (Bn h17_1 G (BinR.succN (by omega)) (Me (IN (i + 1)) (Ni ?_))))
      exact ⟨ka - 1, by omega, (i + 1), by omega, hit_next hl (by first | exact hit_T hg29 hg37 hc47 | exact hit_F2 hg37 | exact hit_F1 hg29), h0_1, h1_1, h2_1, h10_1, h11_1, h12_1, h13_1, h14_1, h15_1, h16_1, G, E2⟩
    ·refine Gz hg37 (Gz hg37 (Gz hg37 (Gz hg37 (Gz hg37 (Gz hg37 (Gz hg37 (Gz hg37 (Gz hg37 (Qf hg37 G (Ni (Cf G (WC.skip (Rg (Bn h17_1 G (BinR.succN (by omega)) (Me (IN (i + 1)) (Ni ?_))))))))))))))))
     exact ⟨ka - 1, by omega, (i + 1), by omega, hit_next hl (by first | exact hit_T hg29 hg37 hc47 | exact hit_F2 hg37 | exact hit_F1 hg29), h0_1, h1_1, h2_1, h10_1, h11_1, h12_1, h13_1, h14_1, h15_1, h16_1, G, E2⟩
   ·refine Gz hg29 (Gz hg29 (Gz hg29 (Gz hg29 (Gz hg29 (Gz hg29 (Qf hg29 G (Me (.bool false) (Gx (Gx (Gx (Gx (Gx (Gx (Gx (Gx (Gx (Pf G (Ni (Cf G (WC.skip (Rg (Bn h17_1 G (BinR.succN (by omega)) (Me (IN (i + 1)) ?_)))))))))))))))))))))))
    refine Ni ?_
    exact ⟨ka - 1, by omega, (i + 1), by omega, hit_next hl (by first | exact hit_T hg29 hg37 hc47 | exact hit_F2 hg37 | exact hit_F1 hg29), h0_1, h1_1, h2_1, h10_1, h11_1, h12_1, h13_1, h14_1, h15_1, h16_1, G, E2⟩
  ·have hi : i = 2 := by have := of_decide_eq_false hc18; omega
   refine WC.exit (Sr (Ae (.slice none 0 0) (Ni (WC.ret ?_))))
   have hfin : AtR sd ss n addr size (.slice none 0 0) := by first | exact at_no1 h0 h8 hc14 | exact at_no2 hn h0 h8 hc14 (by subst hi; exact hl) | exact at_ok hn h0 h8 hc14 hi hl hh hg
   exact ⟨_, Ro G G, hfin, hE⟩
end Go.Proofs.S
end
