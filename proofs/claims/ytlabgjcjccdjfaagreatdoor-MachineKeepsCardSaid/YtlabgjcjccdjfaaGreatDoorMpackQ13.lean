/- Steps of the proof, packed by program: McKs McKw McL6. -/
import Derived.Test.YtlabgjcjccdjfaaGreatDoorRows
import Derived.Test.YtlabgjcjccdjfaaGreatDoorMpackQ02
import Derived.Test.YtlabgjcjccdjfaaGreatDoorMpackQ12
set_option linter.unusedVariables false
set_option linter.unusedSimpArgs false
set_option linter.unnecessarySimpa false
section
namespace Go.Ux
open Go
section
variable {P : Program} {t s u : TypeId}
theorem BinR.remU8n {x m : BitVec 8} (h : m ≠ 0#8) : BinR P .rem t (U8 x) (U8 m) (U8 (x % m)) := by
  have hm : (m.toNat : Int) ≠ 0 := fun e => h (BitVec.eq_of_toNat_eq (by simpa using e))
  have h := BinR.remK (P := P) (t := t) (k := .u8) (a := (x.toNat : Int)) (b := (m.toNat : Int)) (by omega) hm
  have e : (U8 (x % m) : Value) = .int .u8 ((x.toNat : Int) % (m.toNat : Int)) := by
    show Value.int .u8 (((x % m).toNat : Nat) : Int) = _
    rw [BitVec.toNat_umod]; rfl
  rw [e]; exact h
theorem BinR.quoN {a b : Nat} (hb : 0 < b) (ha : a ≤ 9223372036854775807) : BinR P .quo t (IN a) (IN b) (IN (a / b)) := by
  have := BinR.quoI (P := P) (t := t) (a := (a : Int)) (b := (b : Int)) (by omega) (by omega) (by omega)
  show BinR P .quo t (.int .i64 (a : Int)) (.int .i64 (b : Int)) (.int .i64 ((a / b : Nat) : Int))
  rw [Int.natCast_ediv]; exact this
theorem wrap_i32_bv (n : Int) : IntKind.i32.wrap n = (BitVec.ofInt 32 n).toInt := by
  rw [BitVec.toInt_ofInt]
  simp only [IntKind.wrap, IntKind.bits, IntKind.signed, Int.bmod]
  simp
  split <;> split <;> omega
variable {td : TypeDesc} (h1 : P.underlying s = some td)
include h1
theorem ConvR.u32i32 (h2 : P.underlying u = some (.int .i32)) {x : BitVec 32} : ConvR P s u (U32 x) (.int .i32 x.toInt) := by
  have h := ConvR.int (P := P) (k := .u32) (a := x.toNat) h1 h2
  rwa [wrap_i32_bv, ofInt_toNat_id] at h
theorem ConvR.i64i32 (h2 : P.underlying u = some (.int .i32)) {x : BitVec 64} : ConvR P s u (I64 x) (.int .i32 (x.setWidth 32).toInt) := by
  have h := ConvR.int (P := P) (k := .i64) (a := x.toInt) h1 h2
  rw [wrap_i32_bv] at h
  have e : BitVec.ofInt 32 x.toInt = x.setWidth 32 := by
    apply BitVec.eq_of_toNat_eq
    rw [BitVec.toNat_ofInt, BitVec.toNat_setWidth, BitVec.toInt_eq_toNat_cond]
    have := x.isLt
    split <;> omega
  rwa [e] at h
theorem ConvR.i32i64 (h2 : P.underlying u = some (.int .i64)) {x : BitVec 32} : ConvR P s u (.int .i32 x.toInt) (I64 (x.signExtend 64)) := by
  have hx : -2147483648 ≤ x.toInt ∧ x.toInt ≤ 2147483647 := by
    have := x.isLt
    rw [BitVec.toInt_eq_toNat_cond]; split <;> omega
  have h := ConvR.toI (P := P) (k := .i32) (a := x.toInt) h1 h2 (by omega)
  have e : I64 (x.signExtend 64) = Value.int .i64 x.toInt := congrArg (Value.int .i64) (BitVec.toInt_signExtend_of_le (by decide))
  rw [e]; exact h
end
end Go.Ux
namespace Go.Proofs.S
open Go Go.Ux Go.Ux.Mach Go.Proofs Go.Proofs.M Go.Ux.Image
set_option linter.unusedVariables false
theorem keep_hi (n : BitVec 32) : (BitVec.sshiftRight ((n + 2048#32).signExtend 64) 12) <<< 12 = luiX (hi20 n) := by
  have hn := n.isLt
  apply BitVec.eq_of_toNat_eq
  have h1 := nat_of_int (luiX_int (hi20 n))
  rw [hi20_nat] at h1
  have e0 : (n + 2048#32).toNat = (n.toNat + 2048) % 4294967296 := by rw [BitVec.toNat_add]; rfl
  have e1 : (BitVec.sshiftRight ((n + 2048#32).signExtend 64) 12).toInt = (n + 2048#32).toInt / 4096 := by
    rw [BitVec.toInt_sshiftRight, Int.shiftRight_eq_div_pow, BitVec.toInt_signExtend_of_le (by decide)]; rfl
  rw [BitVec.toInt_eq_toNat_cond (n + 2048#32), e0] at e1
  have e2 := nat_of_int e1
  rw [BitVec.toNat_shiftLeft, Nat.shiftLeft_eq]
  generalize (BitVec.sshiftRight ((n + 2048#32).signExtend 64) 12).toNat = a at *
  generalize (luiX (hi20 n)).toNat = b at *
  generalize n.toNat = m at *
  clear e0 e1
  split at e2 <;> split at e2 <;> split at h1 <;> split at h1 <;> omega
theorem keep_lo (n : BitVec 32) : ((n.signExtend 64 - luiX (hi20 n)).setWidth 32).signExtend 64 = addX (lo12 n) := by
  have hn := n.isLt
  apply BitVec.eq_of_toInt_eq
  rw [BitVec.toInt_signExtend_of_le (by decide), addX_int, lo12_nat]
  have h1 := nat_of_int (luiX_int (hi20 n))
  rw [hi20_nat] at h1
  have h2 := nat_of_int (x := n.signExtend 64) (BitVec.toInt_signExtend_of_le (by decide))
  rw [BitVec.toInt_eq_toNat_cond] at h2
  have e : ((n.signExtend 64 - luiX (hi20 n)).setWidth 32).toNat = (18446744073709551616 - (luiX (hi20 n)).toNat + (n.signExtend 64).toNat) % 4294967296 := by
    rw [BitVec.toNat_setWidth, BitVec.toNat_sub]; omega
  rw [BitVec.toInt_eq_toNat_cond, e]
  have hb := (luiX (hi20 n)).isLt
  have ha := (n.signExtend 64).isLt
  generalize (luiX (hi20 n)).toNat = b at *
  generalize (n.signExtend 64).toNat = a at *
  generalize n.toNat = m at *
  clear e
  have e1 : (b : Int) % 4294967296 = (m + 2048) % 4294967296 / 4096 * 4096 := by split at h1 <;> split at h1 <;> omega
  have e2 : (a : Int) % 4294967296 = m := by split at h2 <;> split at h2 <;> omega
  clear h1 h2
  split <;> split <;> omega
theorem keep_shl {P : Program} {t : TypeId} (r : KR) : BinR P .shl t (I64 1#64) (U8 (r.2.1 % 4#8)) (IN (2 ^ r.s)) := by
  have h := BinR.shl64 (P := P) (t := t) (x := 1#64) (yk := .u8) (s := r.s)
  have e : I64 (1#64 <<< r.s) = IN (2 ^ r.s) := by
    have := r.s_lt
    have : r.s = 0 ∨ r.s = 1 ∨ r.s = 2 ∨ r.s = 3 := by omega
    rcases this with e | e | e | e <;> (rw [e]; rfl)
  rw [← e]; exact h
theorem Blk.ownS {w : World} {b size n : Nat} {cs : Array Value} {t : TypeId} {xs : List Value} (h : Blk w b cs t) (hl : cs.toList = xs) (hn : xs.length = n * size) : Ux.Own w size (.slice (some ⟨b, 0, none⟩) n n) n xs := by
  refine ⟨hn, .inr ⟨b, n, rfl, Nat.le_refl _, ?_, fun j hj => ⟨?_, h.frozen j⟩⟩⟩
  · subst hl; exact h.cells
  · have hj' : j < cs.size := by rw [← Array.length_toList, hl, hn]; exact hj
    rw [h.cell (j := j) (Array.getElem?_eq_getElem hj')]; rfl
def keepRs (A Z : List (BitVec 8)) (N : List (BitVec 32)) : List KR := A.zip (Z.zip N)
theorem keepRs_length (A Z : List (BitVec 8)) (N : List (BitVec 32)) : (keepRs A Z N).length = min A.length (min Z.length N.length) := by unfold keepRs; rw [List.length_zip, List.length_zip]
theorem keepRs_at (A Z : List (BitVec 8)) (N : List (BitVec 32)) {i : Nat} (h : i < (keepRs A Z N).length) : ∃ r : KR, (keepRs A Z N)[i]? = some r ∧ (A.map U8)[i]? = some (U8 r.1) ∧ (Z.map U8)[i]? = some (U8 r.2.1) ∧ (wordCells N)[i]? = some (U32 r.2.2) := by
  have hl := keepRs_length A Z N
  have h1 : i < A.length := by omega
  have h2 : i < Z.length := by omega
  have h3 : i < N.length := by omega
  refine ⟨(A[i], Z[i], N[i]), ?_, ?_, ?_, ?_⟩
  · have h' : i < (A.zip (Z.zip N)).length := h
    unfold keepRs; rw [List.getElem?_eq_getElem h', List.getElem_zip, List.getElem_zip]
  · rw [List.getElem?_map, List.getElem?_eq_getElem h1]; rfl
  · rw [List.getElem?_map, List.getElem?_eq_getElem h2]; rfl
  · unfold wordCells; rw [List.getElem?_map, List.getElem?_eq_getElem h3]; rfl
theorem keepMem_take {rs : List KR} {i : Nat} {r : KR} (h : rs[i]? = some r) : keepMem (rs.take (i + 1)) = storeB (keepMem (rs.take i)) r.k r.v (2 ^ r.s) := by
  rw [List.take_add_one, h]; exact keepMem_snoc _ _
abbrev keepPre (rs : List KR) (i : Nat) : List RvInst := keepHead ++ (rs.take i).flatMap keepI
theorem instCells_app (a b : List RvInst) : instCells (a ++ b) = instCells a ++ instCells b := by unfold instCells; rw [List.flatMap_append]
theorem keepPre_snoc {rs : List KR} {i : Nat} {r : KR} (h : rs[i]? = some r) : instCells (keepPre rs (i + 1)) = (instCells (keepPre rs i) ++ [U8 1#8, U8 6#8, U8 0#8, U8 0#8, I64 (luiX (hi20 r.2.2)), U8 41#8, U8 6#8, U8 6#8, U8 0#8, I64 (addX (lo12 r.2.2))]) ++ instCells [stI r.s r.k] := by
  show instCells (keepHead ++ (rs.take (i + 1)).flatMap keepI) = _
  rw [List.take_add_one, h, List.flatMap_append, ← List.append_assoc, instCells_app, List.append_assoc]
  rfl
theorem keepPre_zero (rs : List KR) : [U8 1#8, U8 5#8, U8 0#8, U8 0#8, I64 4194304#64] = instCells (keepPre rs 0) := by
  unfold keepPre; rw [List.take_zero]; rfl
theorem keep_op (r : KR) : 18#8 + r.2.1 % 4#8 = (stI r.s r.k).op := by
  show _ = BitVec.ofNat 8 (18 + r.s)
  apply BitVec.eq_of_toNat_eq
  rw [BitVec.toNat_add, BitVec.toNat_ofNat]; rfl
theorem keep_lo_cells (r : KR) (h : r.k < 64) : instCells [stI r.s r.k] = [U8 (18#8 + r.2.1 % 4#8), U8 0#8, U8 5#8, U8 6#8, IN r.k] := by
  rw [keep_op]
  show [_, _, U8 (keepB r.k), _, I64 (keepX r.k)] = _
  have e : I64 (keepX r.k) = IN r.k := by
    unfold keepX; rw [if_pos h]
    show Value.int .i64 (BitVec.ofNat 64 r.k).toInt = Value.int .i64 (r.k : Int)
    congr 1
    rw [BitVec.toInt_eq_toNat_cond, BitVec.toNat_ofNat]; split <;> omega
  have e2 : keepB r.k = 5#8 := by unfold keepB; rw [if_pos h]
  rw [e, e2]; rfl
theorem keep_hi_cells (r : KR) (h : ¬ r.k < 64) : instCells [stI r.s r.k] = [U8 (18#8 + r.2.1 % 4#8), U8 0#8, U8 2#8, U8 6#8, .int .i64 (((r.k : Nat) : Int) - (128 : Int))] := by
  have hk := r.at
  rw [keep_op]
  show [_, _, U8 (keepB r.k), _, I64 (keepX r.k)] = _
  have e : I64 (keepX r.k) = .int .i64 (((r.k : Nat) : Int) - (128 : Int)) := by
    unfold keepX; rw [if_neg h]
    show Value.int .i64 (BitVec.ofInt 64 ((r.k : Int) - 128)).toInt = _
    congr 1
    rw [BitVec.toInt_ofInt, Int.bmod_def]; omega
  have e2 : keepB r.k = 2#8 := by unfold keepB; rw [if_neg h]
  rw [e, e2]; rfl
theorem keepPre_all (rs : List KR) {i : Nat} (h : rs.length ≤ i) : instCells (keepPre rs i) ++ [U8 22#8, U8 0#8, U8 5#8, U8 0#8, I64 7#64, U8 22#8, U8 17#8, U8 0#8, U8 0#8, I64 3#64, U8 64#8, U8 0#8, U8 0#8, U8 0#8, I64 0#64] = instCells (keepL rs) := by
  show instCells (keepHead ++ (rs.take i).flatMap keepI) ++ instCells keepTail = _
  rw [List.take_of_length_le h, ← instCells_app]; rfl
abbrev memC (f : Nat → BitVec 8) : Array Value := (bsV f 128).toArray
theorem mem_set (f : Nat → BitVec 8) (i : Nat) (v : BitVec 8) : (memC f).setIfInBounds (0 + i) (U8 v) = memC (updB f i v) := by
  rw [Nat.zero_add]
  show (bsV f 128).toArray.setIfInBounds i (U8 v) = _
  rw [List.setIfInBounds_toArray, bsV_set]
theorem mem_get (f : Nat → BitVec 8) {i : Nat} (h : i < 128) : (memC f)[0 + i]? = some (U8 (f i)) := by
  rw [Nat.zero_add]
  show (bsV f 128).toArray[i]? = _
  rw [List.getElem?_toArray, bsV_get f h]
theorem mem_zero : (memC (fun _ => 0#8)) = Array.replicate 128 (.int .u8 0) := by
  show (bsV _ _).toArray = _
  rw [← bsV_zero]; rfl
theorem keep_syms (rs : List KR) : ∀ s ∈ (keepImg rs).syms, True ∧ s.2 ≤ 9223372036854775807 := by
  intro s hs
  have : s = ([115, 116, 97, 114, 116], 0) := by simpa [keepImg] using hs
  subst this; exact ⟨trivial, by decide⟩
theorem where_lo {j : Nat} (h : 8 * j < 64) : whereM 64 (BitVec.ofNat 64 (4194304 + 8 * j)) 8 = some (true, 8 * j) := by
  have e : (BitVec.ofNat 64 (4194304 + 8 * j)).toNat = 4194304 + 8 * j := by rw [BitVec.toNat_ofNat]; omega
  unfold whereM
  rw [e, if_neg (by omega), if_pos (by omega), show 4194304 + 8 * j - 4194304 = 8 * j by omega]
theorem where_hi {j : Nat} (h : ¬ 8 * j < 64) (h2 : 8 * j < 128) : whereM 64 (BitVec.ofNat 64 (8388608 + 8 * j - 128)) 8 = some (false, 65408 + 8 * j) := by
  have e : (BitVec.ofNat 64 (8388608 + 8 * j - 128)).toNat = 8388608 + 8 * j - 128 := by rw [BitVec.toNat_ofNat]; omega
  unfold whereM
  rw [e, if_neg (by omega), if_neg (by omega), if_pos (by omega), show 8388608 + 8 * j - 128 - 8323072 = 65408 + 8 * j by omega]
theorem loadR_same {f g : Nat → BitVec 8} {o p z : Nat} (h : ∀ x, x < z → f (o + x) = g (p + x)) : ∀ k, k ≤ z → loadR f o z k = loadR g p z k
  | 0, _ => rfl
  | k + 1, hk => by
    show (loadR f o z k <<< 8) ||| (f (o + (z - 1 - k))).setWidth 64 = (loadR g p z k <<< 8) ||| (g (p + (z - 1 - k))).setWidth 64
    rw [loadR_same h k (by omega), h _ (by omega)]
theorem peek_lo {mem : Nat → BitVec 8} {M : MS} (h : MemIs mem M) {j : Nat} (hj : 8 * j < 64) : loadV M.d M.s true (8 * j) 8 false = loadT mem (8 * j) 8 8 := by
  rw [loadT_eq]
  show loadR M.d (8 * j) 8 8 = _
  refine loadR_same (fun x hx => ?_) 8 (Nat.le_refl _)
  rw [h _ (by omega), if_pos (by omega)]
theorem peek_hi {mem : Nat → BitVec 8} {M : MS} (h : MemIs mem M) {j : Nat} (hj : ¬ 8 * j < 64) (h2 : 8 * j < 128) : loadV M.d M.s false (65408 + 8 * j) 8 false = loadT mem (8 * j) 8 8 := by
  rw [loadT_eq]
  show loadR M.s (65408 + 8 * j) 8 8 = _
  refine loadR_same (fun x hx => ?_) 8 (Nat.le_refl _)
  rw [h _ (by omega), if_neg (by omega), Nat.add_assoc]
end Go.Proofs.S
end
section
set_option linter.unusedSimpArgs false
set_option linter.unusedVariables false
namespace Go.Proofs.S
open Go Go.Ux Go.Ux.Mach Go.Proofs
theorem zt46 : zeroT Tryz.prog 46 = some #[.int .u8 0, .int .u8 0, .int .u8 0, .int .u8 0, .int .u8 0, .int .u8 0, .int .u8 0, .int .u8 0, .int .u8 0, .int .u8 0, .int .u8 0, .int .u8 0, .int .u8 0, .int .u8 0, .int .u8 0, .int .u8 0, .int .u8 0, .int .u8 0, .int .u8 0, .int .u8 0, .int .u8 0, .int .u8 0, .int .u8 0, .int .u8 0, .int .u8 0, .int .u8 0, .int .u8 0, .int .u8 0, .int .u8 0, .int .u8 0, .int .u8 0, .int .u8 0, .int .u8 0, .int .u8 0, .int .u8 0, .int .u8 0, .int .u8 0, .int .u8 0, .int .u8 0, .int .u8 0, .int .u8 0, .int .u8 0, .int .u8 0, .int .u8 0, .int .u8 0, .int .u8 0, .int .u8 0, .int .u8 0, .int .u8 0, .int .u8 0, .int .u8 0, .int .u8 0, .int .u8 0, .int .u8 0, .int .u8 0, .int .u8 0, .int .u8 0, .int .u8 0, .int .u8 0, .int .u8 0, .int .u8 0, .int .u8 0, .int .u8 0, .int .u8 0, .int .u8 0, .int .u8 0, .int .u8 0, .int .u8 0, .int .u8 0, .int .u8 0, .int .u8 0, .int .u8 0, .int .u8 0, .int .u8 0, .int .u8 0, .int .u8 0, .int .u8 0, .int .u8 0, .int .u8 0, .int .u8 0, .int .u8 0, .int .u8 0, .int .u8 0, .int .u8 0, .int .u8 0, .int .u8 0, .int .u8 0, .int .u8 0, .int .u8 0, .int .u8 0, .int .u8 0, .int .u8 0, .int .u8 0, .int .u8 0, .int .u8 0, .int .u8 0, .int .u8 0, .int .u8 0, .int .u8 0, .int .u8 0, .int .u8 0, .int .u8 0, .int .u8 0, .int .u8 0, .int .u8 0, .int .u8 0, .int .u8 0, .int .u8 0, .int .u8 0, .int .u8 0, .int .u8 0, .int .u8 0, .int .u8 0, .int .u8 0, .int .u8 0, .int .u8 0, .int .u8 0, .int .u8 0, .int .u8 0, .int .u8 0, .int .u8 0, .int .u8 0, .int .u8 0, .int .u8 0, .int .u8 0, .int .u8 0, .int .u8 0, .int .u8 0] := by kernel_rfl
theorem bld5_31  : ∀ w : World, (Instr.build 48 #[(0, U8 (1#8)), (1, U8 (5#8)), (4, I64 (4194304#64))]).run Tryz.prog w = .ok (.agg #[U8 (1#8), U8 (5#8), .int .u8 (0), .int .u8 (0), I64 (4194304#64)]) w := fun _ => by kernel_rfl
theorem bls5_32  : ∀ w : World, (Instr.buildSlice 49 1 #[(0, .agg #[U8 (1#8), U8 (5#8), .int .u8 (0), .int .u8 (0), I64 (4194304#64)])]).run Tryz.prog w = .ok (.slice (some ⟨w.heap.size, 0, none⟩) 1 1) (w.alloc (.cells #[U8 (1#8), U8 (5#8), .int .u8 (0), .int .u8 (0), I64 (4194304#64)] 48)) := fun _ => by kernel_rfl
theorem bld5_84 (x : BitVec 64) : ∀ w : World, (Instr.build 48 #[(0, U8 (1#8)), (1, U8 (6#8)), (4, I64 (x))]).run Tryz.prog w = .ok (.agg #[U8 (1#8), U8 (6#8), .int .u8 (0), .int .u8 (0), I64 (x)]) w := fun _ => by kernel_rfl
theorem bld5_88 (x : BitVec 64) : ∀ w : World, (Instr.build 48 #[(0, U8 (41#8)), (1, U8 (6#8)), (2, U8 (6#8)), (4, I64 (x))]).run Tryz.prog w = .ok (.agg #[U8 (41#8), U8 (6#8), U8 (6#8), .int .u8 (0), I64 (x)]) w := fun _ => by kernel_rfl
theorem bls5_89 (x y : BitVec 64) : ∀ w : World, (Instr.buildSlice 49 2 #[(0, .agg #[U8 (1#8), U8 (6#8), U8 (0#8), U8 (0#8), I64 (x)]), (1, .agg #[U8 (41#8), U8 (6#8), U8 (6#8), U8 (0#8), I64 (y)])]).run Tryz.prog w = .ok (.slice (some ⟨w.heap.size, 0, none⟩) 2 2) (w.alloc (.cells #[U8 (1#8), U8 (6#8), U8 (0#8), U8 (0#8), I64 (x), U8 (41#8), U8 (6#8), U8 (6#8), U8 (0#8), I64 (y)] 48)) := fun _ => by kernel_rfl
theorem ap49 : appT Tryz.prog 49 = some (48, 5, 16, #[.int .u8 0, .int .u8 0, .int .u8 0, .int .u8 0, .int .i64 0]) := by kernel_rfl
theorem bld5_98 (p : BitVec 8) (q : Nat) : ∀ w : World, (Instr.build 48 #[(0, U8 (p)), (2, U8 (5#8)), (3, U8 (6#8)), (4, IN (q))]).run Tryz.prog w = .ok (.agg #[U8 (p), .int .u8 (0), U8 (5#8), U8 (6#8), IN (q)]) w := fun _ => by kernel_rfl
theorem bls5_107 (p s : BitVec 8) (z : Int) : ∀ w : World, (Instr.buildSlice 49 1 #[(0, .agg #[U8 (p), U8 (0#8), U8 (s), U8 (6#8), .int .i64 (z)])]).run Tryz.prog w = .ok (.slice (some ⟨w.heap.size, 0, none⟩) 1 1) (w.alloc (.cells #[U8 (p), U8 (0#8), U8 (s), U8 (6#8), .int .i64 (z)] 48)) := fun _ => by kernel_rfl
theorem ar46 : arrT Tryz.prog 46 = some (128, 5) := by kernel_rfl
theorem bld5_128  : ∀ w : World, (Instr.build 48 #[(0, U8 (22#8)), (1, U8 (0#8)), (2, U8 (5#8)), (4, I64 (7#64))]).run Tryz.prog w = .ok (.agg #[U8 (22#8), U8 (0#8), U8 (5#8), .int .u8 (0), I64 (7#64)]) w := fun _ => by kernel_rfl
theorem bld5_129  : ∀ w : World, (Instr.build 48 #[(0, U8 (22#8)), (1, U8 (17#8)), (4, I64 (3#64))]).run Tryz.prog w = .ok (.agg #[U8 (22#8), U8 (17#8), .int .u8 (0), .int .u8 (0), I64 (3#64)]) w := fun _ => by kernel_rfl
theorem bld5_130  : ∀ w : World, (Instr.build 48 #[(0, U8 (64#8))]).run Tryz.prog w = .ok (.agg #[U8 (64#8), .int .u8 (0), .int .u8 (0), .int .u8 (0), IN (0)]) w := fun _ => by kernel_rfl
theorem bls5_131  : ∀ w : World, (Instr.buildSlice 49 3 #[(0, .agg #[U8 (22#8), U8 (0#8), U8 (5#8), .int .u8 (0), I64 (7#64)]), (1, .agg #[U8 (22#8), U8 (17#8), .int .u8 (0), .int .u8 (0), I64 (3#64)]), (2, .agg #[U8 (64#8), .int .u8 (0), .int .u8 (0), .int .u8 (0), IN (0)])]).run Tryz.prog w = .ok (.slice (some ⟨w.heap.size, 0, none⟩) 3 3) (w.alloc (.cells #[U8 (22#8), U8 (0#8), U8 (5#8), .int .u8 (0), I64 (7#64), U8 (22#8), U8 (17#8), .int .u8 (0), .int .u8 (0), I64 (3#64), U8 (64#8), .int .u8 (0), .int .u8 (0), .int .u8 (0), IN (0)] 48)) := fun _ => by kernel_rfl
theorem ca19 : callable Tryz.prog 19 = true := by kernel_rfl
theorem ca21 : callable Tryz.prog 21 = true := by kernel_rfl
open Go.Proofs.M (instV Glob)
open Go.Ux.Image
set_option maxRecDepth 100000 in
theorem keeps_big (av zv nv : Value) (A Z : List (BitVec 8)) (N : List (BitVec 32)) (w : World) (hG : Glob w) (hX : w.cell? ⟨3, 0, none⟩ = some (.iface 206 (.agg #[.pointer (some ⟨6, 83, none⟩)]))) (hA : Sl w av 1 A.length (A.map U8)) (hZ : Sl w zv 1 Z.length (Z.map U8)) (hN : Sl w nv 1 N.length (wordCells N)) (h40 : 40 < A.length) : CallsR Tryz.prog 5 #[av, zv, nv] w (fun v w' => v = .bool true ∧ Ext w w') := by
  refine callsR_of Tryz.func5 rfl rfl rfl ?_
  refine WC.seq (WC.region (WL.assign (v := .bool (false)) rfl rfl (WL.nil (WC.seq (WC.seq (WC.region (WL.move (v := av) rfl rfl (WL.lenSl (sz := 1) (m := A.length) (xs := A.map U8) el45 rfl (hA) rfl (WL.bin (v := .bool (true)) rfl rfl rfl (BinR.toB (BinR.gtr) (decide_eq_true (by omega))) ?_)))))))))
  refine WL.nil (WC.condT rfl (WC.seq (WC.region (WL.call ca9 (rfl) rfl (works_spec _ (hG) (hX)) ?_))))
  rintro _ wk30 ⟨rfl, ek30⟩
  have E1 : Ext w wk30 := Mod.trans (Mod.refl _ _) (ek30)
  refine WL.assign (v := .bool (true)) rfl rfl (WL.nil (WC.ret ?_))
  exact ⟨_, Res.one (v := .bool (true)) rfl rfl, rfl, E1⟩
set_option maxRecDepth 100000 in
set_option maxHeartbeats 8000000 in
theorem keeps_ok (av zv nv : Value) (A Z : List (BitVec 8)) (N : List (BitVec 32)) (w : World) (hG : Glob w) (hX : w.cell? ⟨3, 0, none⟩ = some (.iface 206 (.agg #[.pointer (some ⟨6, 83, none⟩)]))) (hA : Sl w av 1 A.length (A.map U8)) (hZ : Sl w zv 1 Z.length (Z.map U8)) (hN : Sl w nv 1 N.length (wordCells N)) (h40A : ¬ 40 < A.length) : CallsR Tryz.prog 5 #[av, zv, nv] w (fun v w' => v = .bool true ∧ Ext w w') := by
  have h40 : (keepRs A Z N).length ≤ 40 := by rw [keepRs_length]; omega
  have hlen2 := (keep_words (keepRs A Z N)).code.1
  have hlen : (codeW (keepL (keepRs A Z N))).length = 3 * (keepRs A Z N).length + 4 := hlen2.trans (keepL_length _)
  obtain ⟨Mf, hrun, hf, hx0, hn, hmm⟩ := keep_run (keepRs A Z N) h40
  have hb1 : (Mf.fin == some true) = false := by rw [hf]; rfl
  have hb2 : Mf.fin.isSome = true := by rw [hf]; rfl
  refine callsR_of Tryz.func5 rfl rfl rfl ?_
  refine WC.seq (WC.region (WL.assign (v := .bool (false)) rfl rfl (WL.nil (WC.seq (WC.seq (WC.region (WL.move (v := av) rfl rfl (WL.lenSl (sz := 1) (m := A.length) (xs := A.map U8) el45 rfl (hA) rfl (WL.bin (v := .bool (false)) rfl rfl rfl (BinR.toB (BinR.gtr) (decide_eq_false (by omega))) ?_)))))))))
  refine WL.nil (WC.condF rfl (WC.skip (WC.seq (WC.region (WL.alloc zt46 rfl ?_)))))
  intro b7 w7 n7
  have E1 : Ext w w7 := Mod.trans (Mod.refl _ _) (n7.ext)
  have h7 : Blk w7 b7 (memC (fun _ => 0#8)) 46 := by rw [mem_zero]; exact n7.blk
  have hb7 : w.heap.size ≤ b7 := by have := n7.num; have := Mod.size (Mod.refl (fun _ => False) w); omega
  refine WL.nil (WC.seq (WC.region (WL.build (v := .agg #[U8 (1#8), U8 (5#8), .int .u8 (0), .int .u8 (0), I64 (4194304#64)]) (vs := [(0, U8 (1#8)), (1, U8 (5#8)), (4, I64 (4194304#64))]) rfl (bld5_31) rfl (WL.buildSlice (vs := [(0, .agg #[U8 (1#8), U8 (5#8), .int .u8 (0), .int .u8 (0), I64 (4194304#64)])]) rfl (bls5_32) rfl ?_))))
  intro b32 w32 n32
  have E2 : Ext w w32 := Mod.trans (E1) (n32.ext)
  have o32 : Ux.Own w32 5 (.slice (some ⟨b32, 0, none⟩) 1 1) (1 + 3 * 0) (instCells (keepPre (keepRs A Z N) 0)) := Blk.ownS (n32.blk) (keepPre_zero _) (by rw [← keepPre_zero]; rfl)
  have ne32 : (.slice (some ⟨b32, 0, none⟩) 1 1 : Value).ownBlock ≠ some b7 := fun e => by have h : b32 = b7 := Option.some.inj e; have := (h7).lt; have := n32.num; omega
  have fr32 : From w.heap.size (.slice (some ⟨b32, 0, none⟩) 1 1) := fun g hg => by have h : b32 = g := Option.some.inj hg; have := n32.num; have := Mod.size (E1); omega
  refine WL.assign (v := .slice (some ⟨b32, 0, none⟩) 1 1) rfl rfl (WL.nil (WC.seq (WC.seq (WC.region (WL.assign (v := IN (0)) rfl rfl (WL.nil (WC.block ?_)))))))
  refine WC.loop (fun k f w_ => ∃ i lv, (k + i = (keepRs A Z N).length) ∧ f 0 = av ∧ f 1 = zv ∧ f 2 = nv ∧ f 7 = ptr b7 0 ∧ f 8 = lv ∧ f 9 = IN (i) ∧ (Ext w w_) ∧ (Ux.Own w_ 5 lv (1 + 3 * i) (instCells (keepPre (keepRs A Z N) i))) ∧ (From w.heap.size lv) ∧ (lv.ownBlock ≠ some b7) ∧ (Blk w_ b7 (memC (keepMem ((keepRs A Z N).take i))) 46)) ((keepRs A Z N).length) ?_ ?_
  have B3 := (h7).ext (n32.ext)
  · exact ⟨(0), (.slice (some ⟨b32, 0, none⟩) 1 1), by omega, rfl, rfl, rfl, rfl, rfl, rfl, E2, o32, fr32, ne32, B3⟩
  rintro ka f1 wr ⟨i, lv, hki, h0_1, h1_1, h2_1, h7_1, h8_1, h9_1, hE, hO, hF, hne, hM⟩
  refine WC.seq (WC.seq ?_)
  refine WC.cut (fun f' w_ => f' 0 = av ∧ f' 1 = zv ∧ f' 2 = nv ∧ f' 7 = ptr b7 0 ∧ f' 8 = lv ∧ f' 9 = IN (i) ∧ f' 48 = .bool (decide (i < (keepRs A Z N).length)) ∧ wr = w_) ?_ ?_
  · refine WC.region (WL.move (v := IN (i)) h9_1 rfl (WL.move (v := av) h0_1 rfl (WL.lenSl (sz := 1) (m := A.length) (xs := A.map U8) el45 rfl ((hA).ext' (hE)) rfl (WL.bin rfl rfl rfl (BinR.lss) (WL.move (v := .bool (decide (((i : Nat) : Int) < ((A.length : Nat) : Int)))) rfl rfl ?_)))))
    rcases Bool.eq_false_or_eq_true (decide (((i : Nat) : Int) < ((A.length : Nat) : Int))) with hg37 | hg37
    · refine WL.guardT (yf_bool rfl rfl hg37) (WL.move (v := IN (i)) h9_1 rfl (WL.guardT (yf_bool rfl rfl hg37) (WL.move (v := zv) h1_1 rfl (WL.guardT (yf_bool rfl rfl hg37) (WL.lenSl (sz := 1) (m := Z.length) (xs := Z.map U8) el45 rfl ((hZ).ext' (hE)) rfl (WL.guardT (yf_bool rfl rfl hg37) (WL.bin rfl rfl rfl (BinR.lss) (WL.pick (b := true) (congrArg Value.bool hg37) rfl rfl (WL.move (v := .bool (decide (((i : Nat) : Int) < ((Z.length : Nat) : Int)))) rfl rfl ?_)))))))))
      rcases Bool.eq_false_or_eq_true (decide (((i : Nat) : Int) < ((Z.length : Nat) : Int))) with hg43 | hg43
      · refine WL.guardT (yf_bool rfl rfl hg43) (WL.move (v := IN (i)) h9_1 rfl (WL.guardT (yf_bool rfl rfl hg43) (WL.move (v := nv) h2_1 rfl (WL.guardT (yf_bool rfl rfl hg43) (WL.lenSl (sz := 1) (m := N.length) (xs := wordCells N) el23 rfl ((hN).ext' (hE)) rfl (WL.guardT (yf_bool rfl rfl hg43) (WL.bin rfl rfl rfl (BinR.lss) (WL.pick (b := true) (congrArg Value.bool hg43) rfl rfl (WL.nil ?_)))))))))
        have hcut : (decide (((i : Nat) : Int) < ((N.length : Nat) : Int))) = decide (i < (keepRs A Z N).length) := by
          rw [keepRs_length]
          first
          | (have a := of_decide_eq_true hg37; have b := of_decide_eq_true hg43; apply decide_eq_decide.2; omega)
          | (have a := of_decide_eq_false hg37; exact (decide_eq_false (by omega)).symm)
          | (have b := of_decide_eq_false hg43; exact (decide_eq_false (by omega)).symm)
        exact ⟨rfl, h0_1, h1_1, h2_1, h7_1, h8_1, h9_1, congrArg Value.bool hcut, rfl⟩
      · refine WL.guardF (b' := false) (yf_bool rfl rfl hg43) rfl rfl (WL.guardF (b' := false) (yf_bool rfl rfl hg43) rfl rfl (WL.guardF (b' := false) (yf_bool rfl rfl hg43) rfl rfl (WL.guardF (b' := false) (yf_bool rfl rfl hg43) rfl rfl (WL.pick (b := false) (congrArg Value.bool hg43) rfl rfl (WL.nil ?_)))))
        have hcut : (false) = decide (i < (keepRs A Z N).length) := by
          rw [keepRs_length]
          first
          | (have a := of_decide_eq_true hg37; have b := of_decide_eq_true hg43; apply decide_eq_decide.2; omega)
          | (have a := of_decide_eq_false hg37; exact (decide_eq_false (by omega)).symm)
          | (have b := of_decide_eq_false hg43; exact (decide_eq_false (by omega)).symm)
        exact ⟨rfl, h0_1, h1_1, h2_1, h7_1, h8_1, h9_1, congrArg Value.bool hcut, rfl⟩
    · refine WL.guardF (b' := false) (yf_bool rfl rfl hg37) rfl rfl (WL.guardF (b' := false) (yf_bool rfl rfl hg37) rfl rfl (WL.guardF (b' := false) (yf_bool rfl rfl hg37) rfl rfl (WL.guardF (b' := false) (yf_bool rfl rfl hg37) rfl rfl (WL.pick (b := false) (congrArg Value.bool hg37) rfl rfl (WL.move (v := .bool (false)) rfl rfl (WL.guardF (b' := false) (rfl) rfl rfl (WL.guardF (b' := false) (rfl) rfl rfl (WL.guardF (b' := false) (rfl) rfl rfl (WL.guardF (b' := false) (rfl) rfl rfl ?_)))))))))
      refine WL.pick (b := false) rfl rfl rfl (WL.nil ?_)
      have hcut : (false) = decide (i < (keepRs A Z N).length) := by
        rw [keepRs_length]
        first
        | (have a := of_decide_eq_true hg37; have b := of_decide_eq_true hg43; apply decide_eq_decide.2; omega)
        | (have a := of_decide_eq_false hg37; exact (decide_eq_false (by omega)).symm)
        | (have b := of_decide_eq_false hg43; exact (decide_eq_false (by omega)).symm)
      exact ⟨rfl, h0_1, h1_1, h2_1, h7_1, h8_1, h9_1, congrArg Value.bool hcut, rfl⟩
  rintro fc6 _ ⟨hc6_0, hc6_1, hc6_2, hc6_7, hc6_8, hc6_9, hc6_48, rfl⟩
  refine WC.cond hc6_48 (fun hc48 => ?_) (fun hc48 => ?_)
  · have hi : i < (keepRs A Z N).length := of_decide_eq_true hc48
    obtain ⟨r, hr, ha, hz, hn_⟩ := keepRs_at A Z N hi
    have hrl := keepRs_length A Z N
    have hrat := r.at
    have hrs := r.size
    have hi40 : i < 40 := by omega
    refine WC.skip (WC.seq (WC.block (WC.seq (WC.region (WL.move (v := zv) hc6_1 rfl (WL.move (v := IN (i)) hc6_9 rfl (WL.indexSl (sz := 1) (m := Z.length) (xs := Z.map U8) (i := i) el45 sz5 rfl rfl (by omega) ((hZ).ext' (hE)) rfl ?_)))))))
    intro b53 o53 hb53 hc53
    refine WL.load1 rfl ag5 (by have h := hc53 (i * 1) _ (by rw [Nat.mul_one]; exact hz); exact h) rfl (WL.bin rfl (vy := U8 (4#8)) rfl rfl (BinR.remU8n (by decide)) (WL.bin (vx := I64 1#64) (vy := U8 (r.2.1 % 4#8)) (v := IN (2 ^ r.s)) rfl rfl rfl (keep_shl r) (WL.assign (v := IN ((2 ^ r.s))) rfl rfl (WL.nil (WC.seq (WC.region (WL.move (v := av) hc6_0 rfl (WL.move (v := IN (i)) hc6_9 rfl (WL.indexSl (sz := 1) (m := A.length) (xs := A.map U8) (i := i) el45 sz5 rfl rfl (by omega) ((hA).ext' (hE)) rfl ?_)))))))))
    intro b59 o59 hb59 hc59
    refine WL.load1 rfl ag5 (by have h := hc59 (i * 1) _ (by rw [Nat.mul_one]; exact ha); exact h) rfl (WL.bin rfl (vy := U8 (128#8)) rfl rfl (BinR.remU8n (by decide)) (WL.conv rfl rfl (ConvR.u8n Tryz.underlying5 Tryz.underlying3) (WL.move (v := IN ((2 ^ r.s))) rfl rfl (WL.bin rfl rfl rfl (BinR.quoN (by omega) (by omega)) (WL.move (v := IN ((2 ^ r.s))) rfl rfl (WL.bin rfl rfl rfl ((BinR.mulN (a := (r.1 % 128#8).toNat / 2 ^ r.s) (b := 2 ^ r.s) (by show r.k ≤ _; omega))) (WL.assign (v := IN (r.k)) rfl rfl (WL.nil (WC.seq ?_)))))))))
    refine WC.region (WL.move (v := nv) hc6_2 rfl (WL.move (v := IN (i)) hc6_9 rfl (WL.indexSl (sz := 1) (m := N.length) (xs := wordCells N) (i := i) el23 sz50 rfl rfl (by omega) ((hN).ext' (hE)) rfl ?_)))
    intro b69 o69 hb69 hc69
    refine WL.load1 rfl ag50 (by have h := hc69 (i * 1) _ (by rw [Nat.mul_one]; exact hn_); exact h) rfl (WL.assign (v := U32 (r.2.2)) rfl rfl (WL.nil (WC.seq (WC.region (WL.move (v := U32 (r.2.2)) rfl rfl (WL.bin rfl (vy := U32 (2048#32)) rfl rfl (BinR.addU32) (WL.conv rfl rfl (ConvR.u32i32 Tryz.underlying50 Tryz.underlying21) (WL.conv rfl rfl (ConvR.i32i64 Tryz.underlying21 Tryz.underlying2) (WL.bin rfl (vy := .int .u64 ((12 : Nat) : Int)) rfl rfl BinR.shr64 ?_)))))))))
    refine WL.bin rfl (vy := .int .u64 ((12 : Nat) : Int)) rfl rfl ((keep_hi r.2.2) ▸ BinR.shl64) (WL.assign (v := I64 ((luiX (hi20 r.2.2)))) rfl rfl (WL.nil (WC.seq (WC.region (WL.move (v := U32 (r.2.2)) rfl rfl (WL.conv rfl rfl (ConvR.u32i32 Tryz.underlying50 Tryz.underlying21) (WL.conv rfl rfl (ConvR.i32i64 Tryz.underlying21 Tryz.underlying2) (WL.move (v := I64 ((luiX (hi20 r.2.2)))) rfl rfl (WL.bin rfl rfl rfl (BinR.sub64) ?_)))))))))
    refine WL.assign (v := I64 (((r.2.2.signExtend 64) - (luiX (hi20 r.2.2))))) rfl rfl (WL.nil (WC.seq (WC.region (WL.move (v := lv) hc6_8 rfl (WL.move (v := I64 ((luiX (hi20 r.2.2)))) rfl rfl (WL.build (v := .agg #[U8 (1#8), U8 (6#8), .int .u8 (0), .int .u8 (0), I64 ((luiX (hi20 r.2.2)))]) (vs := [(0, U8 (1#8)), (1, U8 (6#8)), (4, I64 ((luiX (hi20 r.2.2))))]) rfl (bld5_84 (luiX (hi20 r.2.2))) rfl (WL.move (v := I64 (((r.2.2.signExtend 64) - (luiX (hi20 r.2.2))))) rfl rfl (WL.conv rfl rfl (ConvR.i64i32 Tryz.underlying2 Tryz.underlying21) (WL.conv rfl rfl ((keep_lo r.2.2) ▸ ConvR.i32i64 Tryz.underlying21 Tryz.underlying2) ?_)))))))))
    refine WL.build (v := .agg #[U8 (41#8), U8 (6#8), U8 (6#8), .int .u8 (0), I64 ((addX (lo12 r.2.2)))]) (vs := [(0, U8 (41#8)), (1, U8 (6#8)), (2, U8 (6#8)), (4, I64 ((addX (lo12 r.2.2))))]) rfl (bld5_88 (addX (lo12 r.2.2))) rfl (WL.buildSlice (vs := [(0, .agg #[U8 (1#8), U8 (6#8), .int .u8 (0), .int .u8 (0), I64 ((luiX (hi20 r.2.2)))]), (1, .agg #[U8 (41#8), U8 (6#8), U8 (6#8), .int .u8 (0), I64 ((addX (lo12 r.2.2)))])]) rfl (bls5_89 (luiX (hi20 r.2.2)) (addX (lo12 r.2.2))) rfl ?_)
    intro b89 w89 n89
    have N4 : (lv : Value).ownBlock ≠ some b89 := fun e => by have := (hO).lt (by omega) (by decide) e; have := n89.num; omega
    have E6 : Ext w w89 := Mod.trans (hE) (n89.ext)
    have B7 := (hM).ext (n89.ext)
    have hl90 : b7 < w89.heap.size := (B7).lt
    have O8 := (hO).ext (n89.ext)
    refine WL.append (k := 1 + 3 * i) (m := 2) (xs := instCells (keepPre (keepRs A Z N) i)) (news := [U8 (1#8), U8 (6#8), U8 (0#8), U8 (0#8), I64 ((luiX (hi20 r.2.2))), U8 (41#8), U8 (6#8), U8 (6#8), U8 (0#8), I64 ((addX (lo12 r.2.2)))]) ap49 rfl rfl rfl (O8) ((Go.Proofs.M.Sl.ofCells (n := 2) (n89.blk).cells rfl).src Tryz.underlying49 (List.all_eq_true.1 rfl)) (by omega) (by omega) rfl ?_
    intro v90 w90 o90 m90 l90
    have F9 : From w.heap.size v90 := LocV.from l90 (Mod.size (E6)) (hF)
    have N10 : v90.ownBlock ≠ some b7 := LocV.ne l90 ((B7).lt) hne
    have N11 : v90.ownBlock ≠ some b89 := LocV.ne l90 ((n89.blk).lt) N4
    have E12 : Ext w w90 := Mod.from (E6) m90 (hF)
    refine WL.assign (v := v90) rfl rfl (WL.nil (WC.seq (WC.region (WL.move (v := zv) hc6_1 rfl (WL.move (v := IN (i)) hc6_9 rfl (WL.indexSl (sz := 1) (m := Z.length) (xs := Z.map U8) (i := i) el45 sz5 rfl rfl (by omega) ((hZ).ext' (E12)) rfl ?_))))))
    intro b93 o93 hb93 hc93
    refine WL.load1 rfl ag5 (by have h := hc93 (i * 1) _ (by rw [Nat.mul_one]; exact hz); exact h) rfl (WL.bin rfl (vy := U8 (4#8)) rfl rfl (BinR.remU8n (by decide)) (WL.bin (vx := U8 (18#8)) rfl rfl rfl (BinR.addU8) (WL.move (v := IN (r.k)) rfl rfl (WL.build (v := .agg #[U8 ((18#8 + (r.2.1 % 4#8))), .int .u8 (0), U8 (5#8), U8 (6#8), IN (r.k)]) (vs := [(0, U8 ((18#8 + (r.2.1 % 4#8)))), (2, U8 (5#8)), (3, U8 (6#8)), (4, IN (r.k))]) rfl (bld5_98 (18#8 + r.2.1 % 4#8) r.k) rfl ?_))))
    have B13 := (B7).mod (m90) (hne)
    have B14 := (n89.blk).mod (m90) (N4)
    refine WL.allocStore (v := .agg #[U8 ((18#8 + (r.2.1 % 4#8))), .int .u8 (0), U8 (5#8), U8 (6#8), IN (r.k)]) zt48 rfl sz48 rfl rfl rfl rfl ?_
    intro b15 w15 n15
    have N15 : (v90 : Value).ownBlock ≠ some b15 := fun e => by have := (o90).lt (by omega) (by decide) e; have := n15.num; omega
    have hl_b7_b15 : b7 < b15 := by have := (B13).lt; have := n15.num; omega
    have hl_b89_b15 : b89 < b15 := by have := (B14).lt; have := n15.num; omega
    have E16 : Ext w w15 := Mod.trans (E12) (n15.ext)
    refine WL.nil (WC.seq (WC.seq (WC.region (WL.move (v := IN (r.k)) rfl rfl (WL.bin rfl rfl rfl (BinR.geq) (WL.nil ?_))))))
    refine WC.cond rfl (fun hc100 => ?_) (fun hc100 => ?_)
    · have h64 : ¬ r.k < 64 := by have := of_decide_eq_true hc100; omega
      refine WC.seq (WC.region (WL.fieldAddr rfl fo48_2 rfl (WL.storeB (v := U8 (2#8)) rfl rfl rfl sz5 n15.blk (Nat.le_of_ble_eq_true rfl) ?_)))
      intro ws17 ms17 bs17 zs17
      have E17 : Ext w ws17 := Mod.own (E12) n15 (E16) (ms17)
      refine WL.nil (WC.region (WL.move (v := IN (r.k)) rfl rfl (WL.bin rfl rfl rfl (BinR.subI (by omega)) (WL.fieldAddr rfl fo48_4 rfl (WL.storeB (v := .int .i64 (((r.k : Nat) : Int) - (128 : Int))) rfl rfl rfl sz2 bs17 (Nat.le_of_ble_eq_true rfl) ?_)))))
      intro ws18 ms18 bs18 zs18
      have E18 : Ext w ws18 := Mod.own (E12) n15 (E17) (ms18)
      refine WL.nil (WC.seq (WC.region (WL.move (v := v90) rfl rfl (WL.loadS [U8 ((18#8 + (r.2.1 % 4#8))), .int .u8 (0), U8 (2#8), U8 (6#8), .int .i64 (((r.k : Nat) : Int) - (128 : Int))] rfl ag48 sz48 rfl (bs18.sub (o := 0) (vs := [U8 ((18#8 + (r.2.1 % 4#8))), .int .u8 (0), U8 (2#8), U8 (6#8), .int .i64 (((r.k : Nat) : Int) - (128 : Int))]) rfl) rfl ?_))))
      have O19 := (((o90).ext (n15.ext)).mod (ms17) (fun g hg e => N15 (hg.trans (congrArg some e)))).mod (ms18) (fun g hg e => N15 (hg.trans (congrArg some e)))
      refine WL.buildSlice (vs := [(0, .agg #[U8 ((18#8 + (r.2.1 % 4#8))), .int .u8 (0), U8 (2#8), U8 (6#8), .int .i64 (((r.k : Nat) : Int) - (128 : Int))])]) rfl (bls5_107 (18#8 + r.2.1 % 4#8) 2#8 (((r.k : Nat) : Int) - (128 : Int))) rfl ?_
      intro b107 w107 n107
      have N20 : (v90 : Value).ownBlock ≠ some b107 := fun e => by have := (O19).lt (by omega) (by decide) e; have := n107.num; omega
      have E21 : Ext w w107 := Mod.trans (E18) (n107.ext)
      have O22 := (O19).ext (n107.ext)
      refine WL.append (k := 1 + 3 * i + 2) (m := 1) (xs := instCells (keepPre (keepRs A Z N) i) ++ [U8 (1#8), U8 (6#8), U8 (0#8), U8 (0#8), I64 ((luiX (hi20 r.2.2))), U8 (41#8), U8 (6#8), U8 (6#8), U8 (0#8), I64 ((addX (lo12 r.2.2)))]) (news := [U8 ((18#8 + (r.2.1 % 4#8))), .int .u8 (0), U8 (2#8), U8 (6#8), .int .i64 (((r.k : Nat) : Int) - (128 : Int))]) ap49 rfl rfl rfl (O22) ((Sl.of1 (n107.blk).cells rfl).src Tryz.underlying49 (List.all_eq_true.1 rfl)) (by omega) (by omega) rfl ?_
      intro v108 w108 o108 m108 l108
      have o108b : Ux.Own w108 5 v108 (1 + 3 * (i + 1)) (instCells (keepPre (keepRs A Z N) (i + 1))) := by rw [keepPre_snoc hr, keep_hi_cells r h64, show 1 + 3 * (i + 1) = 1 + 3 * i + 2 + 1 by omega]; exact o108
      have F23 : From w.heap.size v108 := LocV.from l108 (Mod.size (E21)) (F9)
      have B25 := ((((B13).ext (n15.ext)).mod (ms17) ((by omega))).mod (ms18) ((by omega))).ext (n107.ext)
      have N24 : v108.ownBlock ≠ some b7 := LocV.ne l108 ((B25).lt) N10
      have B27 := ((((B14).ext (n15.ext)).mod (ms17) ((by omega))).mod (ms18) ((by omega))).ext (n107.ext)
      have N26 : v108.ownBlock ≠ some b89 := LocV.ne l108 ((B27).lt) N11
      have B29 := (bs18).ext (n107.ext)
      have N28 : v108.ownBlock ≠ some b15 := LocV.ne l108 ((B29).lt) N15
      have N30 : v108.ownBlock ≠ some b107 := LocV.ne l108 ((n107.blk).lt) N20
      have E31 : Ext w w108 := Mod.from (E21) m108 (F9)
      refine WL.assign (v := v108) rfl rfl (WL.nil (WC.seq (WC.region (WL.move (v := U32 (r.2.2)) rfl rfl (WL.conv rfl rfl (ConvR.u32i32 Tryz.underlying50 Tryz.underlying21) (WL.conv rfl rfl (ConvR.i32i64 Tryz.underlying21 Tryz.underlying2) (WL.conv rfl rfl (ConvR.i64u64 Tryz.underlying2 Tryz.underlying39) (WL.assign (v := U64 (r.v)) rfl rfl (WL.nil ?_)))))))))
      have hF108 := F23
      have hne108 := N24
      refine WC.seq (WC.region (WL.assign (v := IN (0)) rfl rfl (WL.nil (WC.block ?_))))
      refine WC.loop (fun k f w_ => ∃ j, (k + j = 2 ^ r.s) ∧ f 0 = av ∧ f 1 = zv ∧ f 2 = nv ∧ f 7 = ptr b7 0 ∧ f 8 = v108 ∧ f 9 = IN (i) ∧ f 10 = IN ((2 ^ r.s)) ∧ f 11 = IN (r.k) ∧ f 16 = U64 (r.v) ∧ f 17 = IN (j) ∧ (Ext w w_) ∧ (Ux.Own w_ 5 v108 (1 + 3 * (i + 1)) (instCells (keepPre (keepRs A Z N) (i + 1)))) ∧ (Blk w_ b7 (memC (storeB (keepMem ((keepRs A Z N).take i)) r.k r.v j)) 46)) (2 ^ r.s) ?_ ?_
      have B32 := (B25).mod (m108) (N10)
      · exact ⟨(0), by omega, hc6_0, hc6_1, hc6_2, hc6_7, rfl, hc6_9, rfl, rfl, rfl, rfl, E31, o108b, B32⟩
      rintro kb f2 wj ⟨j, hkj, h0_2, h1_2, h2_2, h7_2, h8_2, h9_2, h10_2, h11_2, h16_2, h17_2, hEj, hOj, hMj⟩
      refine WC.seq (WC.seq (WC.region (WL.move (v := IN (j)) h17_2 rfl (WL.move (v := IN ((2 ^ r.s))) h10_2 rfl (WL.bin rfl rfl rfl (BinR.lss) (WL.nil ?_))))))
      refine WC.cond rfl (fun hc115 => ?_) (fun hc115 => ?_)
      · have hj : j < 2 ^ r.s := by have := of_decide_eq_true hc115; omega
        refine WC.skip (WC.seq (WC.block (WC.region (WL.move (v := IN (r.k)) h11_2 rfl (WL.move (v := IN (j)) h17_2 rfl (WL.bin rfl rfl rfl (BinR.addN (by omega)) (WL.move (v := U64 (r.v)) h16_2 rfl (WL.move (v := IN (j)) h17_2 rfl (WL.bin rfl rfl rfl (BinR.mulN (a := 8) (b := j) (by omega)) ?_)))))))))
        refine WL.bin rfl rfl rfl (BinR.shrU64) (WL.conv rfl rfl (ConvR.u64u8 Tryz.underlying39 Tryz.underlying5) (WL.indexArr1 (i := r.k + j) ar46 sz5 h7_2 rfl (by omega) rfl (WL.storeB (o := 0 + (r.k + j)) (v := U8 (((r.v >>> ((8 * j)))).setWidth 8)) rfl rfl rfl sz5 hMj (show 0 + (r.k + j) < 128 by omega) ?_)))
        intro wz mz bz zz
        rw [mem_set] at bz
        have E33 : Ext w wz := Mod.then (hEj) (mz) (fun i hi (e : i = b7) => absurd hi (by omega))
        refine WL.nil (WC.region (WL.move (v := IN (j)) h17_2 rfl (WL.bin rfl rfl rfl (BinR.succN (by omega)) (WL.assign (v := IN (j + 1)) rfl rfl (WL.nil ?_)))))
        have O34 := (hOj).mod (mz) (fun g hg e => hne108 (hg.trans (congrArg some e)))
        exact ⟨kb - 1, by omega, (j + 1), by omega, h0_2, h1_2, h2_2, h7_2, h8_2, h9_2, h10_2, h11_2, h16_2, rfl, E33, O34, bz⟩
      · have hj : j = 2 ^ r.s := by have := of_decide_eq_false hc115; omega
        subst hj
        refine WC.exit (WC.region (WL.move (v := IN (i)) h9_2 rfl (WL.bin rfl rfl rfl (BinR.succN (by omega)) (WL.assign (v := IN (i + 1)) rfl rfl (WL.nil ?_)))))
        exact ⟨ka - 1, by omega, (i + 1), (v108), by omega, h0_2, h1_2, h2_2, h7_2, h8_2, rfl, hEj, hOj, hF108, hne108, (by rw [keepMem_take hr]; exact hMj)⟩
    · have h64 : r.k < 64 := by have := of_decide_eq_false hc100; omega
      refine WC.skip (WC.seq (WC.region (WL.move (v := v90) rfl rfl (WL.loadS [U8 ((18#8 + (r.2.1 % 4#8))), .int .u8 (0), U8 (5#8), U8 (6#8), IN (r.k)] rfl ag48 sz48 rfl (n15.blk.sub (o := 0) (vs := [U8 ((18#8 + (r.2.1 % 4#8))), .int .u8 (0), U8 (5#8), U8 (6#8), IN (r.k)]) rfl) rfl ?_))))
      have O35 := (o90).ext (n15.ext)
      refine WL.buildSlice (vs := [(0, .agg #[U8 ((18#8 + (r.2.1 % 4#8))), .int .u8 (0), U8 (5#8), U8 (6#8), IN (r.k)])]) rfl (bls5_107 (18#8 + r.2.1 % 4#8) 5#8 ((r.k : Nat) : Int)) rfl ?_
      intro b107 w107 n107
      have N36 : (v90 : Value).ownBlock ≠ some b107 := fun e => by have := (O35).lt (by omega) (by decide) e; have := n107.num; omega
      have E37 : Ext w w107 := Mod.trans (E16) (n107.ext)
      have O38 := (O35).ext (n107.ext)
      refine WL.append (k := 1 + 3 * i + 2) (m := 1) (xs := instCells (keepPre (keepRs A Z N) i) ++ [U8 (1#8), U8 (6#8), U8 (0#8), U8 (0#8), I64 ((luiX (hi20 r.2.2))), U8 (41#8), U8 (6#8), U8 (6#8), U8 (0#8), I64 ((addX (lo12 r.2.2)))]) (news := [U8 ((18#8 + (r.2.1 % 4#8))), .int .u8 (0), U8 (5#8), U8 (6#8), IN (r.k)]) ap49 rfl rfl rfl (O38) ((Sl.of1 (n107.blk).cells rfl).src Tryz.underlying49 (List.all_eq_true.1 rfl)) (by omega) (by omega) rfl ?_
      intro v108 w108 o108 m108 l108
      have o108b : Ux.Own w108 5 v108 (1 + 3 * (i + 1)) (instCells (keepPre (keepRs A Z N) (i + 1))) := by rw [keepPre_snoc hr, keep_lo_cells r h64, show 1 + 3 * (i + 1) = 1 + 3 * i + 2 + 1 by omega]; exact o108
      have F39 : From w.heap.size v108 := LocV.from l108 (Mod.size (E37)) (F9)
      have B41 := ((B13).ext (n15.ext)).ext (n107.ext)
      have N40 : v108.ownBlock ≠ some b7 := LocV.ne l108 ((B41).lt) N10
      have B43 := ((B14).ext (n15.ext)).ext (n107.ext)
      have N42 : v108.ownBlock ≠ some b89 := LocV.ne l108 ((B43).lt) N11
      have B45 := (n15.blk).ext (n107.ext)
      have N44 : v108.ownBlock ≠ some b15 := LocV.ne l108 ((B45).lt) N15
      have N46 : v108.ownBlock ≠ some b107 := LocV.ne l108 ((n107.blk).lt) N36
      have E47 : Ext w w108 := Mod.from (E37) m108 (F9)
      refine WL.assign (v := v108) rfl rfl (WL.nil (WC.seq (WC.region (WL.move (v := U32 (r.2.2)) rfl rfl (WL.conv rfl rfl (ConvR.u32i32 Tryz.underlying50 Tryz.underlying21) (WL.conv rfl rfl (ConvR.i32i64 Tryz.underlying21 Tryz.underlying2) (WL.conv rfl rfl (ConvR.i64u64 Tryz.underlying2 Tryz.underlying39) (WL.assign (v := U64 (r.v)) rfl rfl (WL.nil ?_)))))))))
      have hF108 := F39
      have hne108 := N40
      refine WC.seq (WC.region (WL.assign (v := IN (0)) rfl rfl (WL.nil (WC.block ?_))))
      refine WC.loop (fun k f w_ => ∃ j, (k + j = 2 ^ r.s) ∧ f 0 = av ∧ f 1 = zv ∧ f 2 = nv ∧ f 7 = ptr b7 0 ∧ f 8 = v108 ∧ f 9 = IN (i) ∧ f 10 = IN ((2 ^ r.s)) ∧ f 11 = IN (r.k) ∧ f 16 = U64 (r.v) ∧ f 17 = IN (j) ∧ (Ext w w_) ∧ (Ux.Own w_ 5 v108 (1 + 3 * (i + 1)) (instCells (keepPre (keepRs A Z N) (i + 1)))) ∧ (Blk w_ b7 (memC (storeB (keepMem ((keepRs A Z N).take i)) r.k r.v j)) 46)) (2 ^ r.s) ?_ ?_
      have B48 := (B41).mod (m108) (N10)
      · exact ⟨(0), by omega, hc6_0, hc6_1, hc6_2, hc6_7, rfl, hc6_9, rfl, rfl, rfl, rfl, E47, o108b, B48⟩
      rintro kb f2 wj ⟨j, hkj, h0_2, h1_2, h2_2, h7_2, h8_2, h9_2, h10_2, h11_2, h16_2, h17_2, hEj, hOj, hMj⟩
      refine WC.seq (WC.seq (WC.region (WL.move (v := IN (j)) h17_2 rfl (WL.move (v := IN ((2 ^ r.s))) h10_2 rfl (WL.bin rfl rfl rfl (BinR.lss) (WL.nil ?_))))))
      refine WC.cond rfl (fun hc115 => ?_) (fun hc115 => ?_)
      · have hj : j < 2 ^ r.s := by have := of_decide_eq_true hc115; omega
        refine WC.skip (WC.seq (WC.block (WC.region (WL.move (v := IN (r.k)) h11_2 rfl (WL.move (v := IN (j)) h17_2 rfl (WL.bin rfl rfl rfl (BinR.addN (by omega)) (WL.move (v := U64 (r.v)) h16_2 rfl (WL.move (v := IN (j)) h17_2 rfl (WL.bin rfl rfl rfl (BinR.mulN (a := 8) (b := j) (by omega)) ?_)))))))))
        refine WL.bin rfl rfl rfl (BinR.shrU64) (WL.conv rfl rfl (ConvR.u64u8 Tryz.underlying39 Tryz.underlying5) (WL.indexArr1 (i := r.k + j) ar46 sz5 h7_2 rfl (by omega) rfl (WL.storeB (o := 0 + (r.k + j)) (v := U8 (((r.v >>> ((8 * j)))).setWidth 8)) rfl rfl rfl sz5 hMj (show 0 + (r.k + j) < 128 by omega) ?_)))
        intro wz mz bz zz
        rw [mem_set] at bz
        have E49 : Ext w wz := Mod.then (hEj) (mz) (fun i hi (e : i = b7) => absurd hi (by omega))
        refine WL.nil (WC.region (WL.move (v := IN (j)) h17_2 rfl (WL.bin rfl rfl rfl (BinR.succN (by omega)) (WL.assign (v := IN (j + 1)) rfl rfl (WL.nil ?_)))))
        have O50 := (hOj).mod (mz) (fun g hg e => hne108 (hg.trans (congrArg some e)))
        exact ⟨kb - 1, by omega, (j + 1), by omega, h0_2, h1_2, h2_2, h7_2, h8_2, h9_2, h10_2, h11_2, h16_2, rfl, E49, O50, bz⟩
      · have hj : j = 2 ^ r.s := by have := of_decide_eq_false hc115; omega
        subst hj
        refine WC.exit (WC.region (WL.move (v := IN (i)) h9_2 rfl (WL.bin rfl rfl rfl (BinR.succN (by omega)) (WL.assign (v := IN (i + 1)) rfl rfl (WL.nil ?_)))))
        exact ⟨ka - 1, by omega, (i + 1), (v108), by omega, h0_2, h1_2, h2_2, h7_2, h8_2, rfl, hEj, hOj, hF108, hne108, (by rw [keepMem_take hr]; exact hMj)⟩
  · have hi2 : (keepRs A Z N).length ≤ i := by have := of_decide_eq_false hc48; omega
    have htk : (keepRs A Z N).take i = (keepRs A Z N) := List.take_of_length_le hi2
    rw [htk] at hM
    refine WC.exit (WC.seq (WC.region (WL.move (v := lv) hc6_8 rfl (WL.build (v := .agg #[U8 (22#8), U8 (0#8), U8 (5#8), .int .u8 (0), I64 (7#64)]) (vs := [(0, U8 (22#8)), (1, U8 (0#8)), (2, U8 (5#8)), (4, I64 (7#64))]) rfl (bld5_128) rfl (WL.build (v := .agg #[U8 (22#8), U8 (17#8), .int .u8 (0), .int .u8 (0), I64 (3#64)]) (vs := [(0, U8 (22#8)), (1, U8 (17#8)), (4, I64 (3#64))]) rfl (bld5_129) rfl (WL.build (v := .agg #[U8 (64#8), .int .u8 (0), .int .u8 (0), .int .u8 (0), IN (0)]) (vs := [(0, U8 (64#8))]) rfl (bld5_130) rfl (WL.buildSlice (vs := [(0, .agg #[U8 (22#8), U8 (0#8), U8 (5#8), .int .u8 (0), I64 (7#64)]), (1, .agg #[U8 (22#8), U8 (17#8), .int .u8 (0), .int .u8 (0), I64 (3#64)]), (2, .agg #[U8 (64#8), .int .u8 (0), .int .u8 (0), .int .u8 (0), IN (0)])]) rfl (bls5_131) rfl ?_)))))))
    intro b131 w131 n131
    have N51 : (lv : Value).ownBlock ≠ some b131 := fun e => by have := (hO).lt (by omega) (by decide) e; have := n131.num; omega
    have E53 : Ext w w131 := Mod.trans (hE) (n131.ext)
    have O54 := (hO).ext (n131.ext)
    refine WL.append (k := 1 + 3 * i) (m := 3) (xs := instCells (keepPre (keepRs A Z N) i)) (news := [U8 (22#8), U8 (0#8), U8 (5#8), .int .u8 (0), I64 (7#64), U8 (22#8), U8 (17#8), .int .u8 (0), .int .u8 (0), I64 (3#64), U8 (64#8), .int .u8 (0), .int .u8 (0), .int .u8 (0), IN (0)]) ap49 rfl rfl rfl (O54) ((Go.Proofs.M.Sl.ofCells (n := 3) (n131.blk).cells rfl).src Tryz.underlying49 (List.all_eq_true.1 rfl)) (by omega) (by omega) rfl ?_
    intro v132 w132 o132 m132 l132
    have o132b : Ux.Own w132 5 v132 ((keepL (keepRs A Z N)).length) (instCells (keepL (keepRs A Z N))) := by rw [← keepPre_all _ hi2, keepL_length, show 3 * (keepRs A Z N).length + 4 = 1 + 3 * i + 3 by omega]; exact o132
    have F55 : From w.heap.size v132 := LocV.from l132 (Mod.size (E53)) (hF)
    have B57 := (hM).ext (n131.ext)
    have N56 : v132.ownBlock ≠ some b7 := LocV.ne l132 ((B57).lt) hne
    have N58 : v132.ownBlock ≠ some b131 := LocV.ne l132 ((n131.blk).lt) N51
    have E59 : Ext w w132 := Mod.from (E53) m132 (hF)
    refine WL.assign (v := v132) rfl rfl (WL.nil (WC.seq (WC.region (WL.move (v := v132) rfl rfl ?_))))
    have hS134 : Sl w132 v132 5 (keepL (keepRs A Z N)).length (instCells (keepL (keepRs A Z N))) := (o132b).sl
    refine WL.call ca19 (rfl) rfl (code_spec _ (keepL (keepRs A Z N)) _ (hG.ext (E59)) hS134 (by rw [keepL_length]; omega)) ?_
    rintro v134 w134 ⟨o134, f134, e134⟩
    obtain ⟨g37, c37, rfl, hle37, hcl37⟩ := o134.at (by rw [hlen]; omega)
    have E60 : Ext w w134 := Mod.trans (E59) (e134)
    refine WL.assign (v := .slice (some ⟨g37, 0, none⟩) (codeW (keepL (keepRs A Z N))).length c37) rfl rfl (WL.nil (WC.seq (WC.seq (WC.region (WL.move (v := .slice (some ⟨g37, 0, none⟩) (codeW (keepL (keepRs A Z N))).length c37) rfl rfl (WL.lenSl (sz := 1) (m := (codeW (keepL (keepRs A Z N))).length) (xs := wordCells (codeW (keepL (keepRs A Z N)))) el23 rfl ((o134).sl) rfl (WL.move (v := v132) rfl rfl ?_)))))))
    have O61 := (o132b).ext (e134)
    refine WL.lenSl (sz := 5) (m := (keepL (keepRs A Z N)).length) (xs := instCells (keepL (keepRs A Z N))) el49 rfl ((O61).sl) rfl (WL.bin (v := .bool (false)) rfl rfl rfl (BinR.toB (BinR.neq) (by rw [hlen2]; exact bne_self_eq_false _)) (WL.nil (WC.condF rfl (WC.skip (WC.seq (WC.region (WL.move (v := .slice (some ⟨g37, 0, none⟩) (codeW (keepL (keepRs A Z N))).length c37) rfl rfl (WL.call ca20 (rfl) rfl (whole_spec (some ⟨g37, 0, none⟩) (codeW (keepL (keepRs A Z N))).length c37 64 _) ?_))))))))
    rintro _ w39 ⟨p, rfl, hsy, e39⟩
    have E62 : Ext w w39 := Mod.trans (E60) (e39)
    have O63 := (o134).ext (e39)
    have B64 := (((B57).mod (m132) (hne)).ext (e134)).ext (e39)
    have hl7 : b7 < w39.heap.size := (B64).lt
    have O65 := (O61).ext (e39)
    have hl132 : ∀ g, v132.ownBlock = some g → g < w39.heap.size := fun g e => (O65).lt (by rw [keepL_length]; omega) (by decide) e
    refine WL.call ca10 (rfl) rfl (new_ok (keepImg (keepRs A Z N)) _ _ (.slice none 0 0) [] _ (⟨hsy, (O63).sl, by show 1 ≤ _; decide, by show (codeW (keepL (keepRs A Z N))).length ≤ _; omega⟩ : Rep w39 (.slice (some ⟨p, 0, none⟩) 1 1) (.slice (some ⟨g37, 0, none⟩) (codeW (keepL (keepRs A Z N))).length c37) (keepImg (keepRs A Z N))) (keep_syms _) (hG.ext (E62)) (glob_size (hG.ext (E62))) (Sl.nil _ _ _) (.inl rfl) (by decide) (keep_right _ (by omega))) ?_
    rintro _ wna ⟨Ta, ba, rfl, hMa, hTa, ena⟩
    have hFa : ∀ k, Ta k ≠ 0 → w.heap.size ≤ k := fun k h => Nat.le_trans (Mod.size (E62)) (hTa k h)
    have E66 : Ext w wna := Mod.trans (E62) (ena)
    refine WL.move (v := .tuple #[ptr ba 0, IN 0]) rfl rfl (WL.extract rfl rfl rfl (WL.extract rfl rfl rfl (WL.assign (v := ptr ba 0) rfl rfl (WL.assign (v := IN (0)) rfl rfl (WL.nil (WC.seq (WC.seq (WC.region (WL.move (v := IN (0)) rfl rfl ?_)))))))))
    refine WL.bin (v := .bool (false)) rfl rfl rfl (BinR.toB (BinR.neq) (rfl)) (WL.move (v := .bool (false)) rfl rfl (WL.guardT (rfl) (WL.move (v := ptr ba 0) rfl rfl (WL.guardT (rfl) ?_))))
    have B67 := (B64).ext (ena)
    have O68 := (O65).ext (ena)
    have hz132 : ∀ g, v132.ownBlock = some g → Ta g = 0 := fun g e => by
      rcases Nat.eq_zero_or_pos (Ta g) with h | h
      · exact h
      · have h1 := hTa g (by omega); have h2 := hl132 g e; omega
    have hn132 : ∀ g, v132.ownBlock = some g → g < wna.heap.size := fun g e => (O68).lt (by rw [keepL_length]; omega) (by decide) e
    refine WL.call ca11 (rfl) rfl (run_specN Ta ba (newM (keepImg (keepRs A Z N)) []) _ hMa 1000 (by omega) ((newM_code (by show (codeW (keepL (keepRs A Z N))).length ≤ _; omega))) (hG.ext (E66)) (Mod.cell (E66) hX (fun h => h)) (by show (0 : Nat) ≤ _; omega)) ?_
    rintro v150 wR150 ⟨hv150, TR150, hMR150, mR150, hsR150⟩
    rw [hrun] at hv150 hMR150
    have hMR150 : MR TR150 wR150 ba Mf := hMR150
    obtain rfl : v150 = IN ((keepL (keepRs A Z N)).length) := hv150
    have hFQ69 := floor_turn hFa hsR150 (Mod.size (E66))
    have EMQ70 : Ext w wR150 := Mod.then (E66) mR150 (fun i hi e => absurd (hFa i e) (Nat.not_le_of_lt hi))
    have hQ71 : Ux.Own wR150 5 v132 (keepL (keepRs A Z N)).length ((instCells (keepL (keepRs A Z N)))) := (O68).mod mR150 (fun g hg e => e (hz132 g hg))
    have hQ72 : ∀ g, v132.ownBlock = some g → TR150 g = 0 := fun g hg => zero_of hsR150 (hz132 g hg) (hn132 g hg)
    have hQ73 : ∀ g, v132.ownBlock = some g → g < wR150.heap.size := fun g hg => Nat.lt_of_lt_of_le (hn132 g hg) (Mod.size mR150)
    have hB7 := (B67).mod mR150 (fun e : Ta b7 ≠ 0 => absurd (hTa b7 e) (by omega))
    refine WL.guardT (rfl) (WL.move (v := v132) rfl rfl (WL.guardT (rfl) (WL.lenSl (sz := 5) (m := (keepL (keepRs A Z N)).length) (xs := instCells (keepL (keepRs A Z N))) el49 rfl ((hQ71).sl) rfl (WL.guardT (rfl) (WL.bin (v := .bool (false)) rfl rfl rfl (BinR.toB (BinR.neq) (bne_self_eq_false _)) (WL.pick (b := false) rfl rfl rfl (WL.move (v := .bool (false)) rfl rfl (WL.guardT (rfl) (WL.move (v := ptr ba 0) rfl rfl ?_)))))))))
    refine WL.guardT (rfl) (WL.call ca16 (rfl) rfl (trapped_m TR150 ba Mf _ hMR150 (Mod.cell (EMQ70) hX (fun h => h))) ?_)
    rintro _ wg157 ⟨rfl, eg157⟩
    rw [hb1]
    have E74 : Ext w wg157 := Mod.trans (EMQ70) (eg157)
    have hQ75 := (hMR150).ext eg157
    refine WL.pick (b := false) rfl rfl rfl (WL.move (v := .bool (false)) rfl rfl (WL.guardT (rfl) (WL.move (v := ptr ba 0) rfl rfl (WL.guardT (rfl) (WL.call ca13 (rfl) rfl (ended_spec TR150 ba Mf _ hQ75 ) ?_)))))
    rintro _ wg161 ⟨rfl, eg161⟩
    rw [hb2]
    have E76 : Ext w wg161 := Mod.trans (E74) (eg161)
    have hQ77 := (hQ75).ext eg161
    refine WL.guardT (rfl) (WL.un rfl rfl UnR.not (WL.pick (b := false) rfl rfl rfl (WL.move (v := .bool (false)) rfl rfl (WL.guardT (rfl) (WL.move (v := ptr ba 0) rfl rfl (WL.guardT (rfl) (WL.call ca17 (rfl) rfl (reg_spec TR150 ba Mf _ hQ77 0 (by decide)) ?_)))))))
    rintro _ wg166 ⟨rfl, eg166⟩
    rw [hx0]
    have E78 : Ext w wg166 := Mod.trans (E76) (eg166)
    have hQ79 := (hQ77).ext eg166
    refine WL.guardT (rfl) (WL.bin (v := .bool (false)) rfl (vy := U64 (0#64)) rfl rfl (BinR.toB (BinR.neqU64) (bne_self_eq_false _)) (WL.pick (b := false) rfl rfl rfl (WL.nil (WC.condF rfl (WC.skip (WC.seq (WC.seq (WC.region (WL.assign (v := IN (0)) rfl rfl ?_)))))))))
    refine WL.nil (WC.block ?_)
    refine WC.loop (fun k f w_ => ∃ j, (k + j = 16) ∧ f 7 = ptr b7 0 ∧ f 19 = ptr ba 0 ∧ f 21 = IN ((8 * j)) ∧ (MR TR150 w_ ba Mf) ∧ (Blk w_ b7 (memC (keepMem (keepRs A Z N))) 46) ∧ (Ext w w_)) (16) ?_ ?_
    have B80 := (((hB7).ext (eg157)).ext (eg161)).ext (eg166)
    · exact ⟨(0), by omega, hc6_7, rfl, rfl, hQ79, B80, E78⟩
    rintro kc f2 wr ⟨j, hkc, h7_2, h19_2, h21_2, hLa, hM, hE⟩
    refine WC.seq (WC.seq (WC.region (WL.move (v := IN ((8 * j))) h21_2 rfl (WL.bin rfl rfl rfl (BinR.lss) (WL.nil ?_)))))
    refine WC.cond rfl (fun hc170 => ?_) (fun hc170 => ?_)
    · have hj : 8 * j < 128 := by have := of_decide_eq_true hc170; omega
      refine WC.skip (WC.seq (WC.block (WC.seq (WC.region (WL.move (v := IN ((8 * j))) h21_2 rfl (WL.bin rfl rfl rfl (BinR.addN (a := 4194304) (by omega)) (WL.conv rfl rfl (ConvR.nu64 Tryz.underlying3 Tryz.underlying39) (WL.assign (v := U64 (BitVec.ofNat 64 ((4194304 + 8 * j)))) rfl rfl (WL.nil ?_)))))))))
      refine WC.seq (WC.seq (WC.region (WL.move (v := IN ((8 * j))) h21_2 rfl (WL.bin rfl rfl rfl (BinR.geq) (WL.nil ?_)))))
      refine WC.cond rfl (fun hc177 => ?_) (fun hc177 => ?_)
      · have h64 : ¬ 8 * j < 64 := by have := of_decide_eq_true hc177; omega
        refine WC.region (WL.move (v := IN ((8 * j))) h21_2 rfl (WL.bin rfl rfl rfl (BinR.addN (a := 8388608) (by omega)) (WL.bin rfl rfl rfl (BinR.subN (b := 128) (by omega) (by omega)) (WL.conv rfl rfl (ConvR.nu64 Tryz.underlying3 Tryz.underlying39) (WL.assign (v := U64 (BitVec.ofNat 64 ((8388608 + 8 * j - 128)))) rfl rfl (WL.nil (WC.seq (WC.region (WL.move (v := ptr ba 0) h19_2 rfl ?_)))))))))
        refine WL.move (v := U64 (BitVec.ofNat 64 ((8388608 + 8 * j - 128)))) rfl rfl (WL.call ca21 (rfl) rfl (peek_ok TR150 ba Mf _ hLa (BitVec.ofNat 64 (8388608 + 8 * j - 128)) false (65408 + 8 * j) (by rw [hn]; exact where_hi h64 hj) ) ?_)
        rintro _ wp ⟨rfl, ep⟩
        rw [peek_hi hmm h64 hj]
        have E82 : Ext w wp := Mod.trans (hE) (ep)
        have hQ83 := (hLa).ext ep
        refine WL.move (v := .tuple #[U64 (loadT (keepMem (keepRs A Z N)) (8 * j) 8 8), .bool true]) rfl rfl (WL.extract rfl rfl rfl (WL.extract rfl rfl rfl (WL.assign (v := U64 ((loadT (keepMem (keepRs A Z N)) (8 * j) 8 8))) rfl rfl (WL.assign (v := .bool (true)) rfl rfl (WL.nil (WC.seq (WC.region (WL.assign (v := U64 (0#64)) rfl rfl (WL.nil ?_)))))))))
        refine WC.seq (WC.seq (WC.region (WL.assign (v := IN (7)) rfl rfl (WL.nil (WC.block ?_)))))
        refine WC.loop (fun k f w_ => ∃ q, (k + q = 8) ∧ f 7 = ptr b7 0 ∧ f 19 = ptr ba 0 ∧ f 21 = IN ((8 * j)) ∧ f 23 = U64 ((loadT (keepMem (keepRs A Z N)) (8 * j) 8 8)) ∧ f 24 = .bool (true) ∧ f 25 = U64 ((loadT (keepMem (keepRs A Z N)) (8 * j) 8 q)) ∧ f 26 = .int .i64 ((7 - ((q : Nat) : Int))) ∧ (MR TR150 w_ ba Mf) ∧ (Blk w_ b7 (memC (keepMem (keepRs A Z N))) 46) ∧ (Ext w w_)) (8) ?_ ?_
        have B84 := (hM).ext (ep)
        · exact ⟨(0), by omega, h7_2, h19_2, h21_2, rfl, rfl, rfl, rfl, hQ83, B84, E82⟩
        rintro kd f3 wd ⟨q, hkd, h7_3, h19_3, h21_3, h23_3, h24_3, h25_3, h26_3, hLd, hMd, hEd⟩
        refine WC.seq (WC.seq (WC.region (WL.move (v := .int .i64 ((7 - ((q : Nat) : Int)))) h26_3 rfl (WL.bin rfl rfl rfl (BinR.geq) (WL.nil ?_)))))
        refine WC.cond rfl (fun hc189 => ?_) (fun hc189 => ?_)
        · have hq : q < 8 := by have := of_decide_eq_true hc189; omega
          refine WC.skip (WC.seq (WC.block (WC.region (WL.move (v := U64 ((loadT (keepMem (keepRs A Z N)) (8 * j) 8 q))) h25_3 rfl (WL.bin rfl (vy := .int .u64 ((8 : Nat) : Int)) rfl rfl (BinR.shlU64 (s := 8)) (WL.move (v := IN ((8 * j))) h21_3 rfl (WL.move (v := .int .i64 ((7 - ((q : Nat) : Int)))) h26_3 rfl (WL.bin rfl rfl rfl ((show ((8 * j : Nat) : Int) + (7 - ((q : Nat) : Int)) = ((8 * j + (8 - 1 - q) : Nat) : Int) by omega) ▸ BinR.addI (by omega)) (WL.indexArr1 (i := 8 * j + (8 - 1 - q)) ar46 sz5 h7_3 rfl (by omega) rfl ?_)))))))))
          refine WL.load1 rfl ag5 ((hMd).cell (mem_get (keepMem (keepRs A Z N)) (by omega))) rfl (WL.conv rfl rfl (ConvR.u8u64 Tryz.underlying5 Tryz.underlying39) (WL.bin rfl rfl rfl (BinR.addU64) (WL.assign (v := U64 ((((loadT (keepMem (keepRs A Z N)) (8 * j) 8 q) <<< 8) + ((keepMem (keepRs A Z N) (8 * j + (8 - 1 - q)))).setWidth 64))) rfl rfl (WL.nil (WC.region (WL.move (v := .int .i64 ((7 - ((q : Nat) : Int)))) h26_3 rfl (WL.bin rfl rfl rfl (BinR.subI (by omega)) (WL.assign (v := .int .i64 (((7 - ((q : Nat) : Int)) : Int) - (1 : Int))) rfl rfl (WL.nil ?_)))))))))
          exact ⟨kd - 1, by omega, (q + 1), by omega, h7_3, h19_3, h21_3, h23_3, h24_3, rfl, (by rw [show (7 - (((q + 1 : Nat)) : Int)) = 7 - ((q : Nat) : Int) - (1 : Int) by omega]; exact rfl), hLd, hMd, hEd⟩
        · have hq8 : q = 8 := by have := of_decide_eq_false hc189; omega
          refine WC.exit (WC.seq (WC.region (WL.move (v := .bool (true)) h24_3 rfl (WL.un rfl rfl UnR.not (WL.move (v := .bool (false)) rfl rfl (WL.guardT (rfl) (WL.move (v := U64 ((loadT (keepMem (keepRs A Z N)) (8 * j) 8 8))) h23_3 rfl (WL.guardT (rfl) (WL.move (v := U64 ((loadT (keepMem (keepRs A Z N)) (8 * j) 8 q))) h25_3 rfl ?_)))))))))
          refine WL.guardT (rfl) (WL.bin (v := .bool (false)) rfl rfl rfl (BinR.toB (BinR.neqU64) (by rw [hq8]; exact bne_self_eq_false _)) (WL.pick (b := false) rfl rfl rfl (WL.nil (WC.condF rfl (WC.skip (WC.region (WL.move (v := IN ((8 * j))) h21_3 rfl (WL.bin rfl rfl rfl (BinR.addN (b := 8) (by omega)) (WL.assign (v := IN ((8 * j + 8))) rfl rfl ?_)))))))))
          refine WL.nil ?_
          exact ⟨kc - 1, by omega, (j + 1), by omega, h7_3, h19_3, (by rw [show 8 * (j + 1) = 8 * j + 8 by omega]; exact rfl), hLd, hMd, hEd⟩
      · have h64 : 8 * j < 64 := by have := of_decide_eq_false hc177; omega
        refine WC.skip (WC.seq (WC.region (WL.move (v := ptr ba 0) h19_2 rfl (WL.move (v := U64 (BitVec.ofNat 64 ((4194304 + 8 * j)))) rfl rfl (WL.call ca21 (rfl) rfl (peek_ok TR150 ba Mf _ hLa (BitVec.ofNat 64 (4194304 + 8 * j)) true (8 * j) (by rw [hn]; exact where_lo h64) ) ?_)))))
        rintro _ wp ⟨rfl, ep⟩
        rw [peek_lo hmm h64]
        have E86 : Ext w wp := Mod.trans (hE) (ep)
        have hQ87 := (hLa).ext ep
        refine WL.move (v := .tuple #[U64 (loadT (keepMem (keepRs A Z N)) (8 * j) 8 8), .bool true]) rfl rfl (WL.extract rfl rfl rfl (WL.extract rfl rfl rfl (WL.assign (v := U64 ((loadT (keepMem (keepRs A Z N)) (8 * j) 8 8))) rfl rfl (WL.assign (v := .bool (true)) rfl rfl (WL.nil (WC.seq (WC.region (WL.assign (v := U64 (0#64)) rfl rfl (WL.nil ?_)))))))))
        refine WC.seq (WC.seq (WC.region (WL.assign (v := IN (7)) rfl rfl (WL.nil (WC.block ?_)))))
        refine WC.loop (fun k f w_ => ∃ q, (k + q = 8) ∧ f 7 = ptr b7 0 ∧ f 19 = ptr ba 0 ∧ f 21 = IN ((8 * j)) ∧ f 23 = U64 ((loadT (keepMem (keepRs A Z N)) (8 * j) 8 8)) ∧ f 24 = .bool (true) ∧ f 25 = U64 ((loadT (keepMem (keepRs A Z N)) (8 * j) 8 q)) ∧ f 26 = .int .i64 ((7 - ((q : Nat) : Int))) ∧ (MR TR150 w_ ba Mf) ∧ (Blk w_ b7 (memC (keepMem (keepRs A Z N))) 46) ∧ (Ext w w_)) (8) ?_ ?_
        have B88 := (hM).ext (ep)
        · exact ⟨(0), by omega, h7_2, h19_2, h21_2, rfl, rfl, rfl, rfl, hQ87, B88, E86⟩
        rintro kd f3 wd ⟨q, hkd, h7_3, h19_3, h21_3, h23_3, h24_3, h25_3, h26_3, hLd, hMd, hEd⟩
        refine WC.seq (WC.seq (WC.region (WL.move (v := .int .i64 ((7 - ((q : Nat) : Int)))) h26_3 rfl (WL.bin rfl rfl rfl (BinR.geq) (WL.nil ?_)))))
        refine WC.cond rfl (fun hc189 => ?_) (fun hc189 => ?_)
        · have hq : q < 8 := by have := of_decide_eq_true hc189; omega
          refine WC.skip (WC.seq (WC.block (WC.region (WL.move (v := U64 ((loadT (keepMem (keepRs A Z N)) (8 * j) 8 q))) h25_3 rfl (WL.bin rfl (vy := .int .u64 ((8 : Nat) : Int)) rfl rfl (BinR.shlU64 (s := 8)) (WL.move (v := IN ((8 * j))) h21_3 rfl (WL.move (v := .int .i64 ((7 - ((q : Nat) : Int)))) h26_3 rfl (WL.bin rfl rfl rfl ((show ((8 * j : Nat) : Int) + (7 - ((q : Nat) : Int)) = ((8 * j + (8 - 1 - q) : Nat) : Int) by omega) ▸ BinR.addI (by omega)) (WL.indexArr1 (i := 8 * j + (8 - 1 - q)) ar46 sz5 h7_3 rfl (by omega) rfl ?_)))))))))
          refine WL.load1 rfl ag5 ((hMd).cell (mem_get (keepMem (keepRs A Z N)) (by omega))) rfl (WL.conv rfl rfl (ConvR.u8u64 Tryz.underlying5 Tryz.underlying39) (WL.bin rfl rfl rfl (BinR.addU64) (WL.assign (v := U64 ((((loadT (keepMem (keepRs A Z N)) (8 * j) 8 q) <<< 8) + ((keepMem (keepRs A Z N) (8 * j + (8 - 1 - q)))).setWidth 64))) rfl rfl (WL.nil (WC.region (WL.move (v := .int .i64 ((7 - ((q : Nat) : Int)))) h26_3 rfl (WL.bin rfl rfl rfl (BinR.subI (by omega)) (WL.assign (v := .int .i64 (((7 - ((q : Nat) : Int)) : Int) - (1 : Int))) rfl rfl (WL.nil ?_)))))))))
          exact ⟨kd - 1, by omega, (q + 1), by omega, h7_3, h19_3, h21_3, h23_3, h24_3, rfl, (by rw [show (7 - (((q + 1 : Nat)) : Int)) = 7 - ((q : Nat) : Int) - (1 : Int) by omega]; exact rfl), hLd, hMd, hEd⟩
        · have hq8 : q = 8 := by have := of_decide_eq_false hc189; omega
          refine WC.exit (WC.seq (WC.region (WL.move (v := .bool (true)) h24_3 rfl (WL.un rfl rfl UnR.not (WL.move (v := .bool (false)) rfl rfl (WL.guardT (rfl) (WL.move (v := U64 ((loadT (keepMem (keepRs A Z N)) (8 * j) 8 8))) h23_3 rfl (WL.guardT (rfl) (WL.move (v := U64 ((loadT (keepMem (keepRs A Z N)) (8 * j) 8 q))) h25_3 rfl ?_)))))))))
          refine WL.guardT (rfl) (WL.bin (v := .bool (false)) rfl rfl rfl (BinR.toB (BinR.neqU64) (by rw [hq8]; exact bne_self_eq_false _)) (WL.pick (b := false) rfl rfl rfl (WL.nil (WC.condF rfl (WC.skip (WC.region (WL.move (v := IN ((8 * j))) h21_3 rfl (WL.bin rfl rfl rfl (BinR.addN (b := 8) (by omega)) (WL.assign (v := IN ((8 * j + 8))) rfl rfl ?_)))))))))
          refine WL.nil ?_
          exact ⟨kc - 1, by omega, (j + 1), by omega, h7_3, h19_3, (by rw [show 8 * (j + 1) = 8 * j + 8 by omega]; exact rfl), hLd, hMd, hEd⟩
    · refine WC.exit (WC.seq (WC.region (WL.call ca9 (rfl) rfl (works_spec _ (hG.ext (hE)) (Mod.cell (hE) hX (fun h => h))) ?_)))
      rintro _ wk208 ⟨rfl, ek208⟩
      have E90 : Ext w wk208 := Mod.trans (hE) (ek208)
      refine WL.assign (v := .bool (true)) rfl rfl (WL.nil (WC.ret ?_))
      exact ⟨_, Res.one (v := .bool (true)) rfl rfl, rfl, E90⟩
end Go.Proofs.S
end
section
set_option linter.unusedVariables false
namespace Go.Proofs.S
open Go Go.Ux Go.Ux.Mach Go.Proofs Go.Proofs.M Go.Ux.Image
theorem keeps_spec (av zv nv : Value) (A Z : List (BitVec 8)) (N : List (BitVec 32)) (w : World) (hG : Glob w) (hX : w.cell? ⟨3, 0, none⟩ = some (.iface 206 (.agg #[.pointer (some ⟨6, 83, none⟩)]))) (hA : Sl w av 1 A.length (A.map U8)) (hZ : Sl w zv 1 Z.length (Z.map U8)) (hN : Sl w nv 1 N.length (wordCells N)) : CallsR Tryz.prog 5 #[av, zv, nv] w (fun v w' => v = .bool true ∧ Ext w w') := by
  by_cases h : 40 < A.length
  · exact keeps_big av zv nv A Z N w hG hX hA hZ hN h
  · exact keeps_ok av zv nv A Z N w hG hX hA hZ hN h
end Go.Proofs.S
end
