/- Steps of the proof, packed by program: McKs McKw McL6 McL7 McKn3. -/
import Derived.Test.YtlabgjcjccdjfaaGreatDoorRows
import Derived.Test.YtlabgjcjccdjfaaGreatDoorMpackQ02
import Derived.Test.YtlabgjcjccdjfaaGreatDoorMpackQ08
import Derived.Test.YtlabgjcjccdjfaaGreatDoorMpackQ09
import Derived.Test.YtlabgjcjccdjfaaGreatDoorMpackQ10
import Derived.Test.YtlabgjcjccdjfaaGreatDoorMpackQ12
set_option linter.unusedVariables false
set_option linter.unusedSimpArgs false
set_option linter.unnecessarySimpa false
set_option maxRecDepth 100000
section
namespace Go.Proofs.S
open Go Go.Ux Go.Ux.Mach Go.Proofs Go.Proofs.M Go.Ux.Image
set_option linter.unusedVariables false
theorem keep_hi (n : BitVec 32) : (BitVec.sshiftRight ((n + 2048#32).signExtend 64) 12) <<< 12 = luiX (hi20 n) := by
 have hn := n.isLt
 apply BitVec.eq_of_toNat_eq
 have h1 := nat_of_int (luiX_int (hi20 n))
 rw [hi20_nat] at h1
 have e0 : (n + 2048#32).toNat = (n.toNat + 2048) % 4294967296 := by rw [BitVec.toNat_add]; rfl
 have e1 : (BitVec.sshiftRight ((n + 2048#32).signExtend 64) 12).toInt = (n + 2048#32).toInt / 4096 := by
  rw [BitVec.toInt_sshiftRight, Int.shiftRight_eq_div_pow, BitVec.toInt_signExtend_of_le (by decide)]; rfl
 rw [BitVec.toInt_eq_toNat_cond (n + 2048#32), e0] at e1
 have e2 := nat_of_int e1
 rw [BitVec.toNat_shiftLeft, Nat.shiftLeft_eq]
 generalize (BitVec.sshiftRight ((n + 2048#32).signExtend 64) 12).toNat = a at *
 generalize (luiX (hi20 n)).toNat = b at *
 generalize n.toNat = m at *
 clear e0 e1
 split at e2 <;> split at e2 <;> split at h1 <;> split at h1 <;> omega
theorem keep_lo (n : BitVec 32) : ((n.signExtend 64 - luiX (hi20 n)).setWidth 32).signExtend 64 = addX (lo12 n) := by
 have hn := n.isLt
 apply BitVec.eq_of_toInt_eq
 rw [BitVec.toInt_signExtend_of_le (by decide), addX_int, lo12_nat]
 have h1 := nat_of_int (luiX_int (hi20 n))
 rw [hi20_nat] at h1
 have h2 := nat_of_int (x := n.signExtend 64) (BitVec.toInt_signExtend_of_le (by decide))
 rw [BitVec.toInt_eq_toNat_cond] at h2
 have e : ((n.signExtend 64 - luiX (hi20 n)).setWidth 32).toNat = (18446744073709551616 - (luiX (hi20 n)).toNat + (n.signExtend 64).toNat) % 4294967296 := by
  rw [BitVec.toNat_setWidth, BitVec.toNat_sub]; omega
 rw [BitVec.toInt_eq_toNat_cond, e]
 have hb := (luiX (hi20 n)).isLt
 have ha := (n.signExtend 64).isLt
 generalize (luiX (hi20 n)).toNat = b at *
 generalize (n.signExtend 64).toNat = a at *
 generalize n.toNat = m at *
 clear e
 have e1 : (b : Int) % 4294967296 = (m + 2048) % 4294967296 / 4096 * 4096 := by split at h1 <;> split at h1 <;> omega
 have e2 : (a : Int) % 4294967296 = m := by split at h2 <;> split at h2 <;> omega
 clear h1 h2
 split <;> split <;> omega
theorem keep_shl {P : Program} {t : TypeId} (r : KR) : BinR P .shl t (I64 1#64) (U8 (r.2.1 % 4#8)) (IN (2 ^ r.s)) := by
 have h := BinR.shl64 (P := P) (t := t) (x := 1#64) (yk := .u8) (s := r.s)
 have e : I64 (1#64 <<< r.s) = IN (2 ^ r.s) := by
  have := r.s_lt
  have : r.s = 0 ∨ r.s = 1 ∨ r.s = 2 ∨ r.s = 3 := by omega
  rcases this with e | e | e | e <;> (rw [e]; rfl)
 rw [← e]; exact h
theorem Blk.ownS {w : World} {b size n : Nat} {cs : Array Value} {t : TypeId} {xs : List Value} (h : Blk w b cs t) (hl : cs.toList = xs) (hn : xs.length = n * size) : Ux.Own w size (.slice (some ⟨b, 0, none⟩) n n) n xs := by
 refine ⟨hn, .inr ⟨b, n, G, Nat.le_refl _, ?_, fun j hj => ⟨?_, h.frozen j⟩⟩⟩
 ·subst hl; exact h.cells
 ·have hj' : j < cs.size := by rw [← Array.length_toList, hl, hn]; exact hj
  rw [h.cell (j := j) (Array.getElem?_eq_getElem hj')]; rfl
def keepRs (A Z : List (BitVec 8)) (N : List (BitVec 32)) : List KR := A.zip (Z.zip N)
theorem keepRs_length (A Z : List (BitVec 8)) (N : List (BitVec 32)) : (keepRs A Z N).length = min A.length (min Z.length N.length) := by unfold keepRs; rw [List.length_zip, List.length_zip]
theorem keepRs_at (A Z : List (BitVec 8)) (N : List (BitVec 32)) {i : Nat} (h : i < (keepRs A Z N).length) : ∃ r : KR, (keepRs A Z N)[i]? = some r ∧ (A.map U8)[i]? = some (U8 r.1) ∧ (Z.map U8)[i]? = some (U8 r.2.1) ∧ (wordCells N)[i]? = some (U32 r.2.2) := by
 have hl := keepRs_length A Z N
 have h1 : i < A.length := by omega
 have h2 : i < Z.length := by omega
 have h3 : i < N.length := by omega
 refine ⟨(A[i], Z[i], N[i]), ?_, ?_, ?_, ?_⟩
 ·have h' : i < (A.zip (Z.zip N)).length := h
  unfold keepRs; rw [List.getElem?_eq_getElem h', List.getElem_zip, List.getElem_zip]
 ·rw [List.getElem?_map, List.getElem?_eq_getElem h1]; rfl
 ·rw [List.getElem?_map, List.getElem?_eq_getElem h2]; rfl
 ·unfold wordCells; rw [List.getElem?_map, List.getElem?_eq_getElem h3]; rfl
theorem keepMem_take {rs : List KR} {i : Nat} {r : KR} (h : rs[i]? = some r) : keepMem (rs.take (i + 1)) = storeB (keepMem (rs.take i)) r.k r.v (2 ^ r.s) := by
 rw [List.take_add_one, h]; exact keepMem_snoc _ _
abbrev keepPre (rs : List KR) (i : Nat) : List RvInst := keepHead ++ (rs.take i).flatMap keepI
theorem instCells_app (a b : List RvInst) : instCells (a ++ b) = instCells a ++ instCells b := by unfold instCells; rw [List.flatMap_append]
theorem keepPre_snoc {rs : List KR} {i : Nat} {r : KR} (h : rs[i]? = some r) : instCells (keepPre rs (i + 1)) = (instCells (keepPre rs i) ++ [U8 1#8, U8 6#8, U8 0#8, U8 0#8, I64 (luiX (hi20 r.2.2)), U8 41#8, U8 6#8, U8 6#8, U8 0#8, I64 (addX (lo12 r.2.2))]) ++ instCells [stI r.s r.k] := by
 show instCells (keepHead ++ (rs.take (i + 1)).flatMap keepI) = _
 rw [List.take_add_one, h, List.flatMap_append, ← List.append_assoc, instCells_app, List.append_assoc]
 rfl
theorem keepPre_zero (rs : List KR) : [U8 1#8, U8 5#8, U8 0#8, U8 0#8, I64 4194304#64] = instCells (keepPre rs 0) := by
 unfold keepPre; rw [List.take_zero]; rfl
theorem keep_op (r : KR) : 18#8 + r.2.1 % 4#8 = (stI r.s r.k).op := by
 show _ = BitVec.ofNat 8 (18 + r.s)
 apply BitVec.eq_of_toNat_eq
 rw [BitVec.toNat_add, BitVec.toNat_ofNat]; rfl
theorem keep_lo_cells (r : KR) (h : r.k < 64) : instCells [stI r.s r.k] = [U8 (18#8 + r.2.1 % 4#8), U8 0#8, U8 5#8, U8 6#8, IN r.k] := by
 rw [keep_op]
 show [_, _, U8 (keepB r.k), _, I64 (keepX r.k)] = _
 have e : I64 (keepX r.k) = IN r.k := by
  unfold keepX; rw [if_pos h]
  show Value.int .i64 (BitVec.ofNat 64 r.k).toInt = Value.int .i64 (r.k : Int)
  congr 1
  rw [BitVec.toInt_eq_toNat_cond, BitVec.toNat_ofNat]; split <;> omega
 have e2 : keepB r.k = 5#8 := by unfold keepB; rw [if_pos h]
 rw [e, e2]; rfl
theorem keep_hi_cells (r : KR) (h : ¬ r.k < 64) : instCells [stI r.s r.k] = [U8 (18#8 + r.2.1 % 4#8), U8 0#8, U8 2#8, U8 6#8, .int .i64 (((r.k : Nat) : Int) - (128 : Int))] := by
 have hk := r.at
 rw [keep_op]
 show [_, _, U8 (keepB r.k), _, I64 (keepX r.k)] = _
 have e : I64 (keepX r.k) = .int .i64 (((r.k : Nat) : Int) - (128 : Int)) := by
  unfold keepX; rw [if_neg h]
  show Value.int .i64 (BitVec.ofInt 64 ((r.k : Int) - 128)).toInt = _
  congr 1
  rw [BitVec.toInt_ofInt, Int.bmod_def]; omega
 have e2 : keepB r.k = 2#8 := by unfold keepB; rw [if_neg h]
 rw [e, e2]; rfl
theorem keepPre_all (rs : List KR) {i : Nat} (h : rs.length ≤ i) : instCells (keepPre rs i) ++ [U8 22#8, U8 0#8, U8 5#8, U8 0#8, I64 7#64, U8 22#8, U8 17#8, U8 0#8, U8 0#8, I64 3#64, U8 64#8, U8 0#8, U8 0#8, U8 0#8, I64 0#64] = instCells (keepL rs) := by
 show instCells (keepHead ++ (rs.take i).flatMap keepI) ++ instCells keepTail = _
 rw [List.take_of_length_le h, ← instCells_app]; rfl
abbrev memC (f : Nat → BitVec 8) : Array Value := (bsV f 128).toArray
theorem mem_set (f : Nat → BitVec 8) (i : Nat) (v : BitVec 8) : (memC f).setIfInBounds (0 + i) (U8 v) = memC (updB f i v) := by
 rw [Nat.zero_add]
 show (bsV f 128).toArray.setIfInBounds i (U8 v) = _
 rw [List.setIfInBounds_toArray, bsV_set]
theorem mem_get (f : Nat → BitVec 8) {i : Nat} (h : i < 128) : (memC f)[0 + i]? = some (U8 (f i)) := by
 rw [Nat.zero_add]
 show (bsV f 128).toArray[i]? = _
 rw [List.getElem?_toArray, bsV_get f h]
theorem mem_zero : (memC (fun _ => 0#8)) = Array.replicate 128 (.int .u8 0) := by
 show (bsV _ _).toArray = _
 rw [← bsV_zero]; rfl
theorem keep_syms (rs : List KR) : ∀ s ∈ (keepImg rs).syms, True ∧ s.2 ≤ 9223372036854775807 := by
 intro s hs
 have : s = ([115, 116, 97, 114, 116], 0) := by simpa [keepImg] using hs
 subst this; exact ⟨trivial, by decide⟩
theorem where_lo {j : Nat} (h : 8 * j < 64) : whereM 64 (BitVec.ofNat 64 (4194304 + 8 * j)) 8 = some (true, 8 * j) := by
 have e : (BitVec.ofNat 64 (4194304 + 8 * j)).toNat = 4194304 + 8 * j := by rw [BitVec.toNat_ofNat]; omega
 unfold whereM
 rw [e, if_neg (by omega), if_pos (by omega), show 4194304 + 8 * j - 4194304 = 8 * j by omega]
theorem where_hi {j : Nat} (h : ¬ 8 * j < 64) (h2 : 8 * j < 128) : whereM 64 (BitVec.ofNat 64 (8388608 + 8 * j - 128)) 8 = some (false, 65408 + 8 * j) := by
 have e : (BitVec.ofNat 64 (8388608 + 8 * j - 128)).toNat = 8388608 + 8 * j - 128 := by rw [BitVec.toNat_ofNat]; omega
 unfold whereM
 rw [e, if_neg (by omega), if_neg (by omega), if_pos (by omega), show 8388608 + 8 * j - 128 - 8323072 = 65408 + 8 * j by omega]
theorem loadR_same {f g : Nat → BitVec 8} {o p z : Nat} (h : ∀ x, x < z → f (o + x) = g (p + x)) : ∀ k, k ≤ z → loadR f o z k = loadR g p z k
 | 0, _ => rfl
 | k + 1, hk => by
  show (loadR f o z k <<< 8) ||| (f (o + (z - 1 - k))).setWidth 64 = (loadR g p z k <<< 8) ||| (g (p + (z - 1 - k))).setWidth 64
  rw [loadR_same h k (by omega), h _ (by omega)]
theorem peek_lo {mem : Nat → BitVec 8} {M : MS} (h : MemIs mem M) {j : Nat} (hj : 8 * j < 64) : loadV M.d M.s true (8 * j) 8 false = loadT mem (8 * j) 8 8 := by
 rw [loadT_eq]
 show loadR M.d (8 * j) 8 8 = _
 refine loadR_same (fun x hx => ?_) 8 (Nat.le_refl _)
 rw [h _ (by omega), if_pos (by omega)]
theorem peek_hi {mem : Nat → BitVec 8} {M : MS} (h : MemIs mem M) {j : Nat} (hj : ¬ 8 * j < 64) (h2 : 8 * j < 128) : loadV M.d M.s false (65408 + 8 * j) 8 false = loadT mem (8 * j) 8 8 := by
 rw [loadT_eq]
 show loadR M.s (65408 + 8 * j) 8 8 = _
 refine loadR_same (fun x hx => ?_) 8 (Nat.le_refl _)
 rw [h _ (by omega), if_neg (by omega), Nat.add_assoc]
end Go.Proofs.S
end
section
set_option linter.unusedSimpArgs false
set_option linter.unusedVariables false
namespace Go.Proofs.S
open Go Go.Ux Go.Ux.Mach Go.Proofs
open Tryz
theorem zt46 : zeroT prog 46 = some #[Z1, Z1, Z1, Z1, Z1, Z1, Z1, Z1, Z1, Z1, Z1, Z1, Z1, Z1, Z1, Z1, Z1, Z1, Z1, Z1, Z1, Z1, Z1, Z1, Z1, Z1, Z1, Z1, Z1, Z1, Z1, Z1, Z1, Z1, Z1, Z1, Z1, Z1, Z1, Z1, Z1, Z1, Z1, Z1, Z1, Z1, Z1, Z1, Z1, Z1, Z1, Z1, Z1, Z1, Z1, Z1, Z1, Z1, Z1, Z1, Z1, Z1, Z1, Z1, Z1, Z1, Z1, Z1, Z1, Z1, Z1, Z1, Z1, Z1, Z1, Z1, Z1, Z1, Z1, Z1, Z1, Z1, Z1, Z1, Z1, Z1, Z1, Z1, Z1, Z1, Z1, Z1, Z1, Z1, Z1, Z1, Z1, Z1, Z1, Z1, Z1, Z1, Z1, Z1, Z1, Z1, Z1, Z1, Z1, Z1, Z1, Z1, Z1, Z1, Z1, Z1, Z1, Z1, Z1, Z1, Z1, Z1, Z1, Z1, Z1, Z1, Z1, Z1] := by kernel_rfl
theorem bls5_32  : ∀ w : World, (Instr.buildSlice 49 1 #[(0, .agg #[U8 1#8, U8 5#8, Z1, Z1, I64 4194304#64])]).run prog w = .ok (Sv w.heap.size 1 1) (w.alloc (.cells #[U8 1#8, U8 5#8, Z1, Z1, I64 4194304#64] 48)) := fun _ => by kernel_rfl
theorem bld5_84 (x : BitVec 64) : ∀ w : World, (Instr.build 48 #[(0, U8 1#8), (1, U8 6#8), (4, I64 x)]).run prog w = .ok (.agg #[U8 1#8, U8 6#8, Z1, Z1, I64 x]) w := fun _ => by kernel_rfl
theorem bld5_88 (x : BitVec 64) : ∀ w : World, (Instr.build 48 #[(0, U8 41#8), (1, U8 6#8), (2, U8 6#8), (4, I64 x)]).run prog w = .ok (.agg #[U8 41#8, U8 6#8, U8 6#8, Z1, I64 x]) w := fun _ => by kernel_rfl
theorem bls5_89 (x y : BitVec 64) : ∀ w : World, (Instr.buildSlice 49 2 #[(0, .agg #[U8 1#8, U8 6#8, U8 0#8, U8 0#8, I64 x]), (1, .agg #[U8 41#8, U8 6#8, U8 6#8, U8 0#8, I64 y])]).run prog w = .ok (Sv w.heap.size 2 2) (w.alloc (.cells #[U8 1#8, U8 6#8, U8 0#8, U8 0#8, I64 x, U8 41#8, U8 6#8, U8 6#8, U8 0#8, I64 y] 48)) := fun _ => by kernel_rfl
theorem ap49 : appT prog 49 = some (48, 5, 16, #[Z1, Z1, Z1, Z1, .int .i64 0]) := by kernel_rfl
theorem bld5_98 (p : BitVec 8) (q : Nat) : ∀ w : World, (Instr.build 48 #[(0, U8 p), (2, U8 5#8), (3, U8 6#8), (4, IN q)]).run prog w = .ok (.agg #[U8 p, Z1, U8 5#8, U8 6#8, IN q]) w := fun _ => by kernel_rfl
theorem bls5_107 (p s : BitVec 8) (z : Int) : ∀ w : World, (Instr.buildSlice 49 1 #[(0, .agg #[U8 p, U8 0#8, U8 s, U8 6#8, .int .i64 z])]).run prog w = .ok (Sv w.heap.size 1 1) (w.alloc (.cells #[U8 p, U8 0#8, U8 s, U8 6#8, .int .i64 z] 48)) := fun _ => by kernel_rfl
theorem ar46 : arrT prog 46 = some (128, 5) := by kernel_rfl
theorem bls5_131  : ∀ w : World, (Instr.buildSlice 49 3 #[(0, .agg #[U8 22#8, U8 0#8, U8 5#8, Z1, I64 7#64]), (1, .agg #[U8 22#8, U8 17#8, Z1, Z1, I64 3#64]), (2, .agg #[U8 64#8, Z1, Z1, Z1, IN 0])]).run prog w = .ok (Sv w.heap.size 3 3) (w.alloc (.cells #[U8 22#8, U8 0#8, U8 5#8, Z1, I64 7#64, U8 22#8, U8 17#8, Z1, Z1, I64 3#64, U8 64#8, Z1, Z1, Z1, IN 0] 48)) := fun _ => by kernel_rfl
open Go.Proofs.M (instV Glob)
open Go.Ux.Image
theorem keeps_big (av zv nv : Value) (A Z : List (BitVec 8)) (N : List (BitVec 32)) (w : World) (hG : Glob w) (hX : HX w) (hA : Sl w av 1 A.length (A.map U8)) (hZ : Sl w zv 1 Z.length (Z.map U8)) (hN : Sl w nv 1 N.length (wordCells N)) (h40 : 40 < A.length) : Cx 5 #[av, zv, nv] w (.bool true) := by
 refine Co func5 G G ?_
 refine Sr (Ae (.bool false) (Ni (Sq (Sr (Me av (WL.lenSl (sz := 1) (m := A.length) (xs := A.map U8) el45 G hA G (Bp G G BinR.gtr (Ni (Ct G (Sr (Ca (works_spec _ hG hX) ?_)))))))))))
 rintro _ wk30 ⟨rfl, ek30⟩
 have E1 : Ext w wk30 := ek30
 refine Ae (.bool true) (Ni (WC.ret ?_))
 exact ⟨_, Ro G G, G, E1⟩
set_option maxHeartbeats 8000000 in
theorem keeps_ok (av zv nv : Value) (A Z : List (BitVec 8)) (N : List (BitVec 32)) (w : World) (hG : Glob w) (hX : HX w) (hA : Sl w av 1 A.length (A.map U8)) (hZ : Sl w zv 1 Z.length (Z.map U8)) (hN : Sl w nv 1 N.length (wordCells N)) (h40A : ¬ 40 < A.length) : Cx 5 #[av, zv, nv] w (.bool true) := by
 have h40 : (keepRs A Z N).length ≤ 40 := by rw [keepRs_length]; omega
 have hlen2 := (keep_words (keepRs A Z N)).code.1
 have hlen : (codeW (keepL (keepRs A Z N))).length = 3 * (keepRs A Z N).length + 4 := hlen2.trans (keepL_length _)
 obtain ⟨Mf, hrun, hf, hx0, hn, hmm⟩ := keep_run (keepRs A Z N) h40
 have hb1 : (Mf.fin == some true) = false := by rw [hf]; rfl
 have hb2 : Mf.fin.isSome = true := by rw [hf]; rfl
 refine Co func5 G G ?_
 refine Sr (Ae (.bool false) (Ni (Sq (Sr (Me av (WL.lenSl (sz := 1) (m := A.length) (xs := A.map U8) el45 G hA G (Bo G G BinR.gtr (Ni (Cf G (WC.skip (Sr (WL.alloc zt46 G ?_))))))))))))
 intro b7 w7 n7
 have E1 : Ext w w7 := n7.ext
 have h7 : Blk w7 b7 (memC (fun _ => 0#8)) 46 := by rw [mem_zero]; exact n7.blk
 have hb7 : w.heap.size ≤ b7 := by have := n7.num; have := Mod.size (Mod.refl (fun _ => False) w); omega
 refine Ni (Sr (Bl (.agg #[U8 1#8, U8 5#8, Z1, Z1, I64 4194304#64]) [(0, U8 1#8), (1, U8 5#8), (4, I64 4194304#64)] (WL.buildSlice (vs := [(0, .agg #[U8 1#8, U8 5#8, Z1, Z1, I64 4194304#64])]) G bls5_32 G ?_)))
 intro b32 w32 n32
 have E2 := Mt E1 n32.ext
 have o32 : Ux.Own w32 5 (Sv b32 1 1) (1 + 3 * 0) (instCells (keepPre (keepRs A Z N) 0)) := Blk.ownS n32.blk (keepPre_zero _) (by rw [← keepPre_zero]; rfl)
 have ne32 : (Sv b32 1 1 : Value).ownBlock ≠ some b7 := fun e => by have h : b32 = b7 := Option.some.inj e; have := h7.lt; have := n32.num; omega
 have fr32 : From w.heap.size (Sv b32 1 1) := fun g hg => by have h : b32 = g := Option.some.inj hg; have := n32.num; have := Mod.size E1; omega
 refine Ae (Sv b32 1 1) (Ni (Sq (Sr (Ae (IN 0) (Ni (Bk ?_))))))
 refine WC.loop (fun k f w_ => ∃ i lv, (k + i = (keepRs A Z N).length) ∧ f 0 = av ∧ f 1 = zv ∧ f 2 = nv ∧ f 7 = ptr b7 0 ∧ f 8 = lv ∧ f 9 = IN i ∧ (Ext w w_) ∧ (Ux.Own w_ 5 lv (1 + 3 * i) (instCells (keepPre (keepRs A Z N) i))) ∧ (From w.heap.size lv) ∧ (lv.ownBlock ≠ some b7) ∧ (Blk w_ b7 (memC (keepMem ((keepRs A Z N).take i))) 46)) ((keepRs A Z N).length) ?_ ?_
 have B3 := h7.ext n32.ext
 ·exact ⟨0, (Sv b32 1 1), by omega, G, G, G, G, G, G, E2, o32, fr32, ne32, B3⟩
 rintro ka f1 wr ⟨i, lv, hki, h0_1, h1_1, h2_1, h7_1, h8_1, h9_1, hE, hO, hF, hne, hM⟩
 refine Sq (Sq ?_)
 refine WC.cut (fun f' w_ => f' 0 = av ∧ f' 1 = zv ∧ f' 2 = nv ∧ f' 7 = ptr b7 0 ∧ f' 8 = lv ∧ f' 9 = IN i ∧ f' 48 = .bool (decide (i < (keepRs A Z N).length)) ∧ wr = w_) ?_ ?_
 ·refine Rg (Mv (IN i) h9_1 (Mv av h0_1 (WL.lenSl (sz := 1) (m := A.length) (xs := A.map U8) el45 G (hA.ext' hE) G (Bn G G BinR.lss (Me (.bool (decide (((i : Nat) : Int) < ((A.length : Nat) : Int)))) ?_)))))
  rcases Bool.eq_false_or_eq_true (decide (((i : Nat) : Int) < ((A.length : Nat) : Int))) with hg37 | hg37
  ·refine Gy hg37 (Mv (IN i) h9_1 (Gy hg37 (Mv zv h1_1 (Gy hg37 (WL.lenSl (sz := 1) (m := Z.length) (xs := Z.map U8) el45 G (hZ.ext' hE) G (Gy hg37 (Bn G G BinR.lss (Qt hg37 G (Me (.bool (decide (((i : Nat) : Int) < ((Z.length : Nat) : Int)))) ?_)))))))))
   rcases Bool.eq_false_or_eq_true (decide (((i : Nat) : Int) < ((Z.length : Nat) : Int))) with hg43 | hg43
   ·refine Gy hg43 (Mv (IN i) h9_1 (Gy hg43 (Mv nv h2_1 (Gy hg43 (WL.lenSl (sz := 1) (m := N.length) (xs := wordCells N) el23 G (hN.ext' hE) G (Gy hg43 (Bn G G BinR.lss (Qt hg43 G (Ni ?_)))))))))
    have hcut : (decide (((i : Nat) : Int) < ((N.length : Nat) : Int))) = decide (i < (keepRs A Z N).length) := by
     rw [keepRs_length]
     first
     | (have a := of_decide_eq_true hg37; have b := of_decide_eq_true hg43; apply decide_eq_decide.2; omega)
     | (have a := of_decide_eq_false hg37; exact (decide_eq_false (by omega)).symm)
     | (have b := of_decide_eq_false hg43; exact (decide_eq_false (by omega)).symm)
    exact ⟨G, h0_1, h1_1, h2_1, h7_1, h8_1, h9_1, congrArg Value.bool hcut, G⟩
   ·refine Gz hg43 (Gz hg43 (Gz hg43 (Gz hg43 (Qf hg43 G (Ni ?_)))))
    have hcut : false = decide (i < (keepRs A Z N).length) := by
     rw [keepRs_length]
     first
     | (have a := of_decide_eq_true hg37; have b := of_decide_eq_true hg43; apply decide_eq_decide.2; omega)
     | (have a := of_decide_eq_false hg37; exact (decide_eq_false (by omega)).symm)
     | (have b := of_decide_eq_false hg43; exact (decide_eq_false (by omega)).symm)
    exact ⟨G, h0_1, h1_1, h2_1, h7_1, h8_1, h9_1, congrArg Value.bool hcut, G⟩
  ·refine Gz hg37 (Gz hg37 (Gz hg37 (Gz hg37 (Qf hg37 G (Me (.bool false) (Gx (Gx (Gx (Gx (Pf G (Ni ?_)))))))))))
   have hcut : false = decide (i < (keepRs A Z N).length) := by
    rw [keepRs_length]
    first
    | (have a := of_decide_eq_true hg37; have b := of_decide_eq_true hg43; apply decide_eq_decide.2; omega)
    | (have a := of_decide_eq_false hg37; exact (decide_eq_false (by omega)).symm)
    | (have b := of_decide_eq_false hg43; exact (decide_eq_false (by omega)).symm)
   exact ⟨G, h0_1, h1_1, h2_1, h7_1, h8_1, h9_1, congrArg Value.bool hcut, G⟩
 rintro fc6 _ ⟨hc6_0, hc6_1, hc6_2, hc6_7, hc6_8, hc6_9, hc6_48, rfl⟩
 refine WC.cond hc6_48 (fun hc48 => ?_) (fun hc48 => ?_)
 ·have hi : i < (keepRs A Z N).length := of_decide_eq_true hc48
  obtain ⟨r, hr, ha, hz, hn_⟩ := keepRs_at A Z N hi
  have hrl := keepRs_length A Z N
  have hrat := r.at
  have hrs := r.size
  have hi40 : i < 40 := by omega
  refine WC.skip (Sq (Bk (Sr (Mv zv hc6_1 (Mv (IN i) hc6_9 (WL.indexSl (sz := 1) (m := Z.length) (xs := Z.map U8) (i := i) el45 sz5 G G (by omega) (hZ.ext' hE) G ?_))))))
  intro b53 o53 hb53 hc53
  refine Lx G (by have h := hc53 (i * 1) _ (by rw [Nat.mul_one]; exact hz); exact h) (Bn (vy := U8 4#8) G G (BinR.remU8n (by decide)) (Bn (vx := I64 1#64) (vy := U8 (r.2.1 % 4#8)) (v := IN (2 ^ r.s)) G G (keep_shl r) (Ae (IN ((2 ^ r.s))) (Ni (Sr (Mv av hc6_0 (Mv (IN i) hc6_9 (WL.indexSl (sz := 1) (m := A.length) (xs := A.map U8) (i := i) el45 sz5 G G (by omega) (hA.ext' hE) G ?_))))))))
  intro b59 o59 hb59 hc59
  refine Lx G (by have h := hc59 (i * 1) _ (by rw [Nat.mul_one]; exact ha); exact h) (Bn (vy := U8 128#8) G G (BinR.remU8n (by decide)) (Cv G (ConvR.u8n y5 y3) (Me (IN ((2 ^ r.s))) (Bn G G (BinR.quoN (by omega) (by omega)) (Me (IN ((2 ^ r.s))) (Bn G G ((BinR.mulN (a := (r.1 % 128#8).toNat / 2 ^ r.s) (b := 2 ^ r.s) (by show r.k ≤ _; omega))) (Ae (IN r.k) (Ni (Sr (Mv nv hc6_2 (Mv (IN i) hc6_9 (WL.indexSl (sz := 1) (m := N.length) (xs := wordCells N) (i := i) el23 sz50 G G (by omega) (hN.ext' hE) G ?_))))))))))))
  intro b69 o69 hb69 hc69
  refine Lx G (by have h := hc69 (i * 1) _ (by rw [Nat.mul_one]; exact hn_); exact h) (Ae (U32 r.2.2) (Ni (Sr (Me (U32 r.2.2) (Bn (vy := U32 2048#32) G G BinR.addU32 (Cv G (ConvR.u32i32 y50 y21) (Cv G (ConvR.i32i64 y21 y2) (Bn (vy := .int .u64 ((12 : Nat) : Int)) G G BinR.shr64 (Bn (vy := .int .u64 ((12 : Nat) : Int)) G G ((keep_hi r.2.2) ▸ BinR.shl64) (Ae (I64 ((luiX (hi20 r.2.2)))) (Ni (Sr (Me (U32 r.2.2) (Cv G (ConvR.u32i32 y50 y21) (Cv G (ConvR.i32i64 y21 y2) (Me (I64 ((luiX (hi20 r.2.2)))) (Bn G G BinR.sub64 (Ae (I64 (((r.2.2.signExtend 64) - (luiX (hi20 r.2.2))))) (Ni (Sr ?_))))))))))))))))))))
  refine Mv lv hc6_8 (Me (I64 ((luiX (hi20 r.2.2)))) (WL.build (v := .agg #[U8 1#8, U8 6#8, Z1, Z1, I64 ((luiX (hi20 r.2.2)))]) (vs := [(0, U8 1#8), (1, U8 6#8), (4, I64 ((luiX (hi20 r.2.2))))]) G (bld5_84 (luiX (hi20 r.2.2))) G (Me (I64 (((r.2.2.signExtend 64) - (luiX (hi20 r.2.2))))) (Cv G (ConvR.i64i32 y2 y21) (Cv G ((keep_lo r.2.2) ▸ ConvR.i32i64 y21 y2) (WL.build (v := .agg #[U8 41#8, U8 6#8, U8 6#8, Z1, I64 ((addX (lo12 r.2.2)))]) (vs := [(0, U8 41#8), (1, U8 6#8), (2, U8 6#8), (4, I64 ((addX (lo12 r.2.2))))]) G (bld5_88 (addX (lo12 r.2.2))) G (WL.buildSlice (vs := [(0, .agg #[U8 1#8, U8 6#8, Z1, Z1, I64 ((luiX (hi20 r.2.2)))]), (1, .agg #[U8 41#8, U8 6#8, U8 6#8, Z1, I64 ((addX (lo12 r.2.2)))])]) G (bls5_89 (luiX (hi20 r.2.2)) (addX (lo12 r.2.2))) G ?_)))))))
  intro b89 w89 n89
  have N4 : (lv : Value).ownBlock ≠ some b89 := fun e => by have := hO.lt (by omega) (by decide) e; have := n89.num; omega
  have E6 := Mt hE n89.ext
  have B7 := hM.ext n89.ext
  have hl90 : b7 < w89.heap.size := B7.lt
  have O8 := hO.ext n89.ext
  refine WL.append (k := 1 + 3 * i) (m := 2) (xs := instCells (keepPre (keepRs A Z N) i)) (news := [U8 1#8, U8 6#8, U8 0#8, U8 0#8, I64 ((luiX (hi20 r.2.2))), U8 41#8, U8 6#8, U8 6#8, U8 0#8, I64 ((addX (lo12 r.2.2)))]) ap49 G G G O8 ((Go.Proofs.M.Sl.ofCells (n := 2) n89.blk.cells G).src y49 (List.all_eq_true.1 G)) (by omega) (by omega) G ?_
  intro v90 w90 o90 m90 l90
  have F9 : From w.heap.size v90 := LocV.from l90 (Mod.size E6) hF
  have N10 : v90.ownBlock ≠ some b7 := LocV.ne l90 B7.lt hne
  have N11 : v90.ownBlock ≠ some b89 := LocV.ne l90 n89.blk.lt N4
  have E12 : Ext w w90 := Mod.from E6 m90 hF
  refine Ae v90 (Ni (Sr (Mv zv hc6_1 (Mv (IN i) hc6_9 (WL.indexSl (sz := 1) (m := Z.length) (xs := Z.map U8) (i := i) el45 sz5 G G (by omega) (hZ.ext' E12) G ?_)))))
  intro b93 o93 hb93 hc93
  refine Lx G (by have h := hc93 (i * 1) _ (by rw [Nat.mul_one]; exact hz); exact h) (Bn (vy := U8 4#8) G G (BinR.remU8n (by decide)) (Bn (vx := U8 18#8) G G BinR.addU8 (Me (IN r.k) (WL.build (v := .agg #[U8 ((18#8 + (r.2.1 % 4#8))), Z1, U8 5#8, U8 6#8, IN r.k]) (vs := [(0, U8 ((18#8 + (r.2.1 % 4#8)))), (2, U8 5#8), (3, U8 6#8), (4, IN r.k)]) G (bld5_98 (18#8 + r.2.1 % 4#8) r.k) G ?_))))
  have B13 := B7.mod m90 hne
  have B14 := n89.blk.mod m90 N4
  refine WL.allocStore (v := .agg #[U8 ((18#8 + (r.2.1 % 4#8))), Z1, U8 5#8, U8 6#8, IN r.k]) zt48 G sz48 G G G G ?_
  intro b15 w15 n15
  have N15 : (v90 : Value).ownBlock ≠ some b15 := fun e => by have := o90.lt (by omega) (by decide) e; have := n15.num; omega
  have hl_b7_b15 : b7 < b15 := by have := B13.lt; have := n15.num; omega
  have hl_b89_b15 : b89 < b15 := by have := B14.lt; have := n15.num; omega
  have E16 := Mt E12 n15.ext
  refine Ni (Sq (Sr (Me (IN r.k) (Bn G G BinR.geq (Ni ?_)))))
  refine WC.cond G (fun hc100 => ?_) (fun hc100 => ?_)
  ·have h64 : ¬ r.k < 64 := by have := of_decide_eq_true hc100; omega
   refine Sr (Fa G fo48_2 (WL.storeB (v := U8 2#8) G G G sz5 n15.blk (Nat.le_of_ble_eq_true G) ?_))
   intro ws17 ms17 bs17 zs17
   have E17 : Ext w ws17 := Mod.own E12 n15 E16 ms17
   refine Ni (Rg (Me (IN r.k) (Bn G G (BinR.subI (by omega)) (Fa G fo48_4 (WL.storeB (v := .int .i64 (((r.k : Nat) : Int) - (128 : Int))) G G G sz2 bs17 (Nat.le_of_ble_eq_true G) ?_)))))
   intro ws18 ms18 bs18 zs18
   have E18 : Ext w ws18 := Mod.own E12 n15 E17 ms18
   refine Ni (Sr (Me v90 (Se [U8 ((18#8 + (r.2.1 % 4#8))), Z1, U8 2#8, U8 6#8, .int .i64 (((r.k : Nat) : Int) - (128 : Int))] bs18 ?_)))
   have O19 := ((o90.ext n15.ext).mod ms17 (fun g hg e => N15 (hg.trans (congrArg some e)))).mod ms18 (fun g hg e => N15 (hg.trans (congrArg some e)))
   refine WL.buildSlice (vs := [(0, .agg #[U8 ((18#8 + (r.2.1 % 4#8))), Z1, U8 2#8, U8 6#8, .int .i64 (((r.k : Nat) : Int) - (128 : Int))])]) G (bls5_107 (18#8 + r.2.1 % 4#8) 2#8 (((r.k : Nat) : Int) - (128 : Int))) G ?_
   intro b107 w107 n107
   have N20 : (v90 : Value).ownBlock ≠ some b107 := fun e => by have := O19.lt (by omega) (by decide) e; have := n107.num; omega
   have E21 := Mt E18 n107.ext
   have O22 := O19.ext n107.ext
   refine WL.append (k := 1 + 3 * i + 2) (m := 1) (xs := instCells (keepPre (keepRs A Z N) i) ++ [U8 1#8, U8 6#8, U8 0#8, U8 0#8, I64 ((luiX (hi20 r.2.2))), U8 41#8, U8 6#8, U8 6#8, U8 0#8, I64 ((addX (lo12 r.2.2)))]) (news := [U8 ((18#8 + (r.2.1 % 4#8))), Z1, U8 2#8, U8 6#8, .int .i64 (((r.k : Nat) : Int) - (128 : Int))]) ap49 G G G O22 ((Sl.of1 n107.blk.cells G).src y49 (List.all_eq_true.1 G)) (by omega) (by omega) G ?_
   intro v108 w108 o108 m108 l108
   have o108b : Ux.Own w108 5 v108 (1 + 3 * (i + 1)) (instCells (keepPre (keepRs A Z N) (i + 1))) := by rw [keepPre_snoc hr, keep_hi_cells r h64, show 1 + 3 * (i + 1) = 1 + 3 * i + 2 + 1 by omega]; exact o108
   have F23 : From w.heap.size v108 := LocV.from l108 (Mod.size E21) F9
   have B25 := (((B13.ext n15.ext).mod ms17 (by omega)).mod ms18 (by omega)).ext n107.ext
   have N24 : v108.ownBlock ≠ some b7 := LocV.ne l108 B25.lt N10
   have B27 := (((B14.ext n15.ext).mod ms17 (by omega)).mod ms18 (by omega)).ext n107.ext
   have N26 : v108.ownBlock ≠ some b89 := LocV.ne l108 B27.lt N11
   have B29 := bs18.ext n107.ext
   have N28 : v108.ownBlock ≠ some b15 := LocV.ne l108 B29.lt N15
   have N30 : v108.ownBlock ≠ some b107 := LocV.ne l108 n107.blk.lt N20
   have E31 : Ext w w108 := Mod.from E21 m108 F9
   refine Ae v108 (Ni (Sr (Me (U32 r.2.2) (Cv G (ConvR.u32i32 y50 y21) (Cv G (ConvR.i32i64 y21 y2) (Cv G (ConvR.i64u64 y2 y39) (Ae (U64 r.v) (Ni ?_))))))))
   have hF108 := F23
   have hne108 := N24
   refine Sr (Ae (IN 0) (Ni (Bk ?_)))
   refine WC.loop (fun k f w_ => ∃ j, (k + j = 2 ^ r.s) ∧ f 0 = av ∧ f 1 = zv ∧ f 2 = nv ∧ f 7 = ptr b7 0 ∧ f 8 = v108 ∧ f 9 = IN i ∧ f 10 = IN ((2 ^ r.s)) ∧ f 11 = IN r.k ∧ f 16 = U64 r.v ∧ f 17 = IN j ∧ (Ext w w_) ∧ (Ux.Own w_ 5 v108 (1 + 3 * (i + 1)) (instCells (keepPre (keepRs A Z N) (i + 1)))) ∧ (Blk w_ b7 (memC (storeB (keepMem ((keepRs A Z N).take i)) r.k r.v j)) 46)) (2 ^ r.s) ?_ ?_
   have B32 := B25.mod m108 N10
   ·exact ⟨0, by omega, hc6_0, hc6_1, hc6_2, hc6_7, G, hc6_9, G, G, G, G, E31, o108b, B32⟩
   rintro kb f2 wj ⟨j, hkj, h0_2, h1_2, h2_2, h7_2, h8_2, h9_2, h10_2, h11_2, h16_2, h17_2, hEj, hOj, hMj⟩
   refine Sq (Sr (Mv (IN j) h17_2 (Mv (IN ((2 ^ r.s))) h10_2 (Bn G G BinR.lss (Ni ?_)))))
   refine WC.cond G (fun hc115 => ?_) (fun hc115 => ?_)
   ·have hj : j < 2 ^ r.s := by have := of_decide_eq_true hc115; omega
    refine WC.skip (Sq (Bk (Rg (Mv (IN r.k) h11_2 (Mv (IN j) h17_2 (Bn G G (BinR.addN (by omega)) (Mv (U64 r.v) h16_2 (Mv (IN j) h17_2 (Bn G G (BinR.mulN (a := 8) (b := j) (by omega)) (Bn G G BinR.shrU64 (Cv G (ConvR.u64u8 y39 y5) (WL.indexArr1 (i := r.k + j) ar46 sz5 h7_2 G (by omega) G (WL.storeB (o := 0 + (r.k + j)) (v := U8 (((r.v >>> ((8 * j)))).setWidth 8)) G G G sz5 hMj (show 0 + (r.k + j) < 128 by omega) ?_)))))))))))))
    intro wz mz bz zz
    rw [mem_set] at bz
    have E33 : Ext w wz := Mod.then hEj mz (fun i hi (e : i = b7) => absurd hi (by omega))
    refine Ni (Rg (Mv (IN j) h17_2 (Bn G G (BinR.succN (by omega)) (Ae (IN (j + 1)) (Ni ?_)))))
    have O34 := hOj.mod mz (fun g hg e => hne108 (hg.trans (congrArg some e)))
    exact ⟨kb - 1, by omega, (j + 1), by omega, h0_2, h1_2, h2_2, h7_2, h8_2, h9_2, h10_2, h11_2, h16_2, G, E33, O34, bz⟩
   ·have hj : j = 2 ^ r.s := by have := of_decide_eq_false hc115; omega
    subst hj
    refine WC.exit (Rg (Mv (IN i) h9_2 (Bn G G (BinR.succN (by omega)) (Ae (IN (i + 1)) (Ni ?_)))))
    exact ⟨ka - 1, by omega, (i + 1), v108, by omega, h0_2, h1_2, h2_2, h7_2, h8_2, G, hEj, hOj, hF108, hne108, (by rw [keepMem_take hr]; exact hMj)⟩
  ·have h64 : r.k < 64 := by have := of_decide_eq_false hc100; omega
   refine WC.skip (Sr (Me v90 (Se [U8 ((18#8 + (r.2.1 % 4#8))), Z1, U8 5#8, U8 6#8, IN r.k] n15.blk ?_)))
   have O35 := o90.ext n15.ext
   refine WL.buildSlice (vs := [(0, .agg #[U8 ((18#8 + (r.2.1 % 4#8))), Z1, U8 5#8, U8 6#8, IN r.k])]) G (bls5_107 (18#8 + r.2.1 % 4#8) 5#8 ((r.k : Nat) : Int)) G ?_
   intro b107 w107 n107
   have N36 : (v90 : Value).ownBlock ≠ some b107 := fun e => by have := O35.lt (by omega) (by decide) e; have := n107.num; omega
   have E37 := Mt E16 n107.ext
   have O38 := O35.ext n107.ext
   refine WL.append (k := 1 + 3 * i + 2) (m := 1) (xs := instCells (keepPre (keepRs A Z N) i) ++ [U8 1#8, U8 6#8, U8 0#8, U8 0#8, I64 ((luiX (hi20 r.2.2))), U8 41#8, U8 6#8, U8 6#8, U8 0#8, I64 ((addX (lo12 r.2.2)))]) (news := [U8 ((18#8 + (r.2.1 % 4#8))), Z1, U8 5#8, U8 6#8, IN r.k]) ap49 G G G O38 ((Sl.of1 n107.blk.cells G).src y49 (List.all_eq_true.1 G)) (by omega) (by omega) G ?_
   intro v108 w108 o108 m108 l108
   have o108b : Ux.Own w108 5 v108 (1 + 3 * (i + 1)) (instCells (keepPre (keepRs A Z N) (i + 1))) := by rw [keepPre_snoc hr, keep_lo_cells r h64, show 1 + 3 * (i + 1) = 1 + 3 * i + 2 + 1 by omega]; exact o108
   have F39 : From w.heap.size v108 := LocV.from l108 (Mod.size E37) F9
   have B41 := (B13.ext n15.ext).ext n107.ext
   have N40 : v108.ownBlock ≠ some b7 := LocV.ne l108 B41.lt N10
   have B43 := (B14.ext n15.ext).ext n107.ext
   have N42 : v108.ownBlock ≠ some b89 := LocV.ne l108 B43.lt N11
   have B45 := n15.blk.ext n107.ext
   have N44 : v108.ownBlock ≠ some b15 := LocV.ne l108 B45.lt N15
   have N46 : v108.ownBlock ≠ some b107 := LocV.ne l108 n107.blk.lt N36
   have E47 : Ext w w108 := Mod.from E37 m108 F9
   refine Ae v108 (Ni (Sr (Me (U32 r.2.2) (Cv G (ConvR.u32i32 y50 y21) (Cv G (ConvR.i32i64 y21 y2) (Cv G (ConvR.i64u64 y2 y39) (Ae (U64 r.v) (Ni ?_))))))))
   have hF108 := F39
   have hne108 := N40
   refine Sr (Ae (IN 0) (Ni (Bk ?_)))
   refine WC.loop (fun k f w_ => ∃ j, (k + j = 2 ^ r.s) ∧ f 0 = av ∧ f 1 = zv ∧ f 2 = nv ∧ f 7 = ptr b7 0 ∧ f 8 = v108 ∧ f 9 = IN i ∧ f 10 = IN ((2 ^ r.s)) ∧ f 11 = IN r.k ∧ f 16 = U64 r.v ∧ f 17 = IN j ∧ (Ext w w_) ∧ (Ux.Own w_ 5 v108 (1 + 3 * (i + 1)) (instCells (keepPre (keepRs A Z N) (i + 1)))) ∧ (Blk w_ b7 (memC (storeB (keepMem ((keepRs A Z N).take i)) r.k r.v j)) 46)) (2 ^ r.s) ?_ ?_
   have B48 := B41.mod m108 N10
   ·exact ⟨0, by omega, hc6_0, hc6_1, hc6_2, hc6_7, G, hc6_9, G, G, G, G, E47, o108b, B48⟩
   rintro kb f2 wj ⟨j, hkj, h0_2, h1_2, h2_2, h7_2, h8_2, h9_2, h10_2, h11_2, h16_2, h17_2, hEj, hOj, hMj⟩
   refine Sq (Sr (Mv (IN j) h17_2 (Mv (IN ((2 ^ r.s))) h10_2 (Bn G G BinR.lss (Ni ?_)))))
   refine WC.cond G (fun hc115 => ?_) (fun hc115 => ?_)
   ·have hj : j < 2 ^ r.s := by have := of_decide_eq_true hc115; omega
    refine WC.skip (Sq (Bk (Rg (Mv (IN r.k) h11_2 (Mv (IN j) h17_2 (Bn G G (BinR.addN (by omega)) (Mv (U64 r.v) h16_2 (Mv (IN j) h17_2 (Bn G G (BinR.mulN (a := 8) (b := j) (by omega)) (Bn G G BinR.shrU64 (Cv G (ConvR.u64u8 y39 y5) (WL.indexArr1 (i := r.k + j) ar46 sz5 h7_2 G (by omega) G (WL.storeB (o := 0 + (r.k + j)) (v := U8 (((r.v >>> ((8 * j)))).setWidth 8)) G G G sz5 hMj (show 0 + (r.k + j) < 128 by omega) ?_)))))))))))))
    intro wz mz bz zz
    rw [mem_set] at bz
    have E49 : Ext w wz := Mod.then hEj mz (fun i hi (e : i = b7) => absurd hi (by omega))
    refine Ni (Rg (Mv (IN j) h17_2 (Bn G G (BinR.succN (by omega)) (Ae (IN (j + 1)) (Ni ?_)))))
    have O50 := hOj.mod mz (fun g hg e => hne108 (hg.trans (congrArg some e)))
    exact ⟨kb - 1, by omega, (j + 1), by omega, h0_2, h1_2, h2_2, h7_2, h8_2, h9_2, h10_2, h11_2, h16_2, G, E49, O50, bz⟩
   ·have hj : j = 2 ^ r.s := by have := of_decide_eq_false hc115; omega
    subst hj
    refine WC.exit (Rg (Mv (IN i) h9_2 (Bn G G (BinR.succN (by omega)) (Ae (IN (i + 1)) (Ni ?_)))))
    exact ⟨ka - 1, by omega, (i + 1), v108, by omega, h0_2, h1_2, h2_2, h7_2, h8_2, G, hEj, hOj, hF108, hne108, (by rw [keepMem_take hr]; exact hMj)⟩
 ·have hi2 : (keepRs A Z N).length ≤ i := by have := of_decide_eq_false hc48; omega
  have htk : (keepRs A Z N).take i = (keepRs A Z N) := List.take_of_length_le hi2
  rw [htk] at hM
  refine WC.exit (Sr (Mv lv hc6_8 (Bl (.agg #[U8 22#8, U8 0#8, U8 5#8, Z1, I64 7#64]) [(0, U8 22#8), (1, U8 0#8), (2, U8 5#8), (4, I64 7#64)] (Bl (.agg #[U8 22#8, U8 17#8, Z1, Z1, I64 3#64]) [(0, U8 22#8), (1, U8 17#8), (4, I64 3#64)] (Bl (.agg #[U8 64#8, Z1, Z1, Z1, IN 0]) [(0, U8 64#8)] (WL.buildSlice (vs := [(0, .agg #[U8 22#8, U8 0#8, U8 5#8, Z1, I64 7#64]), (1, .agg #[U8 22#8, U8 17#8, Z1, Z1, I64 3#64]), (2, .agg #[U8 64#8, Z1, Z1, Z1, IN 0])]) G bls5_131 G ?_))))))
  intro b131 w131 n131
  have N51 : (lv : Value).ownBlock ≠ some b131 := fun e => by have := hO.lt (by omega) (by decide) e; have := n131.num; omega
  have E53 := Mt hE n131.ext
  have O54 := hO.ext n131.ext
  refine WL.append (k := 1 + 3 * i) (m := 3) (xs := instCells (keepPre (keepRs A Z N) i)) (news := [U8 22#8, U8 0#8, U8 5#8, Z1, I64 7#64, U8 22#8, U8 17#8, Z1, Z1, I64 3#64, U8 64#8, Z1, Z1, Z1, IN 0]) ap49 G G G O54 ((Go.Proofs.M.Sl.ofCells (n := 3) n131.blk.cells G).src y49 (List.all_eq_true.1 G)) (by omega) (by omega) G ?_
  intro v132 w132 o132 m132 l132
  have o132b : Ux.Own w132 5 v132 ((keepL (keepRs A Z N)).length) (instCells (keepL (keepRs A Z N))) := by rw [← keepPre_all _ hi2, keepL_length, show 3 * (keepRs A Z N).length + 4 = 1 + 3 * i + 3 by omega]; exact o132
  have F55 : From w.heap.size v132 := LocV.from l132 (Mod.size E53) hF
  have B57 := hM.ext n131.ext
  have N56 : v132.ownBlock ≠ some b7 := LocV.ne l132 B57.lt hne
  have N58 : v132.ownBlock ≠ some b131 := LocV.ne l132 n131.blk.lt N51
  have E59 : Ext w w132 := Mod.from E53 m132 hF
  refine Ae v132 (Ni (Sr (Me v132 ?_)))
  have hS134 : Sl w132 v132 5 (keepL (keepRs A Z N)).length (instCells (keepL (keepRs A Z N))) := o132b.sl
  refine Ca (code_spec _ (keepL (keepRs A Z N)) _ (hG.ext E59) hS134 (by rw [keepL_length]; omega)) ?_
  rintro v134 w134 ⟨o134, f134, e134⟩
  obtain ⟨g37, c37, rfl, hle37, hcl37⟩ := o134.at (by rw [hlen]; omega)
  have E60 := Mt E59 e134
  refine Ae (Sv g37 (codeW (keepL (keepRs A Z N))).length c37) (Ni (Sq (Sr (Me (Sv g37 (codeW (keepL (keepRs A Z N))).length c37) (WL.lenSl (sz := 1) (m := (codeW (keepL (keepRs A Z N))).length) (xs := wordCells (codeW (keepL (keepRs A Z N)))) el23 G o134.sl G (Me v132 ?_))))))
  have O61 := o132b.ext e134
  refine WL.lenSl (sz := 5) (m := (keepL (keepRs A Z N)).length) (xs := instCells (keepL (keepRs A Z N))) el49 G O61.sl G (Bf G G BinR.neq (by rw [hlen2]; exact bne_self_eq_false _) (Ni (Cf G (WC.skip (Sr (Me (Sv g37 (codeW (keepL (keepRs A Z N))).length c37) (Ca (whole_spec (some ⟨g37, 0, none⟩) (codeW (keepL (keepRs A Z N))).length c37 64 _) ?_)))))))
  rintro _ w39 ⟨p, rfl, hsy, e39⟩
  have E62 := Mt E60 e39
  have O63 := o134.ext e39
  have B64 := ((B57.mod m132 hne).ext e134).ext e39
  have hl7 : b7 < w39.heap.size := B64.lt
  have O65 := O61.ext e39
  have hl132 : ∀ g, v132.ownBlock = some g → g < w39.heap.size := fun g e => O65.lt (by rw [keepL_length]; omega) (by decide) e
  refine Ca (new_ok (keepImg (keepRs A Z N)) _ _ (.slice none 0 0) [] _ (⟨hsy, O63.sl, by show 1 ≤ _; decide, by show (codeW (keepL (keepRs A Z N))).length ≤ _; omega⟩ : Rep w39 (Sv p 1 1) (Sv g37 (codeW (keepL (keepRs A Z N))).length c37) (keepImg (keepRs A Z N))) (keep_syms _) (hG.ext E62) (glob_size (hG.ext E62)) (Sl.nil _ _ _) (.inl rfl) (by decide) (keep_right _ (by omega))) ?_
  rintro _ wna ⟨Ta, ba, rfl, hMa, hTa, ena⟩
  have hFa : ∀ k, Ta k ≠ 0 → w.heap.size ≤ k := fun k h => Nat.le_trans (Mod.size E62) (hTa k h)
  have E66 := Mt E62 ena
  refine Me (.tuple #[ptr ba 0, IN 0]) (Et G G (Et G G (Ae (ptr ba 0) (Ae (IN 0) (Ni (Sq (Sr (Me (IN 0) (Bf G G BinR.neq G (Me (.bool false) (Gr (Me (ptr ba 0) (Gr ?_)))))))))))))
  have B67 := B64.ext ena
  have O68 := O65.ext ena
  have hz132 : ∀ g, v132.ownBlock = some g → Ta g = 0 := fun g e => by
   rcases Nat.eq_zero_or_pos (Ta g) with h | h
   ·exact h
   ·have h1 := hTa g (by omega); have h2 := hl132 g e; omega
  have hn132 : ∀ g, v132.ownBlock = some g → g < wna.heap.size := fun g e => O68.lt (by rw [keepL_length]; omega) (by decide) e
  refine Ca (run_specN Ta ba (newM (keepImg (keepRs A Z N)) []) _ hMa 1000 (by omega) ((newM_code (by show (codeW (keepL (keepRs A Z N))).length ≤ _; omega))) (hG.ext E66) (Mod.cell E66 hX (fun h => h)) (by show (0 : Nat) ≤ _; omega)) ?_
  rintro v150 wR150 ⟨hv150, TR150, hMR150, mR150, hsR150⟩
  rw [hrun] at hv150 hMR150
  have hMR150 : MR TR150 wR150 ba Mf := hMR150
  obtain rfl : v150 = IN ((keepL (keepRs A Z N)).length) := hv150
  have hFQ69 := floor_turn hFa hsR150 (Mod.size E66)
  have EMQ70 : Ext w wR150 := Mod.then E66 mR150 (fun i hi e => absurd (hFa i e) (Nat.not_le_of_lt hi))
  have hQ71 : Ux.Own wR150 5 v132 (keepL (keepRs A Z N)).length ((instCells (keepL (keepRs A Z N)))) := O68.mod mR150 (fun g hg e => e (hz132 g hg))
  have hQ72 : ∀ g, v132.ownBlock = some g → TR150 g = 0 := fun g hg => zero_of hsR150 (hz132 g hg) (hn132 g hg)
  have hQ73 : ∀ g, v132.ownBlock = some g → g < wR150.heap.size := fun g hg => Nat.lt_of_lt_of_le (hn132 g hg) (Mod.size mR150)
  have hB7 := B67.mod mR150 (fun e : Ta b7 ≠ 0 => absurd (hTa b7 e) (by omega))
  refine Gr (Me v132 (Gr (WL.lenSl (sz := 5) (m := (keepL (keepRs A Z N)).length) (xs := instCells (keepL (keepRs A Z N))) el49 G hQ71.sl G (Gr (Bf G G BinR.neq (bne_self_eq_false _) (Pf G (Me (.bool false) (Gr (Me (ptr ba 0) (Gr (Ca (trapped_m TR150 ba Mf _ hMR150 (Mod.cell EMQ70 hX (fun h => h))) ?_)))))))))))
  rintro _ wg157 ⟨rfl, eg157⟩
  rw [hb1]
  have E74 := Mt EMQ70 eg157
  have hQ75 := hMR150.ext eg157
  refine Pf G (Me (.bool false) (Gr (Me (ptr ba 0) (Gr (Ca (ended_spec TR150 ba Mf _ hQ75 ) ?_)))))
  rintro _ wg161 ⟨rfl, eg161⟩
  rw [hb2]
  have E76 := Mt E74 eg161
  have hQ77 := hQ75.ext eg161
  refine Gr (WL.un G G UnR.not (Pf G (Me (.bool false) (Gr (Me (ptr ba 0) (Gr (Ca (reg_spec TR150 ba Mf _ hQ77 0 (by decide)) ?_)))))))
  rintro _ wg166 ⟨rfl, eg166⟩
  rw [hx0]
  have E78 := Mt E76 eg166
  have hQ79 := hQ77.ext eg166
  refine Gr (Bf (vy := U64 0#64) G G BinR.neqU64 (bne_self_eq_false _) (Pf G (Ni (Cf G (WC.skip (Sq (Sr (Ae (IN 0) (Ni (Bk ?_))))))))))
  refine WC.loop (fun k f w_ => ∃ j, (k + j = 16) ∧ f 7 = ptr b7 0 ∧ f 19 = ptr ba 0 ∧ f 21 = IN ((8 * j)) ∧ (MR TR150 w_ ba Mf) ∧ (Blk w_ b7 (memC (keepMem (keepRs A Z N))) 46) ∧ (Ext w w_)) 16 ?_ ?_
  have B80 := ((hB7.ext eg157).ext eg161).ext eg166
  ·exact ⟨0, by omega, hc6_7, G, G, hQ79, B80, E78⟩
  rintro kc f2 wr ⟨j, hkc, h7_2, h19_2, h21_2, hLa, hM, hE⟩
  refine Sq (Sr (Mv (IN ((8 * j))) h21_2 (Bn G G BinR.lss (Ni ?_))))
  refine WC.cond G (fun hc170 => ?_) (fun hc170 => ?_)
  ·have hj : 8 * j < 128 := by have := of_decide_eq_true hc170; omega
   refine WC.skip (Sq (Bk (Sr (Mv (IN ((8 * j))) h21_2 (Bn G G (BinR.addN (a := 4194304) (by omega)) (Cv G (ConvR.nu64 y3 y39) (Ae (U64 (BitVec.ofNat 64 ((4194304 + 8 * j)))) (Ni (Sq (Sr (Mv (IN ((8 * j))) h21_2 (Bn G G BinR.geq (Ni ?_)))))))))))))
   refine WC.cond G (fun hc177 => ?_) (fun hc177 => ?_)
   ·have h64 : ¬ 8 * j < 64 := by have := of_decide_eq_true hc177; omega
    refine Rg (Mv (IN ((8 * j))) h21_2 (Bn G G (BinR.addN (a := 8388608) (by omega)) (Bn G G (BinR.subN (b := 128) (by omega) (by omega)) (Cv G (ConvR.nu64 y3 y39) (Ae (U64 (BitVec.ofNat 64 ((8388608 + 8 * j - 128)))) (Ni (Sr (Mv (ptr ba 0) h19_2 (Me (U64 (BitVec.ofNat 64 ((8388608 + 8 * j - 128)))) (Ca (peek_ok TR150 ba Mf _ hLa (BitVec.ofNat 64 (8388608 + 8 * j - 128)) false (65408 + 8 * j) (by rw [hn]; exact where_hi h64 hj) ) ?_))))))))))
    rintro _ wp ⟨rfl, ep⟩
    rw [peek_hi hmm h64 hj]
    have E82 := Mt hE ep
    have hQ83 := hLa.ext ep
    refine Me (.tuple #[U64 (loadT (keepMem (keepRs A Z N)) (8 * j) 8 8), .bool true]) (Et G G (Et G G (Ae (U64 ((loadT (keepMem (keepRs A Z N)) (8 * j) 8 8))) (Ae (.bool true) (Ni (Sr (Ae (U64 0#64) (Ni (Sq (Sr (Ae (IN 7) (Ni (Bk ?_)))))))))))))
    refine WC.loop (fun k f w_ => ∃ q, (k + q = 8) ∧ f 7 = ptr b7 0 ∧ f 19 = ptr ba 0 ∧ f 21 = IN ((8 * j)) ∧ f 23 = U64 ((loadT (keepMem (keepRs A Z N)) (8 * j) 8 8)) ∧ f 24 = .bool true ∧ f 25 = U64 ((loadT (keepMem (keepRs A Z N)) (8 * j) 8 q)) ∧ f 26 = .int .i64 ((7 - ((q : Nat) : Int))) ∧ (MR TR150 w_ ba Mf) ∧ (Blk w_ b7 (memC (keepMem (keepRs A Z N))) 46) ∧ (Ext w w_)) 8 ?_ ?_
    have B84 := hM.ext ep
    ·exact ⟨0, by omega, h7_2, h19_2, h21_2, G, G, G, G, hQ83, B84, E82⟩
    rintro kd f3 wd ⟨q, hkd, h7_3, h19_3, h21_3, h23_3, h24_3, h25_3, h26_3, hLd, hMd, hEd⟩
    refine Sq (Sr (Mv (.int .i64 ((7 - ((q : Nat) : Int)))) h26_3 (Bn G G BinR.geq (Ni ?_))))
    refine WC.cond G (fun hc189 => ?_) (fun hc189 => ?_)
    ·have hq : q < 8 := by have := of_decide_eq_true hc189; omega
     refine WC.skip (Sq (Bk (Rg (Mv (U64 ((loadT (keepMem (keepRs A Z N)) (8 * j) 8 q))) h25_3 (Bn (vy := .int .u64 ((8 : Nat) : Int)) G G (BinR.shlU64 (s := 8)) (Mv (IN ((8 * j))) h21_3 (Mv (.int .i64 ((7 - ((q : Nat) : Int)))) h26_3 (Bn G G ((show ((8 * j : Nat) : Int) + (7 - ((q : Nat) : Int)) = ((8 * j + (8 - 1 - q) : Nat) : Int) by omega) ▸ BinR.addI (by omega)) (WL.indexArr1 (i := 8 * j + (8 - 1 - q)) ar46 sz5 h7_3 G (by omega) G (Lx G (hMd.cell (mem_get (keepMem (keepRs A Z N)) (by omega))) (Cv G (ConvR.u8u64 y5 y39) (Bn G G BinR.addU64 (Ae (U64 ((((loadT (keepMem (keepRs A Z N)) (8 * j) 8 q) <<< 8) + ((keepMem (keepRs A Z N) (8 * j + (8 - 1 - q)))).setWidth 64))) (Ni (Rg (Mv (.int .i64 ((7 - ((q : Nat) : Int)))) h26_3 (Bn G G (BinR.subI (by omega)) (Ae (.int .i64 (((7 - ((q : Nat) : Int)) : Int) - (1 : Int))) (Ni ?_)))))))))))))))))))
     exact ⟨kd - 1, by omega, (q + 1), by omega, h7_3, h19_3, h21_3, h23_3, h24_3, G, (by rw [show (7 - (((q + 1 : Nat)) : Int)) = 7 - ((q : Nat) : Int) - (1 : Int) by omega]; exact rfl), hLd, hMd, hEd⟩
    ·have hq8 : q = 8 := by have := of_decide_eq_false hc189; omega
     refine WC.exit (Sr (Mv (.bool true) h24_3 (WL.un G G UnR.not (Me (.bool false) (Gr (Mv (U64 ((loadT (keepMem (keepRs A Z N)) (8 * j) 8 8))) h23_3 (Gr (Mv (U64 ((loadT (keepMem (keepRs A Z N)) (8 * j) 8 q))) h25_3 (Gr (Bf G G BinR.neqU64 (by rw [hq8]; exact bne_self_eq_false _) (Pf G (Ni (Cf G (WC.skip (Rg (Mv (IN ((8 * j))) h21_3 (Bn G G (BinR.addN (b := 8) (by omega)) (Ae (IN ((8 * j + 8))) (Ni ?_)))))))))))))))))))
     exact ⟨kc - 1, by omega, (j + 1), by omega, h7_3, h19_3, (by rw [show 8 * (j + 1) = 8 * j + 8 by omega]; exact rfl), hLd, hMd, hEd⟩
   ·have h64 : 8 * j < 64 := by have := of_decide_eq_false hc177; omega
    refine WC.skip (Sr (Mv (ptr ba 0) h19_2 (Me (U64 (BitVec.ofNat 64 ((4194304 + 8 * j)))) (Ca (peek_ok TR150 ba Mf _ hLa (BitVec.ofNat 64 (4194304 + 8 * j)) true (8 * j) (by rw [hn]; exact where_lo h64) ) ?_))))
    rintro _ wp ⟨rfl, ep⟩
    rw [peek_lo hmm h64]
    have E86 := Mt hE ep
    have hQ87 := hLa.ext ep
    refine Me (.tuple #[U64 (loadT (keepMem (keepRs A Z N)) (8 * j) 8 8), .bool true]) (Et G G (Et G G (Ae (U64 ((loadT (keepMem (keepRs A Z N)) (8 * j) 8 8))) (Ae (.bool true) (Ni (Sr (Ae (U64 0#64) (Ni (Sq (Sr (Ae (IN 7) (Ni (Bk ?_)))))))))))))
    refine WC.loop (fun k f w_ => ∃ q, (k + q = 8) ∧ f 7 = ptr b7 0 ∧ f 19 = ptr ba 0 ∧ f 21 = IN ((8 * j)) ∧ f 23 = U64 ((loadT (keepMem (keepRs A Z N)) (8 * j) 8 8)) ∧ f 24 = .bool true ∧ f 25 = U64 ((loadT (keepMem (keepRs A Z N)) (8 * j) 8 q)) ∧ f 26 = .int .i64 ((7 - ((q : Nat) : Int))) ∧ (MR TR150 w_ ba Mf) ∧ (Blk w_ b7 (memC (keepMem (keepRs A Z N))) 46) ∧ (Ext w w_)) 8 ?_ ?_
    have B88 := hM.ext ep
    ·exact ⟨0, by omega, h7_2, h19_2, h21_2, G, G, G, G, hQ87, B88, E86⟩
    rintro kd f3 wd ⟨q, hkd, h7_3, h19_3, h21_3, h23_3, h24_3, h25_3, h26_3, hLd, hMd, hEd⟩
    refine Sq (Sr (Mv (.int .i64 ((7 - ((q : Nat) : Int)))) h26_3 (Bn G G BinR.geq (Ni ?_))))
    refine WC.cond G (fun hc189 => ?_) (fun hc189 => ?_)
    ·have hq : q < 8 := by have := of_decide_eq_true hc189; omega
     refine WC.skip (Sq (Bk (Rg (Mv (U64 ((loadT (keepMem (keepRs A Z N)) (8 * j) 8 q))) h25_3 (Bn (vy := .int .u64 ((8 : Nat) : Int)) G G (BinR.shlU64 (s := 8)) (Mv (IN ((8 * j))) h21_3 (Mv (.int .i64 ((7 - ((q : Nat) : Int)))) h26_3 (Bn G G ((show ((8 * j : Nat) : Int) + (7 - ((q : Nat) : Int)) = ((8 * j + (8 - 1 - q) : Nat) : Int) by omega) ▸ BinR.addI (by omega)) (WL.indexArr1 (i := 8 * j + (8 - 1 - q)) ar46 sz5 h7_3 G (by omega) G (Lx G (hMd.cell (mem_get (keepMem (keepRs A Z N)) (by omega))) (Cv G (ConvR.u8u64 y5 y39) (Bn G G BinR.addU64 (Ae (U64 ((((loadT (keepMem (keepRs A Z N)) (8 * j) 8 q) <<< 8) + ((keepMem (keepRs A Z N) (8 * j + (8 - 1 - q)))).setWidth 64))) (Ni (Rg (Mv (.int .i64 ((7 - ((q : Nat) : Int)))) h26_3 (Bn G G (BinR.subI (by omega)) (Ae (.int .i64 (((7 - ((q : Nat) : Int)) : Int) - (1 : Int))) (Ni ?_)))))))))))))))))))
     exact ⟨kd - 1, by omega, (q + 1), by omega, h7_3, h19_3, h21_3, h23_3, h24_3, G, (by rw [show (7 - (((q + 1 : Nat)) : Int)) = 7 - ((q : Nat) : Int) - (1 : Int) by omega]; exact rfl), hLd, hMd, hEd⟩
    ·have hq8 : q = 8 := by have := of_decide_eq_false hc189; omega
     refine WC.exit (Sr (Mv (.bool true) h24_3 (WL.un G G UnR.not (Me (.bool false) (Gr (Mv (U64 ((loadT (keepMem (keepRs A Z N)) (8 * j) 8 8))) h23_3 (Gr (Mv (U64 ((loadT (keepMem (keepRs A Z N)) (8 * j) 8 q))) h25_3 (Gr (Bf G G BinR.neqU64 (by rw [hq8]; exact bne_self_eq_false _) (Pf G (Ni (Cf G (WC.skip (Rg (Mv (IN ((8 * j))) h21_3 (Bn G G (BinR.addN (b := 8) (by omega)) (Ae (IN ((8 * j + 8))) (Ni ?_)))))))))))))))))))
     exact ⟨kc - 1, by omega, (j + 1), by omega, h7_3, h19_3, (by rw [show 8 * (j + 1) = 8 * j + 8 by omega]; exact rfl), hLd, hMd, hEd⟩
  ·refine WC.exit (Sr (Ca (works_spec _ (hG.ext hE) (Mod.cell hE hX (fun h => h))) ?_))
   rintro _ wk208 ⟨rfl, ek208⟩
   have E90 := Mt hE ek208
   refine Ae (.bool true) (Ni (WC.ret ?_))
   exact ⟨_, Ro G G, G, E90⟩
end Go.Proofs.S
end
section
set_option linter.unusedVariables false
namespace Go.Proofs.S
open Go Go.Ux Go.Ux.Mach Go.Proofs Go.Proofs.M Go.Ux.Image
theorem keeps_spec (av zv nv : Value) (A Z : List (BitVec 8)) (N : List (BitVec 32)) (w : World) (hG : Glob w) (hX : w.cell? ⟨3, 0, none⟩ = some (.iface 206 (.agg #[.pointer (some ⟨6, 83, none⟩)]))) (hA : Sl w av 1 A.length (A.map U8)) (hZ : Sl w zv 1 Z.length (Z.map U8)) (hN : Sl w nv 1 N.length (wordCells N)) : Cx 5 #[av, zv, nv] w (.bool true) := by
 by_cases h : 40 < A.length
 ·exact keeps_big av zv nv A Z N w hG hX hA hZ hN h
 ·exact keeps_ok av zv nv A Z N w hG hX hA hZ hN h
end Go.Proofs.S
end
section
set_option linter.unusedVariables false
namespace Go.Proofs.S
open Go Go.Ux Go.Ux.Mach Go.Proofs Go.Proofs.M Go.Ux.Image
theorem runs_spec (I : Img) (sv wv iv0 : Value) (inp : List (BitVec 64)) (p : BitVec 8) (lk : Value) (L : List (BitVec 64)) (w : World) (hG : Glob w) (hX : w.cell? ⟨3, 0, none⟩ = some (.iface 206 (.agg #[.pointer (some ⟨6, 83, none⟩)]))) (hs : Sl w sv 2 I.syms.length (symCells I.syms)) (hw : Sl w wv 1 I.words.length (wordCells I.words)) (hN : ∀ s ∈ I.syms, True ∧ s.2 ≤ 9223372036854775807) (hI : Sl w iv0 1 inp.length (inp.map I64)) (hIf : iv0 = .slice none 0 0 ∨ ∃ a c, iv0 = .slice (some a) inp.length c) (hLk : Sl w lk 1 L.length (L.map U64)) : Cx 7 #[.agg #[.int .i64 I.entry, sv, wv], iv0, U8 p, lk] w (.bool true) := by
 by_cases d0 : 300 < I.words.length
 ·exact runs_big1 I sv wv iv0 inp p lk L w hG hX hs hw hN hI hIf hLk d0
 by_cases d1 : 70 < I.syms.length
 ·exact runs_big2 I sv wv iv0 inp p lk L w hG hX hs hw hN hI hIf hLk d0 d1
 by_cases d2 : 4096 < I.entry
 ·exact runs_big3 I sv wv iv0 inp p lk L w hG hX hs hw hN hI hIf hLk d0 d1 d2
 by_cases d3 : 30 < inp.length
 ·exact runs_big4 I sv wv iv0 inp p lk L w hG hX hs hw hN hI hIf hLk d0 d1 d2 d3
 by_cases d4 : 30 < L.length
 ·exact runs_big5 I sv wv iv0 inp p lk L w hG hX hs hw hN hI hIf hLk d0 d1 d2 d3 d4
 cases hr : rightB I with
 | false => exact runs_no I sv wv iv0 inp p lk L w hG hX hs hw hN hI hIf hLk (by omega) (by omega) (by omega) (by omega) (by omega) hr
 | true => exact runs_ok I sv wv iv0 inp p lk L w hG hX hs hw hN hI hIf hLk (by omega) (by omega) (by omega) (by omega) (by omega) hr
end Go.Proofs.S
end
section
set_option linter.unusedSimpArgs false
set_option linter.unusedVariables false
namespace Go.Proofs.S
open Go Go.Ux Go.Ux.Mach Go.Proofs
open Tryz
theorem bls8_65  : ∀ w : World, (Instr.buildSlice 66 16 #[(0, U64 0#64), (1, U64 1#64), (2, U64 2#64), (3, U64 31#64), (4, U64 32#64), (5, U64 63#64), (6, U64 64#64), (7, U64 2147483647#64), (8, U64 2147483648#64), (9, U64 4294967295#64), (10, U64 4294967296#64), (11, U64 9223372036854775807#64), (12, U64 9223372036854775808#64), (13, U64 18446744073709551615#64), (14, U64 18446744073709551585#64), (15, U64 1311768467463790320#64)]).run prog w = .ok (Sv w.heap.size 16 16) (w.alloc (.cells #[U64 0#64, U64 1#64, U64 2#64, U64 31#64, U64 32#64, U64 63#64, U64 64#64, U64 2147483647#64, U64 2147483648#64, U64 4294967295#64, U64 4294967296#64, U64 9223372036854775807#64, U64 9223372036854775808#64, U64 18446744073709551615#64, U64 18446744073709551585#64, U64 1311768467463790320#64] 39)) := fun _ => by kernel_rfl
theorem bld8_83 (p : BitVec 8) : ∀ w : World, (Instr.build 48 #[(0, U8 p), (1, U8 5#8), (2, U8 6#8), (3, U8 7#8)]).run prog w = .ok (.agg #[U8 p, U8 5#8, U8 6#8, U8 7#8, IN 0]) w := fun _ => by kernel_rfl
theorem bld8_99 (p : BitVec 8) : ∀ w : World, (Instr.build 48 #[(0, U8 p), (2, U8 6#8), (3, U8 7#8)]).run prog w = .ok (.agg #[U8 p, Z1, U8 6#8, U8 7#8, IN 0]) w := fun _ => by kernel_rfl
theorem bls8_148  : ∀ w : World, (Instr.buildSlice 49 0 #[]).run prog w = .ok (Sv w.heap.size 0 0) (w.alloc (.cells #[] 48)) := fun _ => by kernel_rfl
theorem bls8_150  : ∀ w : World, (Instr.buildSlice 49 1 #[(0, .agg #[U8 14#8, U8 1#8, U8 2#8, Z1, IN 0])]).run prog w = .ok (Sv w.heap.size 1 1) (w.alloc (.cells #[U8 14#8, U8 1#8, U8 2#8, Z1, IN 0] 48)) := fun _ => by kernel_rfl
theorem bls8_153  : ∀ w : World, (Instr.buildSlice 49 2 #[(0, .agg #[U8 14#8, U8 1#8, U8 2#8, Z1, I64 (BitVec.ofInt 64 (-8))]), (1, .agg #[U8 4#8, U8 1#8, U8 1#8, Z1, I64 3#64])]).run prog w = .ok (Sv w.heap.size 2 2) (w.alloc (.cells #[U8 14#8, U8 1#8, U8 2#8, Z1, I64 (BitVec.ofInt 64 (-8)), U8 4#8, U8 1#8, U8 1#8, Z1, I64 3#64] 48)) := fun _ => by kernel_rfl
theorem bls8_155  : ∀ w : World, (Instr.buildSlice 49 1 #[(0, .agg #[U8 14#8, U8 1#8, U8 2#8, Z1, I64 (BitVec.ofInt 64 (-4))])]).run prog w = .ok (Sv w.heap.size 1 1) (w.alloc (.cells #[U8 14#8, U8 1#8, U8 2#8, Z1, I64 (BitVec.ofInt 64 (-4))] 48)) := fun _ => by kernel_rfl
theorem bls8_161  : ∀ w : World, (Instr.buildSlice 49 5 #[(0, .agg #[U8 13#8, U8 1#8, U8 2#8, Z1, I64 (BitVec.ofInt 64 (-4))]), (1, .agg #[U8 19#8, Z1, U8 2#8, U8 2#8, I64 (BitVec.ofInt 64 (-6))]), (2, .agg #[U8 15#8, U8 3#8, U8 2#8, Z1, I64 (BitVec.ofInt 64 (-5))]), (3, .agg #[U8 11#8, U8 3#8, U8 2#8, Z1, I64 (BitVec.ofInt 64 (-6))]), (4, .agg #[U8 19#8, Z1, U8 2#8, U8 2#8, I64 (BitVec.ofInt 64 (-5))])]).run prog w = .ok (Sv w.heap.size 5 5) (w.alloc (.cells #[U8 13#8, U8 1#8, U8 2#8, Z1, I64 (BitVec.ofInt 64 (-4)), U8 19#8, Z1, U8 2#8, U8 2#8, I64 (BitVec.ofInt 64 (-6)), U8 15#8, U8 3#8, U8 2#8, Z1, I64 (BitVec.ofInt 64 (-5)), U8 11#8, U8 3#8, U8 2#8, Z1, I64 (BitVec.ofInt 64 (-6)), U8 19#8, Z1, U8 2#8, U8 2#8, I64 (BitVec.ofInt 64 (-5))] 48)) := fun _ => by kernel_rfl
theorem bls8_163  : ∀ w : World, (Instr.buildSlice 49 1 #[(0, .agg #[U8 65#8, Z1, Z1, Z1, IN 0])]).run prog w = .ok (Sv w.heap.size 1 1) (w.alloc (.cells #[U8 65#8, Z1, Z1, Z1, IN 0] 48)) := fun _ => by kernel_rfl
theorem bls8_168  : ∀ w : World, (Instr.buildSlice 49 4 #[(0, .agg #[U8 63#8, U8 5#8, U8 2#8, Z1, I64 77#64]), (1, .agg #[U8 3#8, U8 5#8, Z1, Z1, I64 8#64]), (2, .agg #[U8 65#8, Z1, Z1, Z1, IN 0]), (3, .agg #[U8 5#8, Z1, Z1, Z1, I64 (BitVec.ofInt 64 (-8))])]).run prog w = .ok (Sv w.heap.size 4 4) (w.alloc (.cells #[U8 63#8, U8 5#8, U8 2#8, Z1, I64 77#64, U8 3#8, U8 5#8, Z1, Z1, I64 8#64, U8 65#8, Z1, Z1, Z1, IN 0, U8 5#8, Z1, Z1, Z1, I64 (BitVec.ofInt 64 (-8))] 48)) := fun _ => by kernel_rfl
theorem bls8_174  : ∀ w : World, (Instr.buildSlice 49 5 #[(0, .agg #[U8 22#8, U8 17#8, Z1, Z1, I64 1#64]), (1, .agg #[U8 64#8, Z1, Z1, Z1, IN 0]), (2, .agg #[U8 22#8, U8 17#8, Z1, Z1, I64 2#64]), (3, .agg #[U8 64#8, Z1, Z1, Z1, IN 0]), (4, .agg #[U8 3#8, Z1, Z1, Z1, I64 (BitVec.ofInt 64 (-16))])]).run prog w = .ok (Sv w.heap.size 5 5) (w.alloc (.cells #[U8 22#8, U8 17#8, Z1, Z1, I64 1#64, U8 64#8, Z1, Z1, Z1, IN 0, U8 22#8, U8 17#8, Z1, Z1, I64 2#64, U8 64#8, Z1, Z1, Z1, IN 0, U8 3#8, Z1, Z1, Z1, I64 (BitVec.ofInt 64 (-16))] 48)) := fun _ => by kernel_rfl
theorem bls8_179  : ∀ w : World, (Instr.buildSlice 49 4 #[(0, .agg #[U8 22#8, U8 17#8, Z1, Z1, I64 1#64]), (1, .agg #[U8 64#8, Z1, Z1, Z1, IN 0]), (2, .agg #[U8 22#8, U8 17#8, Z1, Z1, I64 4#64]), (3, .agg #[U8 64#8, Z1, Z1, Z1, IN 0])]).run prog w = .ok (Sv w.heap.size 4 4) (w.alloc (.cells #[U8 22#8, U8 17#8, Z1, Z1, I64 1#64, U8 64#8, Z1, Z1, Z1, IN 0, U8 22#8, U8 17#8, Z1, Z1, I64 4#64, U8 64#8, Z1, Z1, Z1, IN 0] 48)) := fun _ => by kernel_rfl
theorem bls8_181  : ∀ w : World, (Instr.buildSlice 49 1 #[(0, .agg #[U8 64#8, Z1, Z1, Z1, IN 0])]).run prog w = .ok (Sv w.heap.size 1 1) (w.alloc (.cells #[U8 64#8, Z1, Z1, Z1, IN 0] 48)) := fun _ => by kernel_rfl
theorem bls8_184  : ∀ w : World, (Instr.buildSlice 49 2 #[(0, .agg #[U8 22#8, U8 17#8, Z1, Z1, I64 5#64]), (1, .agg #[U8 64#8, Z1, Z1, Z1, IN 0])]).run prog w = .ok (Sv w.heap.size 2 2) (w.alloc (.cells #[U8 22#8, U8 17#8, Z1, Z1, I64 5#64, U8 64#8, Z1, Z1, Z1, IN 0] 48)) := fun _ => by kernel_rfl
theorem bls8_190  : ∀ w : World, (Instr.buildSlice 49 5 #[(0, .agg #[U8 1#8, U8 5#8, Z1, Z1, I64 4194304#64]), (1, .agg #[U8 21#8, Z1, U8 5#8, U8 2#8, I64 8#64]), (2, .agg #[U8 17#8, U8 6#8, U8 5#8, Z1, I64 8#64]), (3, .agg #[U8 20#8, Z1, U8 5#8, U8 2#8, I64 12#64]), (4, .agg #[U8 21#8, Z1, U8 5#8, U8 2#8, I64 16#64])]).run prog w = .ok (Sv w.heap.size 5 5) (w.alloc (.cells #[U8 1#8, U8 5#8, Z1, Z1, I64 4194304#64, U8 21#8, Z1, U8 5#8, U8 2#8, I64 8#64, U8 17#8, U8 6#8, U8 5#8, Z1, I64 8#64, U8 20#8, Z1, U8 5#8, U8 2#8, I64 12#64, U8 21#8, Z1, U8 5#8, U8 2#8, I64 16#64] 48)) := fun _ => by kernel_rfl
theorem bls8_193  : ∀ w : World, (Instr.buildSlice 49 2 #[(0, .agg #[U8 2#8, U8 5#8, Z1, Z1, IN 0]), (1, .agg #[U8 14#8, U8 6#8, U8 5#8, Z1, IN 0])]).run prog w = .ok (Sv w.heap.size 2 2) (w.alloc (.cells #[U8 2#8, U8 5#8, Z1, Z1, IN 0, U8 14#8, U8 6#8, U8 5#8, Z1, IN 0] 48)) := fun _ => by kernel_rfl
theorem bls8_195  : ∀ w : World, (Instr.buildSlice 49 1 #[(0, .agg #[U8 3#8, U8 1#8, Z1, Z1, I64 2#64])]).run prog w = .ok (Sv w.heap.size 1 1) (w.alloc (.cells #[U8 3#8, U8 1#8, Z1, Z1, I64 2#64] 48)) := fun _ => by kernel_rfl
theorem bls8_199  : ∀ w : World, (Instr.buildSlice 49 3 #[(0, .agg #[U8 1#8, U8 5#8, Z1, Z1, I64 8323072#64]), (1, .agg #[U8 21#8, Z1, U8 5#8, U8 5#8, IN 0]), (2, .agg #[U8 21#8, Z1, U8 5#8, U8 5#8, I64 (BitVec.ofInt 64 (-8))])]).run prog w = .ok (Sv w.heap.size 3 3) (w.alloc (.cells #[U8 1#8, U8 5#8, Z1, Z1, I64 8323072#64, U8 21#8, Z1, U8 5#8, U8 5#8, IN 0, U8 21#8, Z1, U8 5#8, U8 5#8, I64 (BitVec.ofInt 64 (-8))] 48)) := fun _ => by kernel_rfl
theorem bls8_200 (b148 b150 b153 b155 b161 b163 b168 b174 b179 b181 b184 b190 b193 b195 b199 : Nat) : ∀ w : World, (Instr.buildSlice 76 15 #[(0, Sv b148 0 0), (1, Sv b150 1 1), (2, Sv b153 2 2), (3, Sv b155 1 1), (4, Sv b161 5 5), (5, Sv b163 1 1), (6, Sv b168 4 4), (7, Sv b174 5 5), (8, Sv b179 4 4), (9, Sv b181 1 1), (10, Sv b184 2 2), (11, Sv b190 5 5), (12, Sv b193 2 2), (13, Sv b195 1 1), (14, Sv b199 3 3)]).run prog w = .ok (Sv w.heap.size 15 15) (w.alloc (.cells #[Sv b148 0 0, Sv b150 1 1, Sv b153 2 2, Sv b155 1 1, Sv b161 5 5, Sv b163 1 1, Sv b168 4 4, Sv b174 5 5, Sv b179 4 4, Sv b181 1 1, Sv b184 2 2, Sv b190 5 5, Sv b193 2 2, Sv b195 1 1, Sv b199 3 3] 49)) := fun _ => by kernel_rfl
theorem el76 : elemT prog 76 = some 49 := by kernel_rfl
theorem sz49 : sizeT prog 49 = some 1 := by kernel_rfl
theorem bls8_222  : ∀ w : World, (Instr.buildSlice 23 1 #[(0, U32 0#32)]).run prog w = .ok (Sv w.heap.size 1 1) (w.alloc (.cells #[U32 0#32] 50)) := fun _ => by kernel_rfl
theorem bls8_225 : ∀ w : World, (Instr.buildSlice 26 2 #[(0, .int .i64 5), (1, .int .i64 (-6))]).run prog w = .ok (Sv w.heap.size 2 2) (w.alloc (.cells #[.int .i64 5, .int .i64 (-6)] 2)) := fun _ => by kernel_rfl
theorem bls8_226  : ∀ w : World, (Instr.buildSlice 66 10 #[(0, U64 4194304#64), (1, U64 4194312#64), (2, U64 4194320#64), (3, U64 4194308#64), (4, U64 8323072#64), (5, U64 8388600#64), (6, U64 8388608#64), (7, U64 0#64), (8, U64 18446744073709551608#64), (9, U64 65536#64)]).run prog w = .ok (Sv w.heap.size 10 10) (w.alloc (.cells #[U64 4194304#64, U64 4194312#64, U64 4194320#64, U64 4194308#64, U64 8323072#64, U64 8388600#64, U64 8388608#64, U64 0#64, U64 18446744073709551608#64, U64 65536#64] 39)) := fun _ => by kernel_rfl
theorem bls8_232 : ∀ w : World, (Instr.buildSlice 26 2 #[(0, .int .i64 5), (1, .int .i64 (-6))]).run prog w = .ok (Sv w.heap.size 2 2) (w.alloc (.cells #[.int .i64 5, .int .i64 (-6)] 2)) := fun _ => by kernel_rfl
theorem bls8_233 : ∀ w : World, (Instr.buildSlice 26 1 #[(0, .int .i64 7)]).run prog w = .ok (Sv w.heap.size 1 1) (w.alloc (.cells #[.int .i64 7] 2)) := fun _ => by kernel_rfl
theorem ca3 : callable prog 3 = true := by kernel_rfl
theorem bls8_243  : ∀ w : World, (Instr.buildSlice 45 6 #[(0, U8 0#8), (1, U8 8#8), (2, U8 9#8), (3, U8 127#8), (4, U8 64#8), (5, U8 63#8)]).run prog w = .ok (Sv w.heap.size 6 6) (w.alloc (.cells #[U8 0#8, U8 8#8, U8 9#8, U8 127#8, U8 64#8, U8 63#8] 5)) := fun _ => by kernel_rfl
theorem bls8_244  : ∀ w : World, (Instr.buildSlice 45 6 #[(0, U8 3#8), (1, U8 2#8), (2, U8 0#8), (3, U8 1#8), (4, U8 3#8), (5, U8 3#8)]).run prog w = .ok (Sv w.heap.size 6 6) (w.alloc (.cells #[U8 3#8, U8 2#8, U8 0#8, U8 1#8, U8 3#8, U8 3#8] 5)) := fun _ => by kernel_rfl
theorem bls8_245  : ∀ w : World, (Instr.buildSlice 23 6 #[(0, U32 2147483648#32), (1, U32 77#32), (2, U32 4294967295#32), (3, U32 5#32), (4, U32 6#32), (5, U32 2048#32)]).run prog w = .ok (Sv w.heap.size 6 6) (w.alloc (.cells #[U32 2147483648#32, U32 77#32, U32 4294967295#32, U32 5#32, U32 6#32, U32 2048#32] 50)) := fun _ => by kernel_rfl
open Go.Proofs.M (instV Glob)
open Go.Ux.Image
def knownNums : List (BitVec 64) := [0#64, 1#64, 2#64, 31#64, 32#64, 63#64, 64#64, 2147483647#64, 2147483648#64, 4294967295#64, 4294967296#64, 9223372036854775807#64, 9223372036854775808#64, 18446744073709551615#64, 18446744073709551585#64, 1311768467463790320#64]
theorem knownNums_at {i : Nat} (h : i < 16) : (knownNums.map U64).toArray[0 + i * 1]? = some (U64 (knownNums.getD i 0#64)) := by
 have e : 0 + i * 1 = i := by omega
 rw [e, List.getElem?_toArray]; exact getD_map knownNums 0#64 U64 h
def knownRows : List (List RvInst) := [[], [⟨14#8, 1#8, 2#8, 0#8, 0#64⟩], [⟨14#8, 1#8, 2#8, 0#8, BitVec.ofInt 64 (-8)⟩, ⟨4#8, 1#8, 1#8, 0#8, 3#64⟩], [⟨14#8, 1#8, 2#8, 0#8, BitVec.ofInt 64 (-4)⟩], [⟨13#8, 1#8, 2#8, 0#8, BitVec.ofInt 64 (-4)⟩, ⟨19#8, 0#8, 2#8, 2#8, BitVec.ofInt 64 (-6)⟩, ⟨15#8, 3#8, 2#8, 0#8, BitVec.ofInt 64 (-5)⟩, ⟨11#8, 3#8, 2#8, 0#8, BitVec.ofInt 64 (-6)⟩, ⟨19#8, 0#8, 2#8, 2#8, BitVec.ofInt 64 (-5)⟩], [⟨65#8, 0#8, 0#8, 0#8, 0#64⟩], [⟨63#8, 5#8, 2#8, 0#8, 77#64⟩, ⟨3#8, 5#8, 0#8, 0#8, 8#64⟩, ⟨65#8, 0#8, 0#8, 0#8, 0#64⟩, ⟨5#8, 0#8, 0#8, 0#8, BitVec.ofInt 64 (-8)⟩], [⟨22#8, 17#8, 0#8, 0#8, 1#64⟩, ⟨64#8, 0#8, 0#8, 0#8, 0#64⟩, ⟨22#8, 17#8, 0#8, 0#8, 2#64⟩, ⟨64#8, 0#8, 0#8, 0#8, 0#64⟩, ⟨3#8, 0#8, 0#8, 0#8, BitVec.ofInt 64 (-16)⟩], [⟨22#8, 17#8, 0#8, 0#8, 1#64⟩, ⟨64#8, 0#8, 0#8, 0#8, 0#64⟩, ⟨22#8, 17#8, 0#8, 0#8, 4#64⟩, ⟨64#8, 0#8, 0#8, 0#8, 0#64⟩], [⟨64#8, 0#8, 0#8, 0#8, 0#64⟩], [⟨22#8, 17#8, 0#8, 0#8, 5#64⟩, ⟨64#8, 0#8, 0#8, 0#8, 0#64⟩], [⟨1#8, 5#8, 0#8, 0#8, 4194304#64⟩, ⟨21#8, 0#8, 5#8, 2#8, 8#64⟩, ⟨17#8, 6#8, 5#8, 0#8, 8#64⟩, ⟨20#8, 0#8, 5#8, 2#8, 12#64⟩, ⟨21#8, 0#8, 5#8, 2#8, 16#64⟩], [⟨2#8, 5#8, 0#8, 0#8, 0#64⟩, ⟨14#8, 6#8, 5#8, 0#8, 0#64⟩], [⟨3#8, 1#8, 0#8, 0#8, 2#64⟩], [⟨1#8, 5#8, 0#8, 0#8, 8323072#64⟩, ⟨21#8, 0#8, 5#8, 5#8, 0#64⟩, ⟨21#8, 0#8, 5#8, 5#8, BitVec.ofInt 64 (-8)⟩]]
def knownRow (i : Nat) : List RvInst := knownRows.getD i []
theorem known_all : ((List.range 15).all fun i => ((codeW (knownRow i)).length == (knownRow i).length) && (knownRow i).length <= 5 && (i == 0 || 1 <= (knownRow i).length)) = true := by kernel_rfl
theorem known_len {i : Nat} (h : i < 15) : (codeW (knownRow i)).length = (knownRow i).length ∧ (knownRow i).length ≤ 5 ∧ (i ≠ 0 → 1 ≤ (knownRow i).length) := by
 have h1 := List.all_eq_true.1 known_all i (List.mem_range.2 h)
 simp only [Bool.and_eq_true, Bool.or_eq_true, beq_iff_eq, decide_eq_true_eq] at h1
 exact ⟨h1.1.1, h1.1.2, fun h0 => h1.2.resolve_left h0⟩
theorem all15 {P : Nat → Prop} (h0 : P 0) (h1 : P 1) (h2 : P 2) (h3 : P 3) (h4 : P 4) (h5 : P 5) (h6 : P 6) (h7 : P 7) (h8 : P 8) (h9 : P 9) (h10 : P 10) (h11 : P 11) (h12 : P 12) (h13 : P 13) (h14 : P 14) : ∀ i, i < 15 → P i := by
 intro i hi
 match i, hi with
 | 0, _ => exact h0
 | 1, _ => exact h1
 | 2, _ => exact h2
 | 3, _ => exact h3
 | 4, _ => exact h4
 | 5, _ => exact h5
 | 6, _ => exact h6
 | 7, _ => exact h7
 | 8, _ => exact h8
 | 9, _ => exact h9
 | 10, _ => exact h10
 | 11, _ => exact h11
 | 12, _ => exact h12
 | 13, _ => exact h13
 | 14, _ => exact h14
 | n + 15, h => exact absurd h (by omega)
def KRows (w : World) (b : Nat) : Prop := ∃ vs : List Value, Blk w b vs.toArray 49 ∧ vs.length = 15 ∧ ∀ i, i < 15 → Sl w (vs.getD i undef) 5 (knownRow i).length (instCells (knownRow i))
theorem KRows.ext {w w' : World} {b : Nat} (h : KRows w b) (e : Ext w w') : KRows w' b := by
 obtain ⟨vs, hb, hl, hs⟩ := h
 exact ⟨vs, hb.ext e, hl, fun i hi => (hs i hi).ext' e⟩
theorem KRows.row {w : World} {b i : Nat} (h : KRows w b) (hi : i < 15) : ∃ v, w.cell? ⟨b, 0 + i * 1, none⟩ = some v ∧ Sl w v 5 (knownRow i).length (instCells (knownRow i)) := by
 obtain ⟨vs, hb, hl, hs⟩ := h
 refine ⟨vs.getD i undef, hb.cell ?_, hs i hi⟩
 have e : 0 + i * 1 = i := by omega
 rw [e, List.getElem?_toArray, List.getElem?_eq_getElem (by omega), List.getD_eq_getElem?_getD, List.getElem?_eq_getElem (by omega)]; rfl
def knownI (ws : List (BitVec 32)) : Img := ⟨16, [([115, 116, 97, 114, 116], 0)], ws⟩
theorem knownI_syms (ws : List (BitVec 32)) : ∀ s ∈ (knownI ws).syms, True ∧ s.2 ≤ 9223372036854775807 := by
 intro s hs
 rcases List.mem_singleton.1 hs with rfl
 exact ⟨trivial, by decide⟩
def knownLook : List (BitVec 64) := [4194304#64, 4194312#64, 4194320#64, 4194308#64, 8323072#64, 8388600#64, 8388608#64, 0#64, 18446744073709551608#64, 65536#64]
theorem known_in : List.map I64 [5#64, BitVec.ofInt 64 (-6)] = [.int .i64 5, .int .i64 (-6)] := by kernel_rfl
set_option maxHeartbeats 8000000 in
theorem known_spec (w : World) (hG : Glob w) (hX : HX w) : Cx 8 #[] w (.bool true) := by
 refine Co func8 G G ?_
 refine Sr (Ae (.bool false) (Ni (Sr (Ae (.pointer none) (Ni (Sr (Me (.pointer none) (Ca (peek_nil 4194304#64 _) ?_))))))))
 rintro _ wc20 ⟨rfl, ec20⟩
 have E1 : Ext w wc20 := ec20
 refine Me (.tuple #[Z8, .bool false]) (Et G G (Et G G (Ae Z8 (Ae (.bool false) (Ni (Sr (Me (.pointer none) (Ca (step_nil _) ?_))))))))
 rintro _ wc24 ⟨rfl, ec24⟩
 have E2 := Mt E1 ec24
 refine Bt G G BinR.eql G (Me (.bool true) (Gr (Me (.pointer none) (Gr (Ca (run_nil _) ?_)))))
 rintro _ wc28 ⟨rfl, ec28⟩
 have E3 := Mt E2 ec28
 refine Gr (Bt G G BinR.eql G (Pt G (Me (.bool true) (Gr (Me (.pointer none) (Gr (Ca (ended_nil _) ?_)))))))
 rintro _ wc33 ⟨rfl, ec33⟩
 have E4 := Mt E3 ec33
 refine Pt G (Me (.bool true) (Gr (Me (.pointer none) (Gr (Ca (trapm_nil _) ?_)))))
 rintro _ wc37 ⟨rfl, ec37⟩
 have E5 := Mt E4 ec37
 refine Gr (WL.un G G UnR.not (Pt G (Me (.bool true) (Gr (Me (.pointer none) (Gr (Ca (events_nil _) ?_)))))))
 rintro _ wc42 ⟨rfl, ec42⟩
 have E6 := Mt E5 ec42
 refine Gr (WL.lenS el34 G G (Gr (Bt G G BinR.eql G (Pt G (Me (.bool true) (Gr (Me (.pointer none) (Gr (Ca (steps_nil _) ?_)))))))))
 rintro _ wc48 ⟨rfl, ec48⟩
 have E7 := Mt E6 ec48
 refine Gr (Bt G G BinR.eql G (Pt G (Me (.bool true) (Gr (Me (.pointer none) (Gr (Ca (pc_nil _) ?_)))))))
 rintro _ wc53 ⟨rfl, ec53⟩
 have E8 := Mt E7 ec53
 refine Gr (Bt (vy := U64 0#64) G G BinR.eqlU64 G (Pt G (Me (.bool true) (Gr (Me (.pointer none) (Gr (Ca (reg_nil 2 _) ?_)))))))
 rintro _ wc58 ⟨rfl, ec58⟩
 have E9 := Mt E8 ec58
 refine Gr (Bt (vy := U64 0#64) G G BinR.eqlU64 G (Pt G (Me (.bool true) (Gr (Me (.bool false) (Gr (WL.un G G UnR.not (Pt G (Ae (.bool true) (Ni (Sr (WL.buildSlice (vs := [(0, U64 0#64), (1, U64 1#64), (2, U64 2#64), (3, U64 31#64), (4, U64 32#64), (5, U64 63#64), (6, U64 64#64), (7, U64 2147483647#64), (8, U64 2147483648#64), (9, U64 4294967295#64), (10, U64 4294967296#64), (11, U64 9223372036854775807#64), (12, U64 9223372036854775808#64), (13, U64 18446744073709551615#64), (14, U64 18446744073709551585#64), (15, U64 1311768467463790320#64)]) G bls8_65 G ?_))))))))))))
 intro b65 w65 n65
 have E10 := Mt E9 n65.ext
 refine Ae (Sv b65 16 16) (Ni (Sq (Sr (Ae (U8 1#8) (Ni (Bk ?_))))))
 refine WC.loop (fun k f w_ => ∃ o, (k + BitVec.toNat (o : BitVec 8) = 66) ∧ f 4 = .bool true ∧ f 5 = Sv b65 16 16 ∧ f 6 = U8 o ∧ (Ext w w_) ∧ (Blk w_ b65 (knownNums.map U64).toArray 39)) 65 ?_ ?_
 ·exact ⟨1#8, G, G, G, G, E10, n65.blk⟩
 rintro ka f1 wo ⟨o, hko, h4_1, h5_1, h6_1, hE, hNB⟩
 refine Sq (Sr (Mv (U8 o) h6_1 (Bn (vy := U8 65#8) G G BinR.leqU8 (Ni ?_))))
 refine WC.cond G (fun hc67 => ?_) (fun hc67 => ?_)
 ·have ho : o.toNat ≤ 65 := of_decide_eq_true hc67
  have ho1 : (o + 1#8).toNat = o.toNat + 1 := by rw [BitVec.toNat_add]; show (o.toNat + 1) % 256 = _; omega
  refine WC.skip (Sq (Bk (Sr (Ae (IN 0) (Ni (Bk ?_))))))
  refine WC.loop (fun k f w_ => ∃ i, (k + i = 16) ∧ f 4 = .bool true ∧ f 5 = Sv b65 16 16 ∧ f 6 = U8 o ∧ f 7 = IN i ∧ (Ext w w_) ∧ (Blk w_ b65 (knownNums.map U64).toArray 39)) 16 ?_ ?_
  ·exact ⟨0, by omega, h4_1, h5_1, h6_1, G, hE, hNB⟩
  rintro kb f2 wi ⟨i, hki, h4_2, h5_2, h6_2, h7_2, hE, hNB⟩
  refine Sq (Sr (Mv (IN i) h7_2 (Mv (Sv b65 16 16) h5_2 (WL.lenS el66 G G (Bn G G BinR.lss (Ni ?_))))))
  refine WC.cond G (fun hc73 => ?_) (fun hc73 => ?_)
  ·have hi : i < 16 := by have := of_decide_eq_true hc73; omega
   refine WC.skip (Sq (Bk (Sr (Ae (IN 0) (Ni (Bk ?_))))))
   refine WC.loop (fun k f w_ => ∃ q, (k + q = 16) ∧ f 4 = .bool true ∧ f 5 = Sv b65 16 16 ∧ f 6 = U8 o ∧ f 7 = IN i ∧ f 8 = IN q ∧ (Ext w w_) ∧ (Blk w_ b65 (knownNums.map U64).toArray 39)) 16 ?_ ?_
   ·exact ⟨0, by omega, h4_2, h5_2, h6_2, h7_2, G, hE, hNB⟩
   rintro kc f3 wq ⟨q, hkq, h4_3, h5_3, h6_3, h7_3, h8_3, hE, hNB⟩
   refine Sq (Sr (Mv (IN q) h8_3 (Mv (Sv b65 16 16) h5_3 (WL.lenS el66 G G (Bn G G BinR.lss (Ni ?_))))))
   refine WC.cond G (fun hc79 => ?_) (fun hc79 => ?_)
   ·have hq : q < 16 := by have := of_decide_eq_true hc79; omega
    refine WC.skip (Sq (Bk (Sr (Mv (U8 o) h6_3 (WL.build (v := .agg #[U8 o, U8 5#8, U8 6#8, U8 7#8, IN 0]) (vs := [(0, U8 o), (1, U8 5#8), (2, U8 6#8), (3, U8 7#8)]) G (bld8_83 o) G (WL.allocStore (v := .agg #[U8 o, U8 5#8, U8 6#8, U8 7#8, IN 0]) zt48 G sz48 G G G G ?_))))))
    intro b9 w9 n9
    have hl_b65_b9 : b65 < b9 := by have := hNB.lt; have := n9.num; omega
    have E12 := Mt hE n9.ext
    refine Ni ?_
    have hb9 : w.heap.size ≤ b9 := by have := n9.num; have := Mod.size hE; omega
    refine Sr (Se [U8 o, U8 5#8, U8 6#8, U8 7#8, IN 0] n9.blk (Ca (encode_spec ⟨o, 5#8, 6#8, 7#8, 0⟩ _ (hG.ext E12)) ?_))
    rintro _ wen86 ⟨rfl, een86⟩
    have E14 := Mt E12 een86
    refine Me (.tuple #[U32 (encodeR ⟨o, 5#8, 6#8, 7#8, 0⟩).1, IN (encodeR ⟨o, 5#8, 6#8, 7#8, 0⟩).2]) (Et G G (Et G G (Ae (U32 ((encodeR ⟨o, 5#8, 6#8, 7#8, 0⟩).1)) (Ae (IN ((encodeR ⟨o, 5#8, 6#8, 7#8, 0⟩).2)) (Ni (Sq (Sr (Ae (IN 0) (Ni (Bk ?_))))))))))
    refine WC.loop (fun k f w_ => ∃ t er a, (k + t = 3) ∧ f 4 = .bool true ∧ f 5 = Sv b65 16 16 ∧ f 6 = U8 o ∧ f 7 = IN i ∧ f 8 = IN q ∧ f 9 = ptr b9 0 ∧ f 11 = IN er ∧ f 12 = IN t ∧ (Ext w w_) ∧ (Blk w_ b65 (knownNums.map U64).toArray 39) ∧ (Blk w_ b9 #[U8 (RvInst.op a), U8 (RvInst.rd a), U8 (RvInst.rs1 a), U8 (RvInst.rs2 a), I64 (RvInst.imm a)] 48)) 3 ?_ ?_
    have B15 := (hNB.ext n9.ext).ext een86
    have B16 := n9.blk.ext een86
    ·exact ⟨0, ((encodeR ⟨o, 5#8, 6#8, 7#8, 0⟩).2), (⟨o, 5#8, 6#8, 7#8, 0⟩), by omega, h4_3, h5_3, h6_3, h7_3, h8_3, G, G, G, E14, B15, B16⟩
    rintro kd f4 wt ⟨t, er, a, hkt, h4_4, h5_4, h6_4, h7_4, h8_4, h9_4, h11_4, h12_4, hE, hNB, hA⟩
    refine Sq (Sq ?_)
    refine WC.cut (fun f' w_ => ∃ c, f' 4 = .bool true ∧ f' 5 = Sv b65 16 16 ∧ f' 6 = U8 o ∧ f' 7 = IN i ∧ f' 8 = IN q ∧ f' 9 = ptr b9 0 ∧ f' 11 = IN er ∧ f' 12 = IN t ∧ f' 94 = .bool c ∧ (c = true → t < 3) ∧ wt = w_) ?_ ?_
    ·refine Rg (Mv (IN t) h12_4 (Bn G G BinR.lss (Me (.bool (decide (((t : Nat) : Int) < (3 : Int)))) ?_)))
     rcases Bool.eq_false_or_eq_true (decide (((t : Nat) : Int) < (3 : Int))) with hg91 | hg91
     ·refine Gy hg91 (Mv (IN er) h11_4 (Gy hg91 (Bn G G BinR.neq (Qt hg91 G (Ni ?_)))))
      exact ⟨G, ((((er : Nat) : Int) != (0 : Int))), h4_4, h5_4, h6_4, h7_4, h8_4, h9_4, h11_4, h12_4, G, (by intro hcc; first | (have := of_decide_eq_true hg91; omega) | cases hcc), G⟩
     ·refine Gz hg91 (Gz hg91 (Qf hg91 G (Ni ?_)))
      exact ⟨G, false, h4_4, h5_4, h6_4, h7_4, h8_4, h9_4, h11_4, h12_4, G, (by intro hcc; first | (have := of_decide_eq_true hg91; omega) | cases hcc), G⟩
    rintro fc17 _ ⟨c, hc17_4, hc17_5, hc17_6, hc17_7, hc17_8, hc17_9, hc17_11, hc17_12, hc17_94, h94, rfl⟩
    refine WC.cond hc17_94 (fun hc94 => ?_) (fun hc94 => ?_)
    ·have ht3 := h94 hc94
     refine WC.skip (Sq (Bk (Sq (Sr (Mv (IN t) hc17_12 (Ni (Bk (Sr (Bn G G BinR.eql (Ae (.bool ((((t : Nat) : Int) == (0 : Int)))) (Ni ?_)))))))))))
     refine WC.cond G (fun hc100 => ?_) (fun hc100 => ?_)
     ·refine Rg (Fa hc17_9 fo48_3 (WL.storeB (v := U8 0#8) G G G sz5 hA (Nat.le_of_ble_eq_true G) ?_))
      intro ws17 ms17 bs17 zs17
      have E17 : Ext w ws17 := Mod.then hE ms17 (fun i hi (e : i = b9) => absurd hi (by omega))
      refine Ni (Rg (Ls [U8 (RvInst.op a), U8 (RvInst.rd a), U8 (RvInst.rs1 a), U8 0#8, I64 (RvInst.imm a)] hc17_9 ag48 sz48 bs17 (Ca (encode_spec ⟨(RvInst.op a), (RvInst.rd a), (RvInst.rs1 a), 0#8, (RvInst.imm a)⟩ _ (hG.ext E17)) ?_)))
      rintro _ wen108 ⟨rfl, een108⟩
      have E18 := Mt E17 een108
      refine Me (.tuple #[U32 (encodeR ⟨(RvInst.op a), (RvInst.rd a), (RvInst.rs1 a), 0#8, (RvInst.imm a)⟩).1, IN (encodeR ⟨(RvInst.op a), (RvInst.rd a), (RvInst.rs1 a), 0#8, (RvInst.imm a)⟩).2]) (Et G G (Et G G (Ae (IN ((encodeR ⟨(RvInst.op a), (RvInst.rd a), (RvInst.rs1 a), 0#8, (RvInst.imm a)⟩).2)) (Ni (Rg (Mv (IN t) hc17_12 (Bn G G (BinR.succN (by omega)) (Ae (IN (t + 1)) (Ni ?_)))))))))
      have B19 := (hNB.mod ms17 (by omega)).ext een108
      have B20 := bs17.ext een108
      exact ⟨kd - 1, by omega, (t + 1), ((encodeR ⟨(RvInst.op a), (RvInst.rd a), (RvInst.rs1 a), 0#8, (RvInst.imm a)⟩).2), (⟨(RvInst.op a), (RvInst.rd a), (RvInst.rs1 a), 0#8, (RvInst.imm a)⟩), by omega, hc17_4, hc17_5, hc17_6, hc17_7, hc17_8, hc17_9, G, G, E18, B19, B20⟩
     ·refine Sr (Bn G G BinR.eql (Ae (.bool ((((t : Nat) : Int) == (1 : Int)))) (Ni ?_)))
      refine WC.cond G (fun hc103 => ?_) (fun hc103 => ?_)
      ·refine Rg (Fa hc17_9 fo48_2 (WL.storeB (v := U8 0#8) G G G sz5 hA (Nat.le_of_ble_eq_true G) ?_))
       intro ws21 ms21 bs21 zs21
       have E21 : Ext w ws21 := Mod.then hE ms21 (fun i hi (e : i = b9) => absurd hi (by omega))
       refine Ni (Rg (Ls [U8 (RvInst.op a), U8 (RvInst.rd a), U8 0#8, U8 (RvInst.rs2 a), I64 (RvInst.imm a)] hc17_9 ag48 sz48 bs21 (Ca (encode_spec ⟨(RvInst.op a), (RvInst.rd a), 0#8, (RvInst.rs2 a), (RvInst.imm a)⟩ _ (hG.ext E21)) ?_)))
       rintro _ wen108 ⟨rfl, een108⟩
       have E22 := Mt E21 een108
       refine Me (.tuple #[U32 (encodeR ⟨(RvInst.op a), (RvInst.rd a), 0#8, (RvInst.rs2 a), (RvInst.imm a)⟩).1, IN (encodeR ⟨(RvInst.op a), (RvInst.rd a), 0#8, (RvInst.rs2 a), (RvInst.imm a)⟩).2]) (Et G G (Et G G (Ae (IN ((encodeR ⟨(RvInst.op a), (RvInst.rd a), 0#8, (RvInst.rs2 a), (RvInst.imm a)⟩).2)) (Ni (Rg (Mv (IN t) hc17_12 (Bn G G (BinR.succN (by omega)) (Ae (IN (t + 1)) (Ni ?_)))))))))
       have B23 := (hNB.mod ms21 (by omega)).ext een108
       have B24 := bs21.ext een108
       exact ⟨kd - 1, by omega, (t + 1), ((encodeR ⟨(RvInst.op a), (RvInst.rd a), 0#8, (RvInst.rs2 a), (RvInst.imm a)⟩).2), (⟨(RvInst.op a), (RvInst.rd a), 0#8, (RvInst.rs2 a), (RvInst.imm a)⟩), by omega, hc17_4, hc17_5, hc17_6, hc17_7, hc17_8, hc17_9, G, G, E22, B23, B24⟩
      ·refine Rg (Mv (U8 o) hc17_6 (WL.build (v := .agg #[U8 o, Z1, U8 6#8, U8 7#8, IN 0]) (vs := [(0, U8 o), (2, U8 6#8), (3, U8 7#8)]) G (bld8_99 o) G (WL.storeS (v := .agg #[U8 o, Z1, U8 6#8, U8 7#8, IN 0]) hc17_9 G hA G sz48 G G ?_)))
       intro ws25 ms25 bs25 zs25
       have E25 : Ext w ws25 := Mod.then hE ms25 (fun i hi (e : i = b9) => absurd hi (by omega))
       refine Ni (Rg (Ls [U8 o, Z1, U8 6#8, U8 7#8, IN 0] hc17_9 ag48 sz48 bs25 (Ca (encode_spec ⟨o, 0, 6#8, 7#8, 0⟩ _ (hG.ext E25)) ?_)))
       rintro _ wen108 ⟨rfl, een108⟩
       have E26 := Mt E25 een108
       refine Me (.tuple #[U32 (encodeR ⟨o, 0, 6#8, 7#8, 0⟩).1, IN (encodeR ⟨o, 0, 6#8, 7#8, 0⟩).2]) (Et G G (Et G G (Ae (IN ((encodeR ⟨o, 0, 6#8, 7#8, 0⟩).2)) (Ni (Rg (Mv (IN t) hc17_12 (Bn G G (BinR.succN (by omega)) (Ae (IN (t + 1)) (Ni ?_)))))))))
       have B27 := (hNB.mod ms25 (by omega)).ext een108
       have B28 := bs25.ext een108
       exact ⟨kd - 1, by omega, (t + 1), ((encodeR ⟨o, 0, 6#8, 7#8, 0⟩).2), (⟨o, 0, 6#8, 7#8, 0⟩), by omega, hc17_4, hc17_5, hc17_6, hc17_7, hc17_8, hc17_9, G, G, E26, B27, B28⟩
    ·refine WC.exit (Sq (Sq (WC.draw (fun w_ => Ext wt w_) 11 G mixed ?_)))
     intro wd_26 ed_26
     have R30 : Ext wt wd_26 := ed_26
     have E31 := Mt hE ed_26
     refine Tk 0 (.agg #[U8 (RvInst.op a), U8 (RvInst.rd a), U8 (RvInst.rs1 a), U8 (RvInst.rs2 a), I64 (RvInst.imm a)]) G G (fun _ hS => Ls _ hc17_9 ag48 sz48 ((hA.ext hS)) Ok) R30 (Tp 1 (Sv b65 16 16) G G (Mv (Sv b65 16 16) hc17_5 Ok) R30 (Tp 2 (IN i) G G (Mv (IN i) hc17_7 Ok) R30 (Tp 3 (ptr b65 (0 + i * 1)) G G (WL.indexAddr (i := i) (b := b65) (o := 0) el66 sz39 (Eq.trans G G) G (by omega) G Ok) R30 (Tk 4 (U64 ((knownNums.getD i 0#64))) G G (fun _ hS => Lx G ((hNB.ext hS).cell (knownNums_at (i := i) (by omega))) Ok) R30 (Tp 5 (Sv b65 16 16) G G (Mv (Sv b65 16 16) hc17_5 Ok) R30 (Tp 6 (IN q) G G (Mv (IN q) hc17_8 Ok) R30 (Tp 7 (ptr b65 (0 + q * 1)) G G (WL.indexAddr (i := q) (b := b65) (o := 0) el66 sz39 (Eq.trans G G) G (by omega) G Ok) R30 (Tk 8 (U64 ((knownNums.getD q 0#64))) G G (fun _ hS => Lx G ((hNB.ext hS).cell (knownNums_at (i := q) (by omega))) Ok) R30 (WA.one (i := 9) (m' := 1023) (by kernel_rfl) G G (Ca (mdoes_spec ⟨(RvInst.op a), (RvInst.rd a), (RvInst.rs1 a), (RvInst.rs2 a), (RvInst.imm a)⟩ 65536#64 ((knownNums.getD i 0#64)) ((knownNums.getD q 0#64)) _ (hG.ext E31) (Mod.cell E31 hX (fun h => h))) ?_))))))))))
     rintro _ wmd120 ⟨rfl, emd120⟩
     have R45 := Mt R30 emd120
     have E46 := Mt E31 emd120
     refine WL.behind R45 (Tp 10 (.bool false) G G (WL.un G G UnR.not Ok) R45 (WA.done (by kernel_rfl) (Cf G (WC.skip (Sr (Fa hc17_9 fo48_4 ?_))))))
     have B48 := (hA.ext ed_26).ext emd120
     refine WL.storeB (v := I64 16#64) G G G sz2 B48 (Nat.le_of_ble_eq_true G) ?_
     intro ws49 ms49 bs49 zs49
     have E49 : Ext w ws49 := Mod.then E46 ms49 (fun i hi (e : i = b9) => absurd hi (by omega))
     refine Ni (Sq (Sq (WC.draw (fun w_ => Ext ws49 w_) 11 G mixed ?_)))
     intro wd_29 ed_29
     have R50 : Ext ws49 wd_29 := ed_29
     have E51 := Mt E49 ed_29
     refine Tk 0 (.agg #[U8 (RvInst.op a), U8 (RvInst.rd a), U8 (RvInst.rs1 a), U8 (RvInst.rs2 a), I64 16#64]) G G (fun _ hS => Ls _ hc17_9 ag48 sz48 ((bs49.ext hS)) Ok) R50 (Tp 1 (Sv b65 16 16) G G (Mv (Sv b65 16 16) hc17_5 Ok) R50 (Tp 2 (IN i) G G (Mv (IN i) hc17_7 Ok) R50 (Tp 3 (ptr b65 (0 + i * 1)) G G (WL.indexAddr (i := i) (b := b65) (o := 0) el66 sz39 (Eq.trans G G) G (by omega) G Ok) R50 (Tk 4 (U64 ((knownNums.getD i 0#64))) G G (fun _ hS => Lx G ((((((hNB.ext ed_26).ext emd120).mod ms49 (by omega)).ext hS)).cell (knownNums_at (i := i) (by omega))) Ok) R50 (Tp 5 (Sv b65 16 16) G G (Mv (Sv b65 16 16) hc17_5 Ok) R50 (Tp 6 (IN q) G G (Mv (IN q) hc17_8 Ok) R50 (Tp 7 (ptr b65 (0 + q * 1)) G G (WL.indexAddr (i := q) (b := b65) (o := 0) el66 sz39 (Eq.trans G G) G (by omega) G Ok) R50 (Tk 8 (U64 ((knownNums.getD q 0#64))) G G (fun _ hS => Lx G ((((((hNB.ext ed_26).ext emd120).mod ms49 (by omega)).ext hS)).cell (knownNums_at (i := q) (by omega))) Ok) R50 (WA.one (i := 9) (m' := 1023) (by kernel_rfl) G G (Ca (mdoes_spec ⟨(RvInst.op a), (RvInst.rd a), (RvInst.rs1 a), (RvInst.rs2 a), 16#64⟩ 18446744073709551608#64 ((knownNums.getD i 0#64)) ((knownNums.getD q 0#64)) _ (hG.ext E51) (Mod.cell E51 hX (fun h => h))) ?_))))))))))
     rintro _ wmd132 ⟨rfl, emd132⟩
     have R64 := Mt R50 emd132
     have E65 := Mt E51 emd132
     refine WL.behind R64 (Tp 10 (.bool false) G G (WL.un G G UnR.not Ok) R64 (WA.done (by kernel_rfl) (Cf G (WC.skip (Sr (Fa hc17_9 fo48_4 ?_))))))
     have B67 := (bs49.ext ed_29).ext emd132
     refine WL.storeB (v := I64 (BitVec.ofInt 64 (-16))) G (cI64 _ (by decide)) G sz2 B67 (Nat.le_of_ble_eq_true G) ?_
     intro ws68 ms68 bs68 zs68
     have E68 : Ext w ws68 := Mod.then E65 ms68 (fun i hi (e : i = b9) => absurd hi (by omega))
     refine Ni (Sq (WC.draw (fun w_ => Ext ws68 w_) 11 G mixed ?_))
     intro wd_32 ed_32
     have R69 : Ext ws68 wd_32 := ed_32
     have E70 := Mt E68 ed_32
     refine Tk 0 (.agg #[U8 (RvInst.op a), U8 (RvInst.rd a), U8 (RvInst.rs1 a), U8 (RvInst.rs2 a), I64 (BitVec.ofInt 64 (-16))]) G G (fun _ hS => Ls _ hc17_9 ag48 sz48 ((bs68.ext hS)) Ok) R69 (Tp 1 (Sv b65 16 16) G G (Mv (Sv b65 16 16) hc17_5 Ok) R69 (Tp 2 (IN i) G G (Mv (IN i) hc17_7 Ok) R69 (Tp 3 (ptr b65 (0 + i * 1)) G G (WL.indexAddr (i := i) (b := b65) (o := 0) el66 sz39 (Eq.trans G G) G (by omega) G Ok) R69 (Tk 4 (U64 ((knownNums.getD i 0#64))) G G (fun _ hS => Lx G (((((((((hNB.ext ed_26).ext emd120).mod ms49 (by omega)).ext ed_29).ext emd132).mod ms68 (by omega)).ext hS)).cell (knownNums_at (i := i) (by omega))) Ok) R69 (Tp 5 (Sv b65 16 16) G G (Mv (Sv b65 16 16) hc17_5 Ok) R69 (Tp 6 (IN q) G G (Mv (IN q) hc17_8 Ok) R69 (Tp 7 (ptr b65 (0 + q * 1)) G G (WL.indexAddr (i := q) (b := b65) (o := 0) el66 sz39 (Eq.trans G G) G (by omega) G Ok) R69 (Tk 8 (U64 ((knownNums.getD q 0#64))) G G (fun _ hS => Lx G (((((((((hNB.ext ed_26).ext emd120).mod ms49 (by omega)).ext ed_29).ext emd132).mod ms68 (by omega)).ext hS)).cell (knownNums_at (i := q) (by omega))) Ok) R69 (WA.one (i := 9) (m' := 1023) (by kernel_rfl) G G (Ca (mdoes_spec ⟨(RvInst.op a), (RvInst.rd a), (RvInst.rs1 a), (RvInst.rs2 a), BitVec.ofInt 64 (-16)⟩ 65536#64 ((knownNums.getD i 0#64)) ((knownNums.getD q 0#64)) _ (hG.ext E70) (Mod.cell E70 hX (fun h => h))) ?_))))))))))
     rintro _ wmd144 ⟨rfl, emd144⟩
     have R83 := Mt R69 emd144
     have E84 := Mt E70 emd144
     refine WL.behind R83 (Tp 10 (.bool false) G G (WL.un G G UnR.not Ok) R83 (WA.done (by kernel_rfl) (Cf G (WC.skip (Rg (Mv (IN q) hc17_8 (Bn G G (BinR.succN (by omega)) (Ae (IN (q + 1)) (Ni ?_)))))))))
     have B86 := (((((((hNB.ext ed_26).ext emd120).mod ms49 (by omega)).ext ed_29).ext emd132).mod ms68 (by omega)).ext ed_32).ext emd144
     exact ⟨kc - 1, by omega, (q + 1), by omega, hc17_4, hc17_5, hc17_6, hc17_7, G, E84, B86⟩
   ·refine WC.exit (Rg (Mv (IN i) h7_3 (Bn G G (BinR.succN (by omega)) (Ae (IN (i + 1)) (Ni ?_)))))
    exact ⟨kb - 1, by omega, (i + 1), by omega, h4_3, h5_3, h6_3, G, hE, hNB⟩
  ·refine WC.exit (Rg (Mv (U8 o) h6_2 (Bn (vy := U8 1#8) G G BinR.addU8 (Ae (U8 ((o + 1#8))) (Ni ?_)))))
   exact ⟨ka - 1, by omega, (o + 1#8), (by rw [ho1]; omega), h4_2, h5_2, G, hE, hNB⟩
 ·refine WC.exit (Sr (Bl (.agg #[U8 22#8, U8 17#8, Z1, Z1, I64 1#64]) [(0, U8 22#8), (1, U8 17#8), (4, I64 1#64)] (WL.allocStore (v := .agg #[U8 22#8, U8 17#8, Z1, Z1, I64 1#64]) zt48 G sz48 G G G G ?_)))
  intro b13 w13 n13
  have hl_b65_b13 : b65 < b13 := by have := hNB.lt; have := n13.num; omega
  have E88 := Mt hE n13.ext
  refine Ni (Sr (Bl (.agg #[U8 64#8, Z1, Z1, Z1, IN 0]) [(0, U8 64#8)] ?_))
  have B89 := hNB.ext n13.ext
  refine WL.allocStore (v := .agg #[U8 64#8, Z1, Z1, Z1, IN 0]) zt48 G sz48 G G G G ?_
  intro b14 w14 n14
  have hl_b65_b14 : b65 < b14 := by have := B89.lt; have := n14.num; omega
  have hl_b13_b14 : b13 < b14 := by have := n13.blk.lt; have := n14.num; omega
  have E91 := Mt E88 n14.ext
  refine Ni (Sr (WL.buildSlice (vs := []) G bls8_148 G ?_))
  intro b148 w148 n148
  have E93 := Mt E91 n148.ext
  refine Bl (.agg #[U8 14#8, U8 1#8, U8 2#8, Z1, IN 0]) [(0, U8 14#8), (1, U8 1#8), (2, U8 2#8)] (WL.buildSlice (vs := [(0, .agg #[U8 14#8, U8 1#8, U8 2#8, Z1, IN 0])]) G bls8_150 G ?_)
  intro b150 w150 n150
  have E95 := Mt E93 n150.ext
  refine Bl (.agg #[U8 14#8, U8 1#8, U8 2#8, Z1, I64 (BitVec.ofInt 64 (-8))]) [(0, U8 14#8), (1, U8 1#8), (2, U8 2#8), (4, I64 (BitVec.ofInt 64 (-8)))] (Bl (.agg #[U8 4#8, U8 1#8, U8 1#8, Z1, I64 3#64]) [(0, U8 4#8), (1, U8 1#8), (2, U8 1#8), (4, I64 3#64)] (WL.buildSlice (vs := [(0, .agg #[U8 14#8, U8 1#8, U8 2#8, Z1, I64 (BitVec.ofInt 64 (-8))]), (1, .agg #[U8 4#8, U8 1#8, U8 1#8, Z1, I64 3#64])]) G bls8_153 G ?_))
  intro b153 w153 n153
  have E97 := Mt E95 n153.ext
  refine Bl (.agg #[U8 14#8, U8 1#8, U8 2#8, Z1, I64 (BitVec.ofInt 64 (-4))]) [(0, U8 14#8), (1, U8 1#8), (2, U8 2#8), (4, I64 (BitVec.ofInt 64 (-4)))] (WL.buildSlice (vs := [(0, .agg #[U8 14#8, U8 1#8, U8 2#8, Z1, I64 (BitVec.ofInt 64 (-4))])]) G bls8_155 G ?_)
  intro b155 w155 n155
  have E99 := Mt E97 n155.ext
  refine Bl (.agg #[U8 13#8, U8 1#8, U8 2#8, Z1, I64 (BitVec.ofInt 64 (-4))]) [(0, U8 13#8), (1, U8 1#8), (2, U8 2#8), (4, I64 (BitVec.ofInt 64 (-4)))] (Bl (.agg #[U8 19#8, Z1, U8 2#8, U8 2#8, I64 (BitVec.ofInt 64 (-6))]) [(0, U8 19#8), (2, U8 2#8), (3, U8 2#8), (4, I64 (BitVec.ofInt 64 (-6)))] (Bl (.agg #[U8 15#8, U8 3#8, U8 2#8, Z1, I64 (BitVec.ofInt 64 (-5))]) [(0, U8 15#8), (1, U8 3#8), (2, U8 2#8), (4, I64 (BitVec.ofInt 64 (-5)))] (Bl (.agg #[U8 11#8, U8 3#8, U8 2#8, Z1, I64 (BitVec.ofInt 64 (-6))]) [(0, U8 11#8), (1, U8 3#8), (2, U8 2#8), (4, I64 (BitVec.ofInt 64 (-6)))] (Bl (.agg #[U8 19#8, Z1, U8 2#8, U8 2#8, I64 (BitVec.ofInt 64 (-5))]) [(0, U8 19#8), (2, U8 2#8), (3, U8 2#8), (4, I64 (BitVec.ofInt 64 (-5)))] (WL.buildSlice (vs := [(0, .agg #[U8 13#8, U8 1#8, U8 2#8, Z1, I64 (BitVec.ofInt 64 (-4))]), (1, .agg #[U8 19#8, Z1, U8 2#8, U8 2#8, I64 (BitVec.ofInt 64 (-6))]), (2, .agg #[U8 15#8, U8 3#8, U8 2#8, Z1, I64 (BitVec.ofInt 64 (-5))]), (3, .agg #[U8 11#8, U8 3#8, U8 2#8, Z1, I64 (BitVec.ofInt 64 (-6))]), (4, .agg #[U8 19#8, Z1, U8 2#8, U8 2#8, I64 (BitVec.ofInt 64 (-5))])]) G bls8_161 G ?_)))))
  intro b161 w161 n161
  have E101 := Mt E99 n161.ext
  refine Bl (.agg #[U8 65#8, Z1, Z1, Z1, IN 0]) [(0, U8 65#8)] (WL.buildSlice (vs := [(0, .agg #[U8 65#8, Z1, Z1, Z1, IN 0])]) G bls8_163 G ?_)
  intro b163 w163 n163
  have E103 := Mt E101 n163.ext
  refine Bl (.agg #[U8 63#8, U8 5#8, U8 2#8, Z1, I64 77#64]) [(0, U8 63#8), (1, U8 5#8), (2, U8 2#8), (4, I64 77#64)] (Bl (.agg #[U8 3#8, U8 5#8, Z1, Z1, I64 8#64]) [(0, U8 3#8), (1, U8 5#8), (4, I64 8#64)] (Bl (.agg #[U8 65#8, Z1, Z1, Z1, IN 0]) [(0, U8 65#8)] (Bl (.agg #[U8 5#8, Z1, Z1, Z1, I64 (BitVec.ofInt 64 (-8))]) [(0, U8 5#8), (4, I64 (BitVec.ofInt 64 (-8)))] (WL.buildSlice (vs := [(0, .agg #[U8 63#8, U8 5#8, U8 2#8, Z1, I64 77#64]), (1, .agg #[U8 3#8, U8 5#8, Z1, Z1, I64 8#64]), (2, .agg #[U8 65#8, Z1, Z1, Z1, IN 0]), (3, .agg #[U8 5#8, Z1, Z1, Z1, I64 (BitVec.ofInt 64 (-8))])]) G bls8_168 G ?_))))
  intro b168 w168 n168
  have E105 := Mt E103 n168.ext
  have B106 := (((((((n13.blk.ext n14.ext).ext n148.ext).ext n150.ext).ext n153.ext).ext n155.ext).ext n161.ext).ext n163.ext).ext n168.ext
  refine Se [U8 22#8, U8 17#8, Z1, Z1, I64 1#64] B106 ?_
  have B107 := ((((((n14.blk.ext n148.ext).ext n150.ext).ext n153.ext).ext n155.ext).ext n161.ext).ext n163.ext).ext n168.ext
  refine Se [U8 64#8, Z1, Z1, Z1, IN 0] B107 (Bl (.agg #[U8 22#8, U8 17#8, Z1, Z1, I64 2#64]) [(0, U8 22#8), (1, U8 17#8), (4, I64 2#64)] (Se [U8 64#8, Z1, Z1, Z1, IN 0] B107 (Bl (.agg #[U8 3#8, Z1, Z1, Z1, I64 (BitVec.ofInt 64 (-16))]) [(0, U8 3#8), (4, I64 (BitVec.ofInt 64 (-16)))] (WL.buildSlice (vs := [(0, .agg #[U8 22#8, U8 17#8, Z1, Z1, I64 1#64]), (1, .agg #[U8 64#8, Z1, Z1, Z1, IN 0]), (2, .agg #[U8 22#8, U8 17#8, Z1, Z1, I64 2#64]), (3, .agg #[U8 64#8, Z1, Z1, Z1, IN 0]), (4, .agg #[U8 3#8, Z1, Z1, Z1, I64 (BitVec.ofInt 64 (-16))])]) G bls8_174 G ?_))))
  intro b174 w174 n174
  have E109 := Mt E105 n174.ext
  have B110 := B106.ext n174.ext
  refine Se [U8 22#8, U8 17#8, Z1, Z1, I64 1#64] B110 ?_
  have B111 := B107.ext n174.ext
  refine Se [U8 64#8, Z1, Z1, Z1, IN 0] B111 (Bl (.agg #[U8 22#8, U8 17#8, Z1, Z1, I64 4#64]) [(0, U8 22#8), (1, U8 17#8), (4, I64 4#64)] (Se [U8 64#8, Z1, Z1, Z1, IN 0] B111 (WL.buildSlice (vs := [(0, .agg #[U8 22#8, U8 17#8, Z1, Z1, I64 1#64]), (1, .agg #[U8 64#8, Z1, Z1, Z1, IN 0]), (2, .agg #[U8 22#8, U8 17#8, Z1, Z1, I64 4#64]), (3, .agg #[U8 64#8, Z1, Z1, Z1, IN 0])]) G bls8_179 G ?_)))
  intro b179 w179 n179
  have E113 := Mt E109 n179.ext
  have B114 := B111.ext n179.ext
  refine Se [U8 64#8, Z1, Z1, Z1, IN 0] B114 (WL.buildSlice (vs := [(0, .agg #[U8 64#8, Z1, Z1, Z1, IN 0])]) G bls8_181 G ?_)
  intro b181 w181 n181
  have E116 := Mt E113 n181.ext
  refine Bl (.agg #[U8 22#8, U8 17#8, Z1, Z1, I64 5#64]) [(0, U8 22#8), (1, U8 17#8), (4, I64 5#64)] ?_
  have B117 := B114.ext n181.ext
  refine Se [U8 64#8, Z1, Z1, Z1, IN 0] B117 (WL.buildSlice (vs := [(0, .agg #[U8 22#8, U8 17#8, Z1, Z1, I64 5#64]), (1, .agg #[U8 64#8, Z1, Z1, Z1, IN 0])]) G bls8_184 G ?_)
  intro b184 w184 n184
  have E119 := Mt E116 n184.ext
  refine Bl (.agg #[U8 1#8, U8 5#8, Z1, Z1, I64 4194304#64]) [(0, U8 1#8), (1, U8 5#8), (4, I64 4194304#64)] (Bl (.agg #[U8 21#8, Z1, U8 5#8, U8 2#8, I64 8#64]) [(0, U8 21#8), (2, U8 5#8), (3, U8 2#8), (4, I64 8#64)] (Bl (.agg #[U8 17#8, U8 6#8, U8 5#8, Z1, I64 8#64]) [(0, U8 17#8), (1, U8 6#8), (2, U8 5#8), (4, I64 8#64)] (Bl (.agg #[U8 20#8, Z1, U8 5#8, U8 2#8, I64 12#64]) [(0, U8 20#8), (2, U8 5#8), (3, U8 2#8), (4, I64 12#64)] (Bl (.agg #[U8 21#8, Z1, U8 5#8, U8 2#8, I64 16#64]) [(0, U8 21#8), (2, U8 5#8), (3, U8 2#8), (4, I64 16#64)] (WL.buildSlice (vs := [(0, .agg #[U8 1#8, U8 5#8, Z1, Z1, I64 4194304#64]), (1, .agg #[U8 21#8, Z1, U8 5#8, U8 2#8, I64 8#64]), (2, .agg #[U8 17#8, U8 6#8, U8 5#8, Z1, I64 8#64]), (3, .agg #[U8 20#8, Z1, U8 5#8, U8 2#8, I64 12#64]), (4, .agg #[U8 21#8, Z1, U8 5#8, U8 2#8, I64 16#64])]) G bls8_190 G ?_)))))
  intro b190 w190 n190
  have E121 := Mt E119 n190.ext
  refine Bl (.agg #[U8 2#8, U8 5#8, Z1, Z1, IN 0]) [(0, U8 2#8), (1, U8 5#8)] (Bl (.agg #[U8 14#8, U8 6#8, U8 5#8, Z1, IN 0]) [(0, U8 14#8), (1, U8 6#8), (2, U8 5#8)] (WL.buildSlice (vs := [(0, .agg #[U8 2#8, U8 5#8, Z1, Z1, IN 0]), (1, .agg #[U8 14#8, U8 6#8, U8 5#8, Z1, IN 0])]) G bls8_193 G ?_))
  intro b193 w193 n193
  have E123 := Mt E121 n193.ext
  refine Bl (.agg #[U8 3#8, U8 1#8, Z1, Z1, I64 2#64]) [(0, U8 3#8), (1, U8 1#8), (4, I64 2#64)] (WL.buildSlice (vs := [(0, .agg #[U8 3#8, U8 1#8, Z1, Z1, I64 2#64])]) G bls8_195 G ?_)
  intro b195 w195 n195
  have E125 := Mt E123 n195.ext
  refine Bl (.agg #[U8 1#8, U8 5#8, Z1, Z1, I64 8323072#64]) [(0, U8 1#8), (1, U8 5#8), (4, I64 8323072#64)] (Bl (.agg #[U8 21#8, Z1, U8 5#8, U8 5#8, IN 0]) [(0, U8 21#8), (2, U8 5#8), (3, U8 5#8)] (Bl (.agg #[U8 21#8, Z1, U8 5#8, U8 5#8, I64 (BitVec.ofInt 64 (-8))]) [(0, U8 21#8), (2, U8 5#8), (3, U8 5#8), (4, I64 (BitVec.ofInt 64 (-8)))] (WL.buildSlice (vs := [(0, .agg #[U8 1#8, U8 5#8, Z1, Z1, I64 8323072#64]), (1, .agg #[U8 21#8, Z1, U8 5#8, U8 5#8, IN 0]), (2, .agg #[U8 21#8, Z1, U8 5#8, U8 5#8, I64 (BitVec.ofInt 64 (-8))])]) G bls8_199 G ?_)))
  intro b199 w199 n199
  have E127 := Mt E125 n199.ext
  refine WL.buildSlice (vs := [(0, Sv b148 0 0), (1, Sv b150 1 1), (2, Sv b153 2 2), (3, Sv b155 1 1), (4, Sv b161 5 5), (5, Sv b163 1 1), (6, Sv b168 4 4), (7, Sv b174 5 5), (8, Sv b179 4 4), (9, Sv b181 1 1), (10, Sv b184 2 2), (11, Sv b190 5 5), (12, Sv b193 2 2), (13, Sv b195 1 1), (14, Sv b199 3 3)]) G (bls8_200 b148 b150 b153 b155 b161 b163 b168 b174 b179 b181 b184 b190 b193 b195 b199) G ?_
  intro b200 w200 n200
  have E129 := Mt E127 n200.ext
  refine Ae (Sv b200 15 15) (Ni ?_)
  have B130 := ((((((((((((((n148.blk.ext n150.ext).ext n153.ext).ext n155.ext).ext n161.ext).ext n163.ext).ext n168.ext).ext n174.ext).ext n179.ext).ext n181.ext).ext n184.ext).ext n190.ext).ext n193.ext).ext n195.ext).ext n199.ext).ext n200.ext
  have B131 := (((((((((((((n150.blk.ext n153.ext).ext n155.ext).ext n161.ext).ext n163.ext).ext n168.ext).ext n174.ext).ext n179.ext).ext n181.ext).ext n184.ext).ext n190.ext).ext n193.ext).ext n195.ext).ext n199.ext).ext n200.ext
  have B132 := ((((((((((((n153.blk.ext n155.ext).ext n161.ext).ext n163.ext).ext n168.ext).ext n174.ext).ext n179.ext).ext n181.ext).ext n184.ext).ext n190.ext).ext n193.ext).ext n195.ext).ext n199.ext).ext n200.ext
  have B133 := (((((((((((n155.blk.ext n161.ext).ext n163.ext).ext n168.ext).ext n174.ext).ext n179.ext).ext n181.ext).ext n184.ext).ext n190.ext).ext n193.ext).ext n195.ext).ext n199.ext).ext n200.ext
  have B134 := ((((((((((n161.blk.ext n163.ext).ext n168.ext).ext n174.ext).ext n179.ext).ext n181.ext).ext n184.ext).ext n190.ext).ext n193.ext).ext n195.ext).ext n199.ext).ext n200.ext
  have B135 := (((((((((n163.blk.ext n168.ext).ext n174.ext).ext n179.ext).ext n181.ext).ext n184.ext).ext n190.ext).ext n193.ext).ext n195.ext).ext n199.ext).ext n200.ext
  have B136 := ((((((((n168.blk.ext n174.ext).ext n179.ext).ext n181.ext).ext n184.ext).ext n190.ext).ext n193.ext).ext n195.ext).ext n199.ext).ext n200.ext
  have B137 := (((((((n174.blk.ext n179.ext).ext n181.ext).ext n184.ext).ext n190.ext).ext n193.ext).ext n195.ext).ext n199.ext).ext n200.ext
  have B138 := ((((((n179.blk.ext n181.ext).ext n184.ext).ext n190.ext).ext n193.ext).ext n195.ext).ext n199.ext).ext n200.ext
  have B139 := (((((n181.blk.ext n184.ext).ext n190.ext).ext n193.ext).ext n195.ext).ext n199.ext).ext n200.ext
  have B140 := ((((n184.blk.ext n190.ext).ext n193.ext).ext n195.ext).ext n199.ext).ext n200.ext
  have B141 := (((n190.blk.ext n193.ext).ext n195.ext).ext n199.ext).ext n200.ext
  have B142 := ((n193.blk.ext n195.ext).ext n199.ext).ext n200.ext
  have B143 := (n195.blk.ext n199.ext).ext n200.ext
  have B144 := n199.blk.ext n200.ext
  have hKR0 : KRows w200 b200 := ⟨[Sv b148 0 0, Sv b150 1 1, Sv b153 2 2, Sv b155 1 1, Sv b161 5 5, Sv b163 1 1, Sv b168 4 4, Sv b174 5 5, Sv b179 4 4, Sv b181 1 1, Sv b184 2 2, Sv b190 5 5, Sv b193 2 2, Sv b195 1 1, Sv b199 3 3], n200.blk, rfl, all15 (Go.Proofs.M.Sl.ofCells (n := 0) B130.cells rfl) (Go.Proofs.M.Sl.ofCells (n := 1) B131.cells rfl) (Go.Proofs.M.Sl.ofCells (n := 2) B132.cells rfl) (Go.Proofs.M.Sl.ofCells (n := 1) B133.cells rfl) (Go.Proofs.M.Sl.ofCells (n := 5) B134.cells rfl) (Go.Proofs.M.Sl.ofCells (n := 1) B135.cells rfl) (Go.Proofs.M.Sl.ofCells (n := 4) B136.cells rfl) (Go.Proofs.M.Sl.ofCells (n := 5) B137.cells rfl) (Go.Proofs.M.Sl.ofCells (n := 4) B138.cells rfl) (Go.Proofs.M.Sl.ofCells (n := 1) B139.cells rfl) (Go.Proofs.M.Sl.ofCells (n := 2) B140.cells rfl) (Go.Proofs.M.Sl.ofCells (n := 5) B141.cells rfl) (Go.Proofs.M.Sl.ofCells (n := 2) B142.cells rfl) (Go.Proofs.M.Sl.ofCells (n := 1) B143.cells rfl) (Go.Proofs.M.Sl.ofCells (n := 3) B144.cells rfl)⟩
  refine Sq (Sr (Ae (IN 0) (Ni (Bk ?_))))
  refine WC.loop (fun k f w_ => ∃ i, (k + i = 15) ∧ f 4 = .bool true ∧ f 15 = Sv b200 15 15 ∧ f 16 = IN i ∧ (Ext w w_) ∧ (KRows w_ b200)) 15 ?_ ?_
  ·exact ⟨0, by omega, h4_1, G, G, E129, hKR0⟩
  rintro ke f2 we ⟨i, hki2, h4_2, h15_2, h16_2, hE, hR⟩
  refine Sq (Sr (Mv (IN i) h16_2 (Mv (Sv b200 15 15) h15_2 (WL.lenS el76 G G (Bn G G BinR.lss (Ni ?_))))))
  refine WC.cond G (fun hc204 => ?_) (fun hc204 => ?_)
  ·have hi2 : i < 15 := by have := of_decide_eq_true hc204; omega
   refine WC.skip (Sq (Bk (Sr (Mv (Sv b200 15 15) h15_2 (Mv (IN i) h16_2 (WL.indexAddr (i := i) (b := b200) (o := 0) el76 sz49 (Eq.trans G G) G (by omega) G ?_))))))
   obtain ⟨rv210, hrc210, hrs210⟩ := hR.row hi2
   refine Lx G hrc210 ?_
   have hlen := known_len hi2
   refine Ca (code_spec _ (knownRow i) _ (hG.ext hE) hrs210 (by omega)) ?_
   rintro v211 w211 ⟨o211, f211, e211⟩
   have R145 : Ext we w211 := e211
   have E146 := Mt hE e211
   refine Ae v211 (Ni (Sq (Sr (Me v211 (WL.lenSl (sz := 1) (m := (codeW (knownRow i)).length) (xs := wordCells (codeW (knownRow i))) el23 G o211.sl G (Mv (Sv b200 15 15) h15_2 (Mv (IN i) h16_2 (WL.indexAddr (i := i) (b := b200) (o := 0) el76 sz49 (Eq.trans G G) G (by omega) G ?_))))))))
   obtain ⟨rv217, hrc217, hrs217⟩ := (hR.ext R145).row hi2
   refine Lx G hrc217 (WL.lenSl (sz := 5) (m := (knownRow i).length) (xs := instCells (knownRow i)) el49 G hrs217 G (Bf G G BinR.neq ((by rw [hlen.1]; exact bne_self_eq_false _)) (Ni (Cf G (WC.skip (Sq (Sr (Mv (IN i) h16_2 (Bn G G BinR.eql (Ni ?_))))))))))
   refine WC.cut (fun f' w_ => ∃ wb wc ws, f' 4 = .bool true ∧ f' 15 = Sv b200 15 15 ∧ f' 16 = IN i ∧ f' 17 = Sv wb (List.length ws) wc ∧ (List.length (ws : List (BitVec 32)) ≤ 10) ∧ (Sl w_ (Sv wb (List.length ws) wc) 1 (List.length ws) (wordCells ws)) ∧ (KRows w_ b200) ∧ Ext w w_) ?_ ?_
   ·refine WC.cond G (fun hc221 => ?_) (fun hc221 => ?_)
    ·refine Rg (WL.buildSlice (vs := [(0, U32 0#32)]) G bls8_222 G ?_)
     intro b222 w222 n222
     have R147 := Mt R145 n222.ext
     have E148 := Mt E146 n222.ext
     refine Ae (Sv b222 1 1) (Ni ?_)
     exact ⟨G, b222, 1, ([0#32]), h4_2, h15_2, h16_2, G, (by decide), Sl.of1 n222.blk.cells G, (hR.ext R147), E148⟩
    ·refine WC.skip ?_
     have hi0 : i ≠ 0 := by intro h; rw [h] at hc221; exact absurd hc221 (by decide)
     have hi1 := hlen.2.2 hi0
     obtain ⟨g211, c211, hv211, hle211, hcl211⟩ := o211.at (by omega)
     exact ⟨G, g211, c211, ((codeW (knownRow i))), h4_2, h15_2, h16_2, hv211, (by omega), (by subst hv211; exact o211.sl), (hR.ext R145), E146⟩
   rintro fc90221 wcc ⟨wb, wc, ws, hc90221_4, hc90221_15, hc90221_16, hc90221_17, hwl, hws, hRc, hEc⟩
   refine Sr (Mv (Sv wb (List.length ws) wc) hc90221_17 (Ca (whole_spec (some ⟨wb, 0, none⟩) ws.length wc 16 _) ?_))
   rintro _ w224 ⟨p224, rfl, hsy224, e224⟩
   have R149 : Ext wcc w224 := e224
   have E150 := Mt hEc e224
   refine WL.buildSlice (vs := [(0, .int .i64 5), (1, .int .i64 (-6))]) G bls8_225 G ?_
   intro b225 w225 n225
   have R151 := Mt R149 n225.ext
   have E152 := Mt E150 n225.ext
   refine WL.buildSlice (vs := [(0, U64 4194304#64), (1, U64 4194312#64), (2, U64 4194320#64), (3, U64 4194308#64), (4, U64 8323072#64), (5, U64 8388600#64), (6, U64 8388608#64), (7, U64 0#64), (8, U64 18446744073709551608#64), (9, U64 65536#64)]) G bls8_226 G ?_
   intro b226 w226 n226
   have R153 := Mt R151 n226.ext
   have E154 := Mt E152 n226.ext
   have B156 := n225.blk.ext n226.ext
   have hI155 : Sl w226 (Sv b225 2 2) 1 2 (List.map I64 [5#64, BitVec.ofInt 64 (-6)]) := by rw [known_in]; exact Go.Proofs.M.Sl.ofCells (n := 2) B156.cells rfl
   have S157 := (hsy224.ext' n225.ext).ext' n226.ext
   have S158 := ((hws.ext' e224).ext' n225.ext).ext' n226.ext
   refine Ca (runs_spec (knownI ws) _ _ (Sv b225 2 2) [5#64, BitVec.ofInt 64 (-6)] 30#8 (Sv b226 10 10) knownLook _ (hG.ext E154) (Mod.cell E154 hX (fun h => h)) S157 S158 (knownI_syms ws) hI155 (.inr ⟨_, _, G⟩) (Go.Proofs.M.Sl.ofCells (n := 10) n226.blk.cells G)) ?_
   rintro _ w227 ⟨rfl, e227⟩
   have R159 := Mt R153 e227
   have E160 := Mt E154 e227
   refine WL.un G G UnR.not (Me (.bool false) (Gr (Mv (Sv wb (List.length ws) wc) hc90221_17 (Gr (Ca (whole_spec (some ⟨wb, 0, none⟩) ws.length wc 16 _) ?_)))))
   rintro _ w231 ⟨p231, rfl, hsy231, e231⟩
   have R161 := Mt R159 e231
   have E162 := Mt E160 e231
   refine Gr (WL.buildSlice (vs := [(0, .int .i64 5), (1, .int .i64 (-6))]) G bls8_232 G ?_)
   intro b232 w232 n232
   have R163 := Mt R161 n232.ext
   have E164 := Mt E162 n232.ext
   refine Gr (WL.buildSlice (vs := [(0, .int .i64 7)]) G bls8_233 G ?_)
   intro b233 w233 n233
   have R165 := Mt R163 n233.ext
   have E166 := Mt E164 n233.ext
   refine Gr ?_
   have B168 := n232.blk.ext n233.ext
   have hI167 : Sl w233 (Sv b232 2 2) 1 2 (List.map I64 [5#64, BitVec.ofInt 64 (-6)]) := by rw [known_in]; exact Go.Proofs.M.Sl.ofCells (n := 2) B168.cells rfl
   have S169 := (hsy231.ext' n232.ext).ext' n233.ext
   have S170 := (((S158.ext' e227).ext' e231).ext' n232.ext).ext' n233.ext
   refine WL.call ca3 rfl rfl (input_spec (knownI ws) _ _ (Sv b232 2 2) [5#64, BitVec.ofInt 64 (-6)] (Sv b233 1 1) [7#64] 30#8 _ (hG.ext E166) (Mod.cell E166 hX (fun h => h)) S169 S170 (knownI_syms ws) hI167 (.inr ⟨_, _, rfl⟩) (show Sl w233 (Sv b233 1 1) 1 1 ([7#64].map I64) from Sl.of1 n233.blk.cells rfl)) ?_
   rintro _ w234 ⟨rfl, e234⟩
   have R171 := Mt R165 e234
   have E172 := Mt E166 e234
   refine Gr (WL.un G G UnR.not (Pf G (Ni (Cf G (WC.skip (Rg (Mv (IN i) hc90221_16 (Bn G G (BinR.succN (by omega)) (Ae (IN (i + 1)) (Ni ?_))))))))))
   exact ⟨ke - 1, by omega, (i + 1), by omega, hc90221_4, hc90221_15, G, E172, (hRc.ext R171)⟩
  ·refine WC.exit (Sr (Mv (.bool true) h4_2 (Me (.bool true) (Gr (Bl (.agg #[IN 0, .slice none 0 0, .slice none 0 0]) [] (Gr (Ca (runs_spec ⟨0, [], []⟩ (.slice none 0 0) (.slice none 0 0) (.slice none 0 0) [] 1#8 (.slice none 0 0) [] _ (hG.ext hE) (Mod.cell hE hX (fun h => h)) (Sl.nil _ _ _) (Sl.nil _ _ _) (fun _ h => by cases h) (Sl.nil _ _ _) (.inl G) (Sl.nil _ _ _)) ?_)))))))
   rintro _ w240 ⟨rfl, e240⟩
   have E174 := Mt hE e240
   refine Pt G (Me (.bool true) (Gr (WL.buildSlice (vs := [(0, U8 0#8), (1, U8 8#8), (2, U8 9#8), (3, U8 127#8), (4, U8 64#8), (5, U8 63#8)]) G bls8_243 G ?_)))
   intro b243 w243 n243
   have E176 := Mt E174 n243.ext
   refine Gr (WL.buildSlice (vs := [(0, U8 3#8), (1, U8 2#8), (2, U8 0#8), (3, U8 1#8), (4, U8 3#8), (5, U8 3#8)]) G bls8_244 G ?_)
   intro b244 w244 n244
   have E178 := Mt E176 n244.ext
   refine Gr (WL.buildSlice (vs := [(0, U32 2147483648#32), (1, U32 77#32), (2, U32 4294967295#32), (3, U32 5#32), (4, U32 6#32), (5, U32 2048#32)]) G bls8_245 G ?_)
   intro b245 w245 n245
   have E180 := Mt E178 n245.ext
   refine Gr ?_
   have B181 := (n243.blk.ext n244.ext).ext n245.ext
   have B182 := n244.blk.ext n245.ext
   refine Ca (keeps_spec _ _ _ [0#8, 8#8, 9#8, 127#8, 64#8, 63#8] [3#8, 2#8, 0#8, 1#8, 3#8, 3#8] [2147483648#32, 77#32, 4294967295#32, 5#32, 6#32, 2048#32] _ (hG.ext E180) (Mod.cell E180 hX (fun h => h)) (Go.Proofs.M.Sl.ofCells (n := 6) B181.cells G) (Go.Proofs.M.Sl.ofCells (n := 6) B182.cells G) (Go.Proofs.M.Sl.ofCells (n := 6) n245.blk.cells G)) ?_
   rintro _ w246 ⟨rfl, e246⟩
   have E184 := Mt E180 e246
   refine Pt G (Me (.bool true) (Gr (Ca (works_spec _ (hG.ext E184) (Mod.cell E184 hX (fun h => h))) ?_)))
   rintro _ wk249 ⟨rfl, ek249⟩
   have E186 := Mt E184 ek249
   refine Pt G (Ae (.bool true) (Ni (WC.ret ?_)))
   exact ⟨_, Ro G G, G, E186⟩
end Go.Proofs.S
end
