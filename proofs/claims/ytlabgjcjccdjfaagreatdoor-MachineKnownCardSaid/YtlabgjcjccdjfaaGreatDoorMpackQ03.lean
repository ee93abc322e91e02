/- Steps of the proof, packed by program: McState McS2 McS3 McS4 McW2 McW3. -/
import Derived.Laws.MakeOwn
import Derived.Test.YtlabgjcjccdjfaaGreatDoorRows
import Derived.Test.YtlabgjcjccdjfaaGreatDoorMpackQ02
set_option linter.unusedVariables false
set_option linter.unusedSimpArgs false
set_option linter.unnecessarySimpa false
set_option maxRecDepth 100000
section
namespace Go.Ux
open Go
theorem WL.appendNone {P : Program} {ops : Array Oper} {l : List Oper} {n : Nat} {f : Fr} {w : World} {Q : Exit → Fr → World → Prop} {d : Nat} {ty : TypeId} {pos : String} {aft : Array Edge} {t tx e size bytes k cap : Nat} {zs : Array Value} {base : Option Addr} {a x : Operand} {vx : Value} (ha : appT P t = some (e, size, bytes, zs)) (hv : ev f a = .slice base k cap) (hk : k ≤ cap) (hx : ev f x = vx) (hsrc : Src P size tx vx 0 [] w) (hd : decide (d < n) = true)
  (kk : WL P ops l n (upd f d (.slice base k cap)) w Q) : WL P ops (⟨some d, .call { callee := .builtin .append, args := #[a, x], argTypes := #[t, tx] }, ty, pos, aft, none⟩ :: l) n f w Q := by
 unfold appT at ha
 split at ha <;> try cases ha
 rename_i e' ht
 split at ha <;> try cases ha
 rename_i i hi
 split at ha <;> try cases ha
 have hr := run_append_nothing (P := P) w t tx ty _ i ht hi base k cap hk vx hsrc
 refine WL.val G hd (v := .slice base k cap) (w' := w) ?_ kk
 simp only [execOp, resolve, invoke, builtin, Sem.run_bind, Sem.run_pure, Result.andThen_ok, List.map_toArray, List.map_cons, List.map_nil, hv, hx, hr]
theorem madeCells_one (z : Value) (m : Nat) : madeCells #[z] m = Array.replicate m z := by
 apply Array.ext
 ·simp [madeCells]
 ·intro i h1 h2
  simp [madeCells, Nat.mod_one]
theorem WL.makeSliceB {P : Program} {ops : Array Oper} {l : List Oper} {n : Nat} {f : Fr} {w : World} {Q : Exit → Fr → World → Prop} {d : Nat} {ty : TypeId} {pos : String} {aft : Array Edge} {t e bytes m : Nat} {z : Value} {x y : Operand} (ha : appT P t = some (e, 1, bytes, #[z])) (hx : ev f x = IN m) (hy : ev f y = IN m) (hb : bytes * m ≤ 281474976710656) (h63 : m ≤ 9223372036854775807) (hd : decide (d < n) = true)
  (k : ∀ b w', New w w' b (Array.replicate m z) e → WL P ops l n (upd f d (.slice (some ⟨b, 0, none⟩) m m)) w' Q) : WL P ops (⟨some d, .makeSlice t x y, ty, pos, aft, none⟩ :: l) n f w Q := by
 unfold appT at ha
 split at ha <;> try cases ha
 rename_i e' ht
 split at ha <;> try cases ha
 rename_i i hi
 split at ha <;> try cases ha
 rename_i zz hz
 simp only [Option.some.injEq, Prod.mk.injEq] at ha
 obtain ⟨rfl, h1, rfl, h2⟩ := ha
 have hb' : (i.bytes : Int) * (m : Int) ≤ 281474976710656 := by
  have h : ((i.bytes * m : Nat) : Int) ≤ 281474976710656 := by omega
  rwa [Int.natCast_mul] at h
 have hr := run_make (P := P) w t e' i zz ht hi hz .i64 .i64 (m : Int) (m : Int) (by omega) (Int.le_refl _) hb' (by omega)
 rw [h1, h2, Nat.mul_one, Int.toNat_natCast, madeCells_one] at hr
 refine WL.val G hd (v := .slice (some ⟨w.heap.size, 0, none⟩) m m) (w' := w.alloc (.cells (Array.replicate m z) e')) ?_ (k _ _ (New.mk' w _ _))
 simp only [execOp, hx, hy, Sem.run_bind, hr, Result.andThen, Sem.run_pure]
theorem Blk.own {w : World} {b m : Nat} {z : Value} {e : TypeId} (h : Blk w b (Array.replicate m z) e) : Own w 1 (.slice (some ⟨b, 0, none⟩) m m) m (List.replicate m z) := by
 refine ⟨by simp, .inr ⟨b, m, rfl, Nat.le_refl _, ?_, fun j hj => ⟨?_, h.frozen j⟩⟩⟩
 ·have := h.cells
  simpa using this
 ·rw [h.cell (j := j) (v := z) (by rw [Array.getElem?_replicate, if_pos (by omega)])]; rfl
theorem Own.empty (w : World) (size b : Nat) : Own w size (.slice (some ⟨b, 0, none⟩) 0 0) 0 [] := ⟨by simp, .inr ⟨b, 0, rfl, Nat.le_refl _, fun j u h => by simp at h, fun j h => by omega⟩⟩
theorem Own.form {w : World} {size n : Nat} {v : Value} {xs : List Value} (h : Own w size v n xs) : v = .slice none 0 0 ∨ ∃ a c, v = .slice (some a) n c := by
 rcases h.2 with ⟨e, _⟩ | ⟨g, cap, e, _⟩
 ·exact .inl e
 ·exact .inr ⟨_, _, e⟩
theorem equalIn_ptr0 {P : Program} {t : TypeId} (d : Nat) {e : TypeId} (h : P.underlying t = some (.pointer e)) (w : World) : (Op.equalIn (d + 1) t (.pointer none) (.pointer none)).run P w = .ok true w := by
 simp [Op.equalIn, run_underlying h, Result.andThen]
theorem BinR.eqlPP {P : Program} {t : TypeId} {e : TypeId} (h : P.underlying t = some (.pointer e)) : BinR P .eql t (.pointer none) (.pointer none) (.bool true) := fun x y w => by
 have e : (Op.equal t (.pointer none) (.pointer none)).run P w = .ok true w := equalIn_ptr0 9999 h w
 simp only [eqGuard, binOp, Sem.run_bind, Sem.run_pure, Result.andThen]; simp [e]
theorem BinR.neqPP {P : Program} {t : TypeId} {e : TypeId} (h : P.underlying t = some (.pointer e)) : BinR P .neq t (.pointer none) (.pointer none) (.bool false) := fun x y w => by
 have e : (Op.equal t (.pointer none) (.pointer none)).run P w = .ok true w := equalIn_ptr0 9999 h w
 simp only [eqGuard, binOp, Sem.run_bind, Sem.run_pure, Result.andThen]; simp [e]
def notIf (P : Program) (t : Nat) : Bool := match P.underlying t with
 | some (.interface _) => false
 | some _ => true
 | none => false
theorem WL.mkiface {P : Program} {ops : Array Oper} {l : List Oper} {n : Nat} {f : Fr} {w : World} {Q : Exit → Fr → World → Prop} {d : Nat} {ty : TypeId} {pos : String} {aft : Array Edge} {t : Nat} {x : Operand} {v : Value} (hx : ev f x = v) (ht : notIf P t = true) (hd : decide (d < n) = true)
  (k : WL P ops l n (upd f d (.iface t v)) w Q) : WL P ops (⟨some d, .makeInterface t x, ty, pos, aft, none⟩ :: l) n f w Q := by
 refine WL.val G hd (v := .iface t v) (w' := w) ?_ k
 unfold notIf at ht
 cases hu : P.underlying t with
 | none => rw [hu] at ht; cases ht
 | some dd =>
  rw [hu] at ht
  have : (Instr.makeInterface t v).run P w = .ok (.iface t v) w := by
   simp only [Instr.makeInterface, Sem.run_bind, run_underlying hu, Result.andThen]
   cases dd <;> first | rfl | cases ht
  simp only [execOp, hx, Sem.run_bind, this, Result.andThen, Sem.run_pure]
def sliceV (v : Value) (j sz : Nat) : Value := match v with
 | .slice ao m c => .slice (if c = j then ao else ao.map (·.add (j * sz))) (m - j) (c - j)
 | v => v
theorem Sl.from {w : World} {v : Value} {sz m j : Nat} {xs : List Value} (h : Sl w v sz m xs) (hj : j ≤ m) : Sl w (sliceV v j sz) sz (m - j) (xs.drop (j * sz)) ∧ (sliceV v j sz).ownBlock = v.ownBlock := by
 obtain ⟨ao, cap, rfl, hc, hl, h0⟩ := h
 refine ⟨⟨_, _, G, by omega, ?_, ?_⟩, ?_⟩
 ·rw [List.length_drop, hl, Nat.sub_mul]
 ·by_cases hjm : j = m
  ·left; omega
  ·right
   rcases h0 with h0 | ⟨b, o, rfl, hcl⟩
   ·omega
   ·refine ⟨b, o + j * sz, ?_, fun i u hu => ?_⟩
    ·rw [if_neg (by omega)]; simp [addr_add]
    ·rw [List.getElem?_drop] at hu
     have := hcl _ _ hu
     rwa [← Nat.add_assoc] at this
 ·show (Value.slice (if cap = j then ao else ao.map (·.add (j * sz))) (m - j) (cap - j)).ownBlock = _
  by_cases e : cap = j
  ·rw [if_pos e]; cases ao <;> rfl
  ·rw [if_neg e]
   cases ao with
   | none => rfl
   | some a =>
    have : (a.add (j * sz)).block = a.block := by unfold Addr.add; split <;> rfl
    simp only [Option.map_some, Value.ownBlock, this]
theorem WL.sliceFromV {P : Program} {ops : Array Oper} {l : List Oper} {n : Nat} {f : Fr} {w : World} {Q : Exit → Fr → World → Prop} {d : Nat} {ty : TypeId} {pos : String} {aft : Array Edge} {t e sz m j : Nat} {x lo : Operand} {v : Value} {xs : List Value} {kd : IntKind} (ht : elemT P t = some e) (hz : sizeT P e = some sz) (hx : ev f x = v) (hlo : ev f lo = .int kd (j : Int)) (hj : j ≤ m) (h : Sl w v sz m xs) (hd : decide (d < n) = true)
  (k : WL P ops l n (upd f d (sliceV v j sz)) w Q) : WL P ops (⟨some d, .slice t x (some lo) none none, ty, pos, aft, none⟩ :: l) n f w Q := by
 obtain ⟨ao, cap, rfl, hc, hl, h0⟩ := h
 have hu := elemT_und ht
 refine WL.val G hd (v := sliceV (.slice ao m cap) j sz) (w' := w) ?_ k
 have h1 : (0 : Int) ≤ (j : Int) ∧ (j : Int) ≤ (m : Int) := by omega
 simp [sliceV, execOp, hx, hlo, Instr.sliceAt, Instr.slice, run_underlying hu, Instr.sliceBounds, Instr.sliceBound, asIntOf, sizeT_run hz, hj, Result.andThen]
end Go.Ux
namespace Go.Ux.Mach
open Go Go.Ux
structure MS where
 n : Nat
 d : Nat → BitVec 8
 s : Nat → BitVec 8
 code : List (RvInst × Bool)
 input : List (BitVec 64)
 x : Nat → BitVec 64
 pc : BitVec 64
 events : List (BitVec 8 × BitVec 64)
 fin : Option Bool
 steps : BitVec 64
def codeV (l : List (RvInst × Bool)) : List Value := l.flatMap fun p => [U8 p.1.op, U8 p.1.rd, U8 p.1.rs1, U8 p.1.rs2, I64 p.1.imm, .bool p.2]
def evV (l : List (BitVec 8 × BitVec 64)) : List Value := l.flatMap fun p => [U8 p.1, I64 p.2]
theorem codeV_get (l : List (RvInst × Bool)) (i : Nat) (h : i < l.length) (j : Nat) (hj : j < 6) : (codeV l)[i * 6 + j]? = [U8 l[i].1.op, U8 l[i].1.rd, U8 l[i].1.rs1, U8 l[i].1.rs2, I64 l[i].1.imm, .bool l[i].2][j]? := by
 induction l generalizing i with
 | nil => simp at h
 | cons a r ih =>
  cases i with
  | zero =>
   simp only [codeV, List.flatMap_cons, Nat.zero_mul, Nat.zero_add, List.getElem_cons_zero]
   rw [List.getElem?_append_left (by simpa using hj)]
  | succ i =>
   have := ih i (by simpa using h)
   simp only [List.getElem_cons_succ]
   rw [← this]
   simp only [codeV, List.flatMap_cons]
   rw [List.getElem?_append_right (by simp; omega)]
   congr 1
   simp; omega
theorem codeV_cells {w : World} {b o : Nat} {l : List (RvInst × Bool)} (h : Cells w b o (codeV l)) {i : Nat} (hi : i < l.length) : Cells w b (o + i * 6) [U8 l[i].1.op, U8 l[i].1.rd, U8 l[i].1.rs1, U8 l[i].1.rs2, I64 l[i].1.imm, .bool l[i].2] := by
 intro j u hj
 have hj6 : j < 6 := by have := (List.getElem?_eq_some_iff.1 hj).1; simpa using this
 rw [Nat.add_assoc]
 exact h (i * 6 + j) u (by rw [codeV_get l i hi j hj6]; exact hj)
theorem evV_one (l : List (BitVec 8 × BitVec 64)) : ∀ u ∈ evV l, u.oneCell' = true := by
 intro u hu
 simp only [evV, List.mem_flatMap] at hu
 obtain ⟨p, _, hp⟩ := hu
 simp only [List.mem_cons, List.not_mem_nil, or_false] at hp
 rcases hp with rfl | rfl <;> rfl
theorem evV_length (l : List (BitVec 8 × BitVec 64)) : (evV l).length = l.length * 2 := by
 induction l with
 | nil => rfl
 | cons a r ih => simp only [evV, List.flatMap_cons, List.length_append, List.length_cons, List.length_nil] at ih ⊢; omega
theorem evV_snoc (l : List (BitVec 8 × BitVec 64)) (k : BitVec 8) (n : BitVec 64) : evV (l ++ [(k, n)]) = evV l ++ [U8 k, I64 n] := by simp [evV]
def machCells (mv cv iv : Value) (x : Nat → BitVec 64) (pc : BitVec 64) (ev en : Value) (st : BitVec 64) : Array Value := #[mv, cv, iv, U64 (x 0), U64 (x 1), U64 (x 2), U64 (x 3), U64 (x 4), U64 (x 5), U64 (x 6), U64 (x 7), U64 (x 8), U64 (x 9), U64 (x 10), U64 (x 11), U64 (x 12), U64 (x 13), U64 (x 14), U64 (x 15), U64 (x 16), U64 (x 17), U64 (x 18), U64 (x 19), U64 (x 20), U64 (x 21), U64 (x 22), U64 (x 23), U64 (x 24), U64 (x 25), U64 (x 26), U64 (x 27), U64 (x 28), U64 (x 29), U64 (x 30), U64 (x 31), U64 pc, ev, en, I64 st]
def updR (x : Nat → BitVec 64) (i : Nat) (v : BitVec 64) : Nat → BitVec 64 := fun k => if k = i then v else x k
theorem machCells_x (mv cv iv : Value) (x : Nat → BitVec 64) (pc : BitVec 64) (ev en : Value) (st : BitVec 64) {i : Nat} (h : i < 32) : (machCells mv cv iv x pc ev en st)[3 + i]? = some (U64 (x i)) := by
 match i, h with
 | 0, _ => rfl
 | 1, _ => rfl
 | 2, _ => rfl
 | 3, _ => rfl
 | 4, _ => rfl
 | 5, _ => rfl
 | 6, _ => rfl
 | 7, _ => rfl
 | 8, _ => rfl
 | 9, _ => rfl
 | 10, _ => rfl
 | 11, _ => rfl
 | 12, _ => rfl
 | 13, _ => rfl
 | 14, _ => rfl
 | 15, _ => rfl
 | 16, _ => rfl
 | 17, _ => rfl
 | 18, _ => rfl
 | 19, _ => rfl
 | 20, _ => rfl
 | 21, _ => rfl
 | 22, _ => rfl
 | 23, _ => rfl
 | 24, _ => rfl
 | 25, _ => rfl
 | 26, _ => rfl
 | 27, _ => rfl
 | 28, _ => rfl
 | 29, _ => rfl
 | 30, _ => rfl
 | 31, _ => rfl
 | k + 32, h => exact absurd h (by omega)
theorem machCells_set (mv cv iv : Value) (x : Nat → BitVec 64) (pc : BitVec 64) (ev en : Value) (st : BitVec 64) {i : Nat} (h : i < 32) (v : BitVec 64) : (machCells mv cv iv x pc ev en st).setIfInBounds (3 + i) (U64 v) = machCells mv cv iv (updR x i v) pc ev en st := by
 apply Array.ext_getElem?
 intro k
 rw [Array.getElem?_setIfInBounds]
 by_cases e : 3 + i = k
 ·subst e
  rw [if_pos rfl, machCells_x _ _ _ _ _ _ _ _ h, if_pos (by show 3 + i < 39; omega)]
  simp only [updR, if_true]
 ·rw [if_neg e]
  by_cases hk : 3 ≤ k ∧ k < 35
  ·obtain ⟨j, rfl⟩ : ∃ j, k = 3 + j := ⟨k - 3, by omega⟩
   rw [machCells_x _ _ _ _ _ _ _ _ (by omega), machCells_x _ _ _ _ _ _ _ _ (by omega)]
   simp only [updR]; rw [if_neg (by omega)]
  ·by_cases h39 : k < 39
   ·rcases (by omega : k = 0 ∨ k = 1 ∨ k = 2 ∨ k = 35 ∨ k = 36 ∨ k = 37 ∨ k = 38) with rfl | rfl | rfl | rfl | rfl | rfl | rfl <;> rfl
   ·rw [Array.getElem?_eq_none (by show 39 ≤ k; omega), Array.getElem?_eq_none (by show 39 ≤ k; omega)]
def EndV (w : World) (en : Value) : Option Bool → Prop
 | none => en = .nilIface
 | some t => ∃ e, en = .iface 144 (ptr e 0) ∧ Blk w e #[.bool t] 148
theorem EndV.one {w : World} {en : Value} {o : Option Bool} (h : EndV w en o) : en.oneCell' = true := by
 cases o with
 | none => cases h; rfl
 | some t => obtain ⟨e, rfl, _⟩ := h; rfl
structure MT (T : Nat → Nat) (w : World) (b : Nat) (M : MS) (bq : Nat) (sd ss cv iv ev en : Value) : Prop where
 mem : Blk w bq #[U64 4194304#64, sd, U64 8323072#64, ss] 91
 data : Own w 1 sd M.n (bsV M.d M.n)
 stk : Own w 1 ss 65536 (bsV M.s 65536)
 code : Sl w cv 6 M.code.length (codeV M.code)
 input : Sl w iv 1 M.input.length (M.input.map I64)
 evs : Own w 2 ev M.events.length (evV M.events)
 fin : EndV w en M.fin
 tb : T b = 1
 tq : T bq = 2
 td : ∀ g, sd.ownBlock = some g → T g = 3
 ts : ∀ g, ss.ownBlock = some g → T g = 4
 tc : ∀ g, cv.ownBlock = some g → T g = 5
 ti : ∀ g, iv.ownBlock = some g → T g = 6
 te : ∀ g, ev.ownBlock = some g → T g = 7
 tn : ∀ e, en = .iface 144 (ptr e 0) → T e = 8
 lt : ∀ k, T k ≠ 0 → k < w.heap.size ∧ 6 ≤ k
 n_le : M.n ≤ 140737488355328
abbrev Fp (T : Nat → Nat) : Nat → Prop := fun k => T k ≠ 0
theorem EndV.mod {O : Nat → Prop} {w w' : World} {en : Value} {o : Option Bool} (h : EndV w en o) (m : Mod O w w') (hO : ∀ e, en = .iface 144 (ptr e 0) → ¬ O e) : EndV w' en o := by
 cases o with
 | none => exact h
 | some t => obtain ⟨e, rfl, hb⟩ := h; exact ⟨e, rfl, hb.mod m (hO e rfl)⟩
theorem MT.mod {T : Nat → Nat} {w w' : World} {b : Nat} {M : MS} {bq : Nat} {sd ss cv iv ev en : Value} (h : MT T w b M bq sd ss cv iv ev en) {O : Nat → Prop} (m : Mod O w w') (hO : ∀ k, T k ≠ 0 → T k ≠ 1 → ¬ O k) : MT T w' b M bq sd ss cv iv ev en where
 mem := h.mem.mod m (hO _ (by rw [h.tq]; decide) (by rw [h.tq]; decide))
 data := h.data.mod m fun g e => hO _ (by rw [h.td g e]; decide) (by rw [h.td g e]; decide)
 stk := h.stk.mod m fun g e => hO _ (by rw [h.ts g e]; decide) (by rw [h.ts g e]; decide)
 code := h.code.mod' m fun g e => hO _ (by rw [h.tc g e]; decide) (by rw [h.tc g e]; decide)
 input := h.input.mod' m fun g e => hO _ (by rw [h.ti g e]; decide) (by rw [h.ti g e]; decide)
 evs := h.evs.mod m fun g e => hO _ (by rw [h.te g e]; decide) (by rw [h.te g e]; decide)
 fin := h.fin.mod m fun e he => hO _ (by rw [h.tn e he]; decide) (by rw [h.tn e he]; decide)
 tb := h.tb
 tq := h.tq
 td := h.td
 ts := h.ts
 tc := h.tc
 ti := h.ti
 te := h.te
 tn := h.tn
 lt := fun k hk => ⟨Nat.lt_of_lt_of_le (h.lt k hk).1 m.size, (h.lt k hk).2⟩
 n_le := h.n_le
def MR (T : Nat → Nat) (w : World) (b : Nat) (M : MS) : Prop :=
 ∃ bq sd ss cv iv ev en, Blk w b (machCells (.slice (some ⟨bq, 0, none⟩) 2 2) cv iv M.x M.pc ev en M.steps) 85 ∧ MT T w b M bq sd ss cv iv ev en
theorem MR.mod {T : Nat → Nat} {w w' : World} {b : Nat} {M : MS} (h : MR T w b M) {O : Nat → Prop} (m : Mod O w w') (hO : ∀ k, T k ≠ 0 → ¬ O k) : MR T w' b M := by
 obtain ⟨bq, sd, ss, cv, iv, ev, en, hb, ht⟩ := h
 exact ⟨bq, sd, ss, cv, iv, ev, en, hb.mod m (hO _ (by rw [ht.tb]; decide)), ht.mod m fun k h1 _ => hO k h1⟩
theorem MR.ext {T : Nat → Nat} {w w' : World} {b : Nat} {M : MS} (h : MR T w b M) (m : Ext w w') : MR T w' b M := h.mod m fun _ _ x => x
theorem MR.lt {T : Nat → Nat} {w : World} {b : Nat} {M : MS} (h : MR T w b M) : ∀ k, T k ≠ 0 → k < w.heap.size ∧ 6 ≤ k := by
 obtain ⟨bq, sd, ss, cv, iv, ev, en, hb, ht⟩ := h; exact ht.lt
def Turn (T : Nat → Nat) (w : World) (b : Nat) (M : MS) (w' : World) : Prop :=
 ∃ T', MR T' w' b M ∧ Mod (Fp T) w w' ∧ ∀ k, T' k ≠ 0 → T k ≠ 0 ∨ w.heap.size ≤ k
theorem Turn.refl {T : Nat → Nat} {w : World} {b : Nat} {M : MS} (h : MR T w b M) : Turn T w b M w := ⟨T, h, Mod.refl _ _, fun _ h => .inl h⟩
theorem MT.ev {T : Nat → Nat} {w w' : World} {b : Nat} {M : MS} {bq : Nat} {sd ss cv iv ev en ev' : Value} {l : List (BitVec 8 × BitVec 64)} (h : MT T w b M bq sd ss cv iv ev en) {O : Nat → Prop} (m : Mod O w w') (hO : ∀ k, T k ≠ 0 → T k ≠ 1 → T k ≠ 7 → ¬ O k)
  (ho : Own w' 2 ev' l.length (evV l)) (hl : LocV w ev ev') (h0 : 0 < l.length) : MT (fun k => if ev'.ownBlock = some k then 7 else T k) w' b { M with events := l } bq sd ss cv iv ev' en := by
 have ne : ∀ k, T k ≠ 0 → T k ≠ 7 → (if ev'.ownBlock = some k then 7 else T k) = T k := fun k h1 h2 => by
  rw [if_neg]
  intro e
  rcases hl with hl | ⟨g, hl, hg⟩
  ·rw [hl] at e; exact h2 (h.te k e)
  ·rw [hl] at e; cases e; have := (h.lt k h1).1; omega
 refine ⟨?_, ?_, ?_, ?_, ?_, ho, ?_, ?_, ?_, ?_, ?_, ?_, ?_, ?_, ?_, ?_, h.n_le⟩
 ·exact h.mem.mod m (hO _ (by rw [h.tq]; decide) (by rw [h.tq]; decide) (by rw [h.tq]; decide))
 ·exact h.data.mod m fun g e => hO _ (by rw [h.td g e]; decide) (by rw [h.td g e]; decide) (by rw [h.td g e]; decide)
 ·exact h.stk.mod m fun g e => hO _ (by rw [h.ts g e]; decide) (by rw [h.ts g e]; decide) (by rw [h.ts g e]; decide)
 ·exact h.code.mod' m fun g e => hO _ (by rw [h.tc g e]; decide) (by rw [h.tc g e]; decide) (by rw [h.tc g e]; decide)
 ·exact h.input.mod' m fun g e => hO _ (by rw [h.ti g e]; decide) (by rw [h.ti g e]; decide) (by rw [h.ti g e]; decide)
 ·exact h.fin.mod m fun g e => hO _ (by rw [h.tn g e]; decide) (by rw [h.tn g e]; decide) (by rw [h.tn g e]; decide)
 ·show (if _ then _ else _) = 1; rw [ne _ (by rw [h.tb]; decide) (by rw [h.tb]; decide)]; exact h.tb
 ·show (if _ then _ else _) = 2; rw [ne _ (by rw [h.tq]; decide) (by rw [h.tq]; decide)]; exact h.tq
 ·intro g e; show (if _ then _ else _) = 3; rw [ne _ (by rw [h.td g e]; decide) (by rw [h.td g e]; decide)]; exact h.td g e
 ·intro g e; show (if _ then _ else _) = 4; rw [ne _ (by rw [h.ts g e]; decide) (by rw [h.ts g e]; decide)]; exact h.ts g e
 ·intro g e; show (if _ then _ else _) = 5; rw [ne _ (by rw [h.tc g e]; decide) (by rw [h.tc g e]; decide)]; exact h.tc g e
 ·intro g e; show (if _ then _ else _) = 6; rw [ne _ (by rw [h.ti g e]; decide) (by rw [h.ti g e]; decide)]; exact h.ti g e
 ·intro g e; show (if _ then _ else _) = 7; rw [if_pos e]
 ·intro g e; show (if _ then _ else _) = 8; rw [ne _ (by rw [h.tn g e]; decide) (by rw [h.tn g e]; decide)]; exact h.tn g e
 ·intro k hk
  by_cases e : ev'.ownBlock = some k
  ·refine ⟨ho.lt h0 (by decide) e, ?_⟩
   rcases hl with hl | ⟨g, hl, hg⟩
   ·rw [hl] at e; exact (h.lt k (by rw [h.te k e]; decide)).2
   ·rw [hl] at e; cases e; have := h.lt b (by rw [h.tb]; decide); omega
  ·have hk' : T k ≠ 0 := by intro e'; apply hk; show (if _ then _ else _) = 0; rw [if_neg e]; exact e'
   exact ⟨Nat.lt_of_lt_of_le (h.lt k hk').1 m.size, (h.lt k hk').2⟩
theorem turn_ev {T : Nat → Nat} {w w' : World} {b : Nat} {M : MS} {bq : Nat} {sd ss cv iv ev en ev' : Value} {l : List (BitVec 8 × BitVec 64)} (h : MT T w b M bq sd ss cv iv ev en) (m : Mod (fun k => T k = 1 ∨ T k = 7) w w')
  (ho : Own w' 2 ev' l.length (evV l)) (hl : LocV w ev ev') (h0 : 0 < l.length) (hb : Blk w' b (machCells (.slice (some ⟨bq, 0, none⟩) 2 2) cv iv M.x M.pc ev' en M.steps) 85) : Turn T w b { M with events := l } w' := by
 refine ⟨_, ⟨bq, sd, ss, cv, iv, ev', en, hb, h.ev m (fun k _ h1 h7 e => by rcases e with e | e; exact h1 e; exact h7 e) ho hl h0⟩, m.imp (fun k _ e => by show T k ≠ 0; rcases e with e | e <;> (rw [e]; decide)), ?_⟩
 intro k hk
 by_cases e : ev'.ownBlock = some k
 ·rcases hl with hl | ⟨g, hl, hg⟩
  ·rw [hl] at e; exact .inl (by rw [h.te k e]; decide)
  ·rw [hl] at e; cases e; exact .inr hg
 ·exact .inl (by intro e'; apply hk; show (if _ then _ else _) = 0; rw [if_neg e]; exact e')
def storeM (M : MS) (k : Bool) (off size : Nat) (v : BitVec 64) : MS := bif k then { M with d := storeB M.d off v size } else { M with s := storeB M.s off v size }
theorem bsV_zero (m : Nat) : List.replicate m (.int .u8 0) = bsV (fun _ => 0#8) m := by
 apply List.ext_getElem?
 intro k
 by_cases hk : k < m
 ·rw [bsV_get _ hk, List.getElem?_replicate, if_pos hk]; rfl
 ·rw [List.getElem?_replicate, if_neg hk, List.getElem?_eq_none (by rw [bsV_length]; omega)]
theorem codeV_snoc (l : List (RvInst × Bool)) (p : RvInst × Bool) : codeV (l ++ [p]) = codeV l ++ [U8 p.1.op, U8 p.1.rd, U8 p.1.rs1, U8 p.1.rs2, I64 p.1.imm, .bool p.2] := by simp [codeV]
theorem MT.area {T : Nat → Nat} {w w' : World} {b : Nat} {M : MS} {bq : Nat} {sd ss cv iv ev en : Value} (h : MT T w b M bq sd ss cv iv ev en) (k : Bool) {off size : Nat} {v : BitVec 64} (m : Mod (At (bif k then sd else ss)) w w') (ho : Own w' 1 (bif k then sd else ss) (bif k then M.n else 65536) (bsV (storeB (bif k then M.d else M.s) off v size) (bif k then M.n else 65536))) : MT T w' b (storeM M k off size v) bq sd ss cv iv ev en := by
 have av : ∀ g j, T g = j → j ≠ 3 → j ≠ 4 → ¬ At (bif k then sd else ss) g := fun g j e h3 h4 e' => by
  cases k
  ·have := h.ts g e'; omega
  ·have := h.td g e'; omega
 have hd : Own w' 1 sd M.n (bsV (storeM M k off size v).d M.n) := by
  cases k
  ·exact h.data.mod m fun g e e' => by have h1 := h.td g e; have h2 := h.ts g e'; omega
  ·exact ho
 have hs : Own w' 1 ss 65536 (bsV (storeM M k off size v).s 65536) := by
  cases k
  ·exact ho
  ·exact h.stk.mod m fun g e e' => by have h1 := h.ts g e; have h2 := h.td g e'; omega
 have hc : Sl w' cv 6 M.code.length (codeV M.code) := h.code.mod' m fun g e => av g _ (h.tc g e) (by decide) (by decide)
 have hi : Sl w' iv 1 M.input.length (M.input.map I64) := h.input.mod' m fun g e => av g _ (h.ti g e) (by decide) (by decide)
 have he : Own w' 2 ev M.events.length (evV M.events) := h.evs.mod m fun g e => av g _ (h.te g e) (by decide) (by decide)
 have hn : EndV w' en M.fin := h.fin.mod m fun g e => av g _ (h.tn g e) (by decide) (by decide)
 have hm : Blk w' bq #[U64 4194304#64, sd, U64 8323072#64, ss] 91 := h.mem.mod m (av _ _ h.tq (by decide) (by decide))
 have hl : ∀ k, T k ≠ 0 → k < w'.heap.size ∧ 6 ≤ k := fun k hk => ⟨Nat.lt_of_lt_of_le (h.lt k hk).1 m.size, (h.lt k hk).2⟩
 cases k
 ·exact ⟨hm, hd, hs, hc, hi, he, hn, h.tb, h.tq, h.td, h.ts, h.tc, h.ti, h.te, h.tn, hl, h.n_le⟩
 ·exact ⟨hm, hd, hs, hc, hi, he, hn, h.tb, h.tq, h.td, h.ts, h.tc, h.ti, h.te, h.tn, hl, h.n_le⟩
theorem turn_area {T : Nat → Nat} {w w' : World} {b : Nat} {M : MS} {bq : Nat} {sd ss cv iv ev en : Value} (h : MT T w b M bq sd ss cv iv ev en) (hb : Blk w b (machCells (.slice (some ⟨bq, 0, none⟩) 2 2) cv iv M.x M.pc ev en M.steps) 85) (k : Bool) {off size : Nat} {v : BitVec 64} (m : Mod (At (bif k then sd else ss)) w w') (ho : Own w' 1 (bif k then sd else ss) (bif k then M.n else 65536) (bsV (storeB (bif k then M.d else M.s) off v size) (bif k then M.n else 65536))) : Turn T w b (storeM M k off size v) w' := by
 have hav : ¬ At (bif k then sd else ss) b := fun e' => by
  have := h.tb
  cases k
  ·have := h.ts b e'; omega
  ·have := h.td b e'; omega
 refine ⟨T, ⟨bq, sd, ss, cv, iv, ev, en, ?_, h.area k m ho⟩, m.imp fun g _ e => ?_, fun k hk => .inl hk⟩
 ·have := hb.mod m hav
  cases k <;> exact this
 ·show T g ≠ 0
  cases k
  ·rw [h.ts g e]; decide
  ·rw [h.td g e]; decide
def TurnE (T : Nat → Nat) (w : World) (b : Nat) (M : MS) (w' : World) (o : Option Bool) (v : Value) : Prop :=
 ∃ T', MR T' w' b M ∧ Mod (Fp T) w w' ∧ (∀ k, T' k ≠ 0 → T k ≠ 0 ∨ w.heap.size ≤ k) ∧ EndV w' v o ∧ ∀ e, v = .iface 144 (ptr e 0) → w.heap.size ≤ e ∧ T' e = 0
theorem Turn.withEnd {T : Nat → Nat} {w wx w1 w2 : World} {b : Nat} {M : MS} {v : Value} {o : Option Bool} (m : Mod (Fp T) w wx) (h : Turn T wx b M w1) (x : Ext w1 w2) (he : EndV w2 v o) (hf : ∀ e, v = .iface 144 (ptr e 0) → w1.heap.size ≤ e) : TurnE T w b M w2 o v := by
 obtain ⟨T1, h1, m1, h2⟩ := h
 have hs := m.size; have hs1 := m1.size
 refine ⟨T1, h1.ext x, (m.trans m1).trans (Mod.ext x), fun k hk => ?_, he, fun e e' => ?_⟩
 ·rcases h2 k hk with h | h
  ·exact .inl h
  ·exact .inr (by omega)
 ·have := hf e e'
  refine ⟨by omega, ?_⟩
  rcases Nat.eq_zero_or_pos (T1 e) with h | h
  ·exact h
  ·have := (h1.lt e (by omega)).1; omega
theorem EndV.new {w w' : World} {e : Nat} {t : Bool} (h : New w w' e #[.bool t] 148) : EndV w' (.iface 144 (ptr e 0)) (some t) := ⟨e, rfl, h.blk⟩
theorem Turn.of_mod {T : Nat → Nat} {w w' : World} {b : Nat} {M : MS} (h : MR T w' b M) (m : Mod (Fp T) w w') : Turn T w b M w' := ⟨T, h, m, fun _ h => .inl h⟩
theorem MT.self {T : Nat → Nat} {w : World} {b : Nat} {M : MS} {bq : Nat} {sd ss cv iv ev en : Value} (h : MT T w b M bq sd ss cv iv ev en) {iv' : Value} {inp : List (BitVec 64)} (hi : Sl w iv' 1 inp.length (inp.map I64)) (ht : iv'.ownBlock = iv.ownBlock) (x : Nat → BitVec 64) (pc st : BitVec 64) :
  MT T w b { M with input := inp, x := x, pc := pc, steps := st } bq sd ss cv iv' ev en :=
 ⟨h.mem, h.data, h.stk, h.code, hi, h.evs, h.fin, h.tb, h.tq, h.td, h.ts, h.tc, fun g e => h.ti g (ht ▸ e), h.te, h.tn, h.lt, h.n_le⟩
def callsM (M : MS) : MS × Option Bool :=
 if M.x 17 == 1#64 then
  ({ M with input := M.input.tail, x := updR M.x 10 (M.input.headD 0#64), events := M.events ++ [(1#8, M.input.headD 0#64)] }, none)
 else if M.x 17 == 2#64 then ({ M with events := M.events ++ [(2#8, M.x 10)] }, none)
 else if M.x 17 == 3#64 then ({ M with events := M.events ++ [(3#8, M.x 10)] }, some false)
 else if M.x 17 == 4#64 then ({ M with events := M.events ++ [(4#8, M.x 10)] }, some false)
 else (M, some true)
def nextI (M : MS) : Nat := ((M.pc - 65536#64) / 4#64).toNat
def nextM (M : MS) : Option RvInst :=
 if BitVec.ult M.pc 65536#64 then none
 else if ((M.pc - 65536#64) % 4#64 != 0#64) then none
 else if BitVec.ule (BitVec.ofNat 64 M.code.length) ((M.pc - 65536#64) / 4#64) then none
 else match M.code[nextI M]? with
  | some (a, true) => some a
  | _ => none
theorem codeV_at {w : World} {b o : Nat} {l : List (RvInst × Bool)} (h : Cells w b o (codeV l)) {i : Nat} {a : RvInst} {k : Bool} (hi : l[i]? = some (a, k)) : Cells w b (o + i * 6) [U8 a.op, U8 a.rd, U8 a.rs1, U8 a.rs2, I64 a.imm, .bool k] := by
 obtain ⟨hl, e⟩ := List.getElem?_eq_some_iff.1 hi
 have := codeV_cells h hl
 rwa [e] at this
theorem MT.regs {T : Nat → Nat} {w : World} {b : Nat} {M : MS} {bq : Nat} {sd ss cv iv ev en : Value} (h : MT T w b M bq sd ss cv iv ev en) (x : Nat → BitVec 64) (pc st : BitVec 64) : MT T w b { M with x := x, pc := pc, steps := st } bq sd ss cv iv ev en :=
 ⟨h.mem, h.data, h.stk, h.code, h.input, h.evs, h.fin, h.tb, h.tq, h.td, h.ts, h.tc, h.ti, h.te, h.tn, h.lt, h.n_le⟩
theorem MT.other {T : Nat → Nat} {w w' : World} {b : Nat} {M : MS} {bq : Nat} {sd ss cv iv ev en : Value} (h : MT T w b M bq sd ss cv iv ev en) (m : Mod (fun k => T k = 1) w w') : MT T w' b M bq sd ss cv iv ev en := h.mod m fun k _ h1 e => h1 e
theorem Mod.fp {T : Nat → Nat} {w w' : World} (m : Mod (fun k => T k = 1) w w') : Mod (Fp T) w w' := m.imp fun k _ e => by show T k ≠ 0; rw [e]; decide
open Classical in
theorem MT.setEnd {T : Nat → Nat} {w : World} {b : Nat} {M : MS} {bq : Nat} {sd ss cv iv ev en en' : Value} {o : Option Bool} (h : MT T w b M bq sd ss cv iv ev en) (hE : EndV w en' o) (hf : ∀ e, en' = .iface 144 (ptr e 0) → T e = 0 ∧ 6 ≤ e) : MT (fun k => if en' = .iface 144 (ptr k 0) then 8 else T k) w b { M with fin := o } bq sd ss cv iv ev en' := by
 have ne : ∀ k, T k ≠ 0 → (if en' = .iface 144 (ptr k 0) then 8 else T k) = T k := fun k h1 => by
  rw [if_neg]
  intro e
  exact h1 (hf k e).1
 refine ⟨h.mem, h.data, h.stk, h.code, h.input, h.evs, hE, ?_, ?_, ?_, ?_, ?_, ?_, ?_, ?_, ?_, h.n_le⟩
 ·show (if _ then _ else _) = 1; rw [ne _ (by rw [h.tb]; decide)]; exact h.tb
 ·show (if _ then _ else _) = 2; rw [ne _ (by rw [h.tq]; decide)]; exact h.tq
 ·intro g e; show (if _ then _ else _) = 3; rw [ne _ (by rw [h.td g e]; decide)]; exact h.td g e
 ·intro g e; show (if _ then _ else _) = 4; rw [ne _ (by rw [h.ts g e]; decide)]; exact h.ts g e
 ·intro g e; show (if _ then _ else _) = 5; rw [ne _ (by rw [h.tc g e]; decide)]; exact h.tc g e
 ·intro g e; show (if _ then _ else _) = 6; rw [ne _ (by rw [h.ti g e]; decide)]; exact h.ti g e
 ·intro g e; show (if _ then _ else _) = 7; rw [ne _ (by rw [h.te g e]; decide)]; exact h.te g e
 ·intro e he; show (if _ then _ else _) = 8; rw [if_pos he]
 ·intro k hk
  by_cases e : en' = .iface 144 (ptr k 0)
  ·refine ⟨?_, (hf k e).2⟩
   cases o with
   | none => rw [hE] at e; cases e
   | some t => obtain ⟨e2, he2, hb⟩ := hE; rw [e] at he2; cases he2; exact hb.lt
  ·exact h.lt k (by intro e'; apply hk; show (if _ then _ else _) = 0; rw [if_neg e]; exact e')
open Classical in
theorem turn_end {T T1 : Nat → Nat} {w w1 w2 : World} {b : Nat} {M : MS} {bq : Nat} {sd ss cv iv ev en en' : Value} {o : Option Bool} (mw : Mod (Fp T) w w1) (hs : ∀ k, T1 k ≠ 0 → T k ≠ 0 ∨ w.heap.size ≤ k) (h : MT T1 w1 b M bq sd ss cv iv ev en) (m : Mod (fun k => T1 k = 1) w1 w2)
  (hb : Blk w2 b (machCells (.slice (some ⟨bq, 0, none⟩) 2 2) cv iv M.x M.pc ev en' M.steps) 85) (hE : EndV w2 en' o) (hf : ∀ e, en' = .iface 144 (ptr e 0) → w.heap.size ≤ e ∧ T1 e = 0) (h6 : 6 ≤ w.heap.size) : Turn T w b { M with fin := o } w2 := by
 refine ⟨_, ⟨bq, sd, ss, cv, iv, ev, en', hb, (h.other m).setEnd hE (fun e he => ⟨(hf e he).2, by have := (hf e he).1; omega⟩)⟩, mw.then (Mod.fp m) (fun i hi e => ?_), fun k hk => ?_⟩
 ·rcases hs i e with h | h
  ·exact h
  ·omega
 ·by_cases e : en' = .iface 144 (ptr k 0)
  ·exact .inr (hf k e).1
  ·exact hs k (by intro e'; apply hk; show (if _ then _ else _) = 0; rw [if_neg e]; exact e')
theorem Sl.of1 {w : World} {b : Nat} {sz : Nat} {xs : List Value} (h : Cells w b 0 xs) (hl : xs.length = sz) : Sl w (.slice (some ⟨b, 0, none⟩) 1 1) sz 1 xs := ⟨_, 1, rfl, Nat.le_refl _, by rw [hl, Nat.one_mul], .inr ⟨b, 0, rfl, h⟩⟩
end Go.Ux.Mach
end
section
set_option linter.unusedSimpArgs false
set_option linter.unusedVariables false
namespace Go.Proofs.S
open Go Go.Ux Go.Ux.Mach Go.Proofs
open Tryz
theorem fo85_5 : fieldOff prog 85 5 = some 36 := by kernel_rfl
theorem bld96_13 (k : BitVec 8) (n : BitVec 64) : ∀ w : World, (Instr.build 38 #[(0, U8 k), (1, I64 n)]).run prog w = .ok (.agg #[U8 k, I64 n]) w := fun _ => by kernel_rfl
theorem bls96_14 (k : BitVec 8) (n : BitVec 64) : ∀ w : World, (Instr.buildSlice 34 1 #[(0, .agg #[U8 k, I64 n])]).run prog w = .ok (Sv w.heap.size 1 1) (w.alloc (.cells #[U8 k, I64 n] 38)) := fun _ => by kernel_rfl
theorem ap34 : appT prog 34 = some (38, 2, 16, #[Z1, .int .i64 0]) := by kernel_rfl
theorem sz34 : sizeT prog 34 = some 1 := by kernel_rfl
theorem see_spec (T : Nat → Nat) (b : Nat) (M : MS) (k : BitVec 8) (n : BitVec 64) (w : World) (h : MR T w b M) (he : M.events.length < 8796093022208) : CallsR prog 96 #[ptr b 0, U8 k, I64 n] w (fun v w' => v = .tuple #[] ∧ Turn T w b { M with events := M.events ++ [(k, n)] } w') := by
 obtain ⟨bq, sd, ss, cv, iv, ev, en, hb, ht⟩ := h
 refine Co func96 G G ?_
 refine Rg (Me (ptr b 0) (Me (ptr b 0) (WL.nilCheck G G (Fa G fo85_5 (Le (hb.cell (j := 36) G) (Me (U8 k) (Me (I64 n) (WL.build (v := .agg #[U8 k, I64 n]) (vs := [(0, U8 k), (1, I64 n)]) G (bld96_13 k n) G (WL.buildSlice (vs := [(0, .agg #[U8 k, I64 n])]) G (bls96_14 k n) G ?_)))))))))
 intro b14 w14 n14
 have E1 : Mod (fun k => T k = 1 ∨ T k = 7) w w14 := (Mod.ext n14.ext)
 have O2 := ht.evs.ext n14.ext
 refine WL.append (k := M.events.length) (m := 1) (xs := evV M.events) (news := [U8 k, I64 n]) ap34 G G G O2 ((Sl.of1 n14.blk.cells G).src y34 (List.all_eq_true.1 G)) (by omega) (by omega) G ?_
 intro v15 w15 o15 m15 l15
 have F3 : LocV w ev v15 := LocV.trans (LocV.refl _ _) l15 (Mod.size E1)
 have B5 := hb.ext n14.ext
 have N4 : v15.ownBlock ≠ some b := LocV.ne l15 B5.lt (fun e => by have := ht.te b e; rw [ht.tb] at this; cases this)
 have E6 : Mod (fun k => T k = 1 ∨ T k = 7) w w15 := Mt E1 (m15.imp (fun i _ e => .inr (ht.te i e)))
 refine WL.nilCheck G G (Fa G fo85_5 ?_)
 have B7 := B5.mod m15 ((fun e => by have := ht.te b e; rw [ht.tb] at this; cases this))
 refine WL.storeB (v := v15) G G o15.sl.one sz34 B7 (Nat.le_of_ble_eq_true G) ?_
 intro ws8 ms8 bs8 zs8
 have E8 : Mod (fun k => T k = 1 ∨ T k = 7) w ws8 := Mod.trans E6 (ms8.imp (fun i _ e => by subst e; exact .inl ht.tb))
 refine Ni ?_
 have O9 := o15.mod ms8 (fun g hg e => N4 (hg.trans (congrArg some e)))
 have htn := turn_ev (l := M.events ++ [(k, n)]) ht E8 (by rw [evV_snoc]; simpa using O9) F3 (by simp) bs8
 exact ⟨_, Res.zero G, G, htn⟩
end Go.Proofs.S
end
section
set_option linter.unusedSimpArgs false
set_option linter.unusedVariables false
namespace Go.Proofs.S
open Go Go.Ux Go.Ux.Mach Go.Proofs
open Tryz
theorem fo85_0 : fieldOff prog 85 0 = some 0 := by kernel_rfl
theorem nif144 : notIf prog 144 = true := by kernel_rfl
theorem AtR.no {sd ss : Value} {n : Nat} {addr : BitVec 64} {size : Nat} {v : Value} (h : AtR sd ss n addr size v) (e : whereM n addr size = none) : v = .slice none 0 0 := by
 rcases h with ⟨_, rfl⟩ | ⟨i, g, c, c', hi, hw, _⟩
 ·rfl
 ·rw [e] at hw; cases hw
theorem AtR.ok {sd ss : Value} {n : Nat} {addr : BitVec 64} {size : Nat} {v : Value} {k : Bool} {off : Nat} (h : AtR sd ss n addr size v) (e : whereM n addr size = some (k, off)) :
  ∃ g c c', (bif k then sd else ss) = Sv g (bif k then n else 65536) c ∧ v = .slice (some ⟨g, off, none⟩) size c' ∧ off + size ≤ (bif k then n else 65536) := by
 rcases h with ⟨e', _⟩ | ⟨i, g, c, c', hi, hw, hg, rfl, hle⟩
 ·rw [e] at e'; cases e'
 ·rw [e] at hw
  obtain ⟨rfl, rfl⟩ := Prod.mk.inj (Option.some.inj hw)
  rcases (by omega : i = 0 ∨ i = 1) with rfl | rfl
  ·exact ⟨g, c, c', hg, G, hle⟩
  ·exact ⟨g, c, c', hg, G, hle⟩
theorem store_no (T : Nat → Nat) (b : Nat) (M : MS) (addr u : BitVec 64) (size : Nat) (w : World) (h : MR T w b M) (h0 : 0 < size) (h8 : size ≤ 8) (hw : whereM M.n addr size = none) : CallsR prog 69 #[ptr b 0, U64 addr, IN size, U64 u] w (fun v w' => (∃ e, v = .iface 144 (ptr e 0) ∧ Blk w' e #[.bool true] 148 ∧ w.heap.size ≤ e) ∧ Ext w w') := by
 obtain ⟨bq, sd, ss, cv, iv, ev, en, hb, ht⟩ := h
 refine Co func69 G G ?_
 refine Sr (Ae .nilIface (Ni (Sr (Me (ptr b 0) (WL.nilCheck G G (Fa G fo85_0 (Le (hb.cell (j := 0) G) (Me (U64 addr) (Me (IN size) (Ca (at_spec bq sd ss M.n (bsV M.d M.n) (bsV M.s 65536) addr size _ ht.mem ht.data ht.stk ht.n_le h0 h8) ?_))))))))))
 rintro vat wat ⟨hat, eat⟩
 obtain rfl := hat.no hw
 have E1 : Ext w wat := eat
 refine Ae (.slice none 0 0) (Ni (Sq (Sr (Me (.slice none 0 0) (Bn G G (BinR.eqlSlnil y45) (Ni (Ct G (Sr (Bl (.agg #[.bool true]) [(0, .bool true)] (WL.box (v := .agg #[.bool true]) G G ?_))))))))))
 intro b21 w21 n21
 have E2 := Mt E1 n21.ext
 refine WL.mkiface (v := ptr b21 0) G nif144 G (Ae (.iface 144 (ptr b21 0)) (Ni (WC.ret ?_)))
 exact ⟨_, Ro G G, ⟨b21, G, n21.blk, by have := Mod.size E1; have := n21.num; omega⟩, E2⟩
theorem store_ok (T : Nat → Nat) (b : Nat) (M : MS) (addr u : BitVec 64) (size : Nat) (w : World) (h : MR T w b M) (h0 : 0 < size) (h8 : size ≤ 8) (q : Bool) (off : Nat) (hw : whereM M.n addr size = some (q, off)) : CallsR prog 69 #[ptr b 0, U64 addr, IN size, U64 u] w (fun v w' => v = .nilIface ∧ Turn T w b (storeM M q off size u) w') := by
 obtain ⟨bq, sd, ss, cv, iv, ev, en, hb, ht⟩ := h
 refine Co func69 G G ?_
 refine Sr (Ae .nilIface (Ni (Sr (Me (ptr b 0) (WL.nilCheck G G (Fa G fo85_0 (Le (hb.cell (j := 0) G) (Me (U64 addr) (Me (IN size) (Ca (at_spec bq sd ss M.n (bsV M.d M.n) (bsV M.s 65536) addr size _ ht.mem ht.data ht.stk ht.n_le h0 h8) ?_))))))))))
 rintro vat wat ⟨hat, eat⟩
 obtain ⟨g, c, c', hav, rfl, hle⟩ := hat.ok hw
 have hO0 : Own wat 1 (bif q then sd else ss) (bif q then M.n else 65536) (bsV (storeB (bif q then M.d else M.s) off u 0) (bif q then M.n else 65536)) := by cases q; exact ht.stk.ext eat; exact ht.data.ext eat
 have E1 : Mod (At (bif q then sd else ss)) w wat := (Mod.ext eat)
 refine Ae (.slice (some ⟨g, off, none⟩) size c') (Ni (Sq (Sr (Me (.slice (some ⟨g, off, none⟩) size c') (Bn G G (BinR.eqlSl y45) (Ni (Cf G (WC.skip (Sq (Sr (Me (.slice (some ⟨g, off, none⟩) size c') (WL.lenS (m := size) el45 G G (Me (IN 0) (Ni (Bk ?_)))))))))))))))
 refine WC.loop (fun k f w_ => ∃ i, (k + i = size) ∧ f 0 = ptr b 0 ∧ f 1 = U64 addr ∧ f 2 = IN size ∧ f 3 = U64 u ∧ f 8 = .nilIface ∧ f 9 = .slice (some ⟨g, off, none⟩) size c' ∧ f 11 = ptr b 0 ∧ f 12 = ptr b 0 ∧ f 13 = ptr b 0 ∧ f 14 = Sv bq 2 2 ∧ f 15 = U64 addr ∧ f 16 = IN size ∧ f 17 = .slice (some ⟨g, off, none⟩) size c' ∧ f 18 = .slice (some ⟨g, off, none⟩) size c' ∧ f 19 = .bool false ∧ f 23 = .slice (some ⟨g, off, none⟩) size c' ∧ f 24 = IN size ∧ f 25 = IN i ∧ (Mod (At (bif q then sd else ss)) w w_) ∧ (Own w_ 1 (bif q then sd else ss) (bif q then M.n else 65536) (bsV (storeB (bif q then M.d else M.s) off u i) (bif q then M.n else 65536)))) size ?_ ?_
 ·exact ⟨0, by omega, G, G, G, G, G, G, G, G, G, G, G, G, G, G, G, G, G, G, E1, hO0⟩
 rintro ka f1 wr ⟨i, hk, h0_1, h1_1, h2_1, h3_1, h8_1, h9_1, h11_1, h12_1, h13_1, h14_1, h15_1, h16_1, h17_1, h18_1, h19_1, h23_1, h24_1, h25_1, hE, hO⟩
 refine Sr (Bn h25_1 h24_1 BinR.lss (Ni (Sq ?_)))
 refine WC.cond G (fun hc26 => ?_) (fun hc26 => ?_)
 ·have hi : i < size := by have := of_decide_eq_true hc26; omega
  refine WC.skip (Sq (Bk (Sr (Mv (IN i) h25_1 (Ae (IN i) (Ni (Rg (Mv (.slice (some ⟨g, off, none⟩) size c') h9_1 (Me (IN i) (Mv (U64 u) h3_1 (Me (IN i) (Bn G G (BinR.mulN (a := 8) (b := i) (by omega)) (Bn G G BinR.shrU64 (Cv G (ConvR.u64u8 y39 y5) (WL.indexAddr (i := i) (b := g) (o := off) el45 sz5 (Eq.trans G G) G (by omega) G (WL.storeOwn (i := off + i * 1) (u := U8 (((u >>> (8 * i))).setWidth 8)) G G G sz5 hO hav (by omega) ?_))))))))))))))))
  intro ws os ms
  have os2 : Own ws 1 (bif q then sd else ss) (bif q then M.n else 65536) (bsV (storeB (bif q then M.d else M.s) off u (i + 1)) (bif q then M.n else 65536)) := by rw [bsV_set, Nat.mul_one] at os; exact os
  have E2 : Mod (At (bif q then sd else ss)) w ws := Mt hE ms
  refine Ni (Rg (Bn h25_1 G (BinR.succN (by omega)) (Me (IN (i + 1)) (Ni ?_))))
  exact ⟨ka - 1, by omega, (i + 1), by omega, h0_1, h1_1, h2_1, h3_1, h8_1, h9_1, h11_1, h12_1, h13_1, h14_1, h15_1, h16_1, h17_1, h18_1, h19_1, h23_1, h24_1, G, E2, os2⟩
 ·have hi : i = size := by have := of_decide_eq_false hc26; omega
  refine WC.exit (Sr (Ae .nilIface (Ni (WC.ret ?_))))
  have htn : Turn T w b (storeM M q off size u) wr := turn_area ht hb q hE (by rw [← hi]; exact hO)
  exact ⟨_, Ro G G, G, htn⟩
end Go.Proofs.S
end
section
set_option linter.unusedSimpArgs false
set_option linter.unusedVariables false
namespace Go.Proofs.S
open Go Go.Ux Go.Ux.Mach Go.Proofs
open Tryz
theorem fo85_3 : fieldOff prog 85 3 = some 3 := by kernel_rfl
theorem ar68 : arrT prog 68 = some (32, 39) := by kernel_rfl
theorem sz39 : sizeT prog 39 = some 1 := by kernel_rfl
theorem fo85_2 : fieldOff prog 85 2 = some 2 := by kernel_rfl
theorem el26 : elemT prog 26 = some 2 := by kernel_rfl
theorem sz2 : sizeT prog 2 = some 1 := by kernel_rfl
theorem sz26 : sizeT prog 26 = some 1 := by kernel_rfl
theorem calls_2 (T : Nat → Nat) (b : Nat) (M : MS) (w : World) (h : MR T w b M) (he : M.events.length < 8796093022208) (h17_1 : (M.x 17 == 1#64) = false) (h17 : (M.x 17 == 2#64) = true) : CallsR prog 70 #[ptr b 0] w (fun v w' => TurnE T w b (callsM M).1 w' (callsM M).2 v) := by
 obtain ⟨bq, sd, ss, cv, iv, ev, en, hb, ht⟩ := h
 refine Co func70 G G ?_
 refine Sr (Ae .nilIface (Ni (Sr (Me (ptr b 0) (WL.nilCheck G G (Fa G fo85_3 (WL.indexArr (i := 10) ar68 sz39 G G (by omega) G (Le (hb.cell (j := 13) G) (Cv G (ConvR.u64i64 y39 y2) (Ae (I64 (M.x 10)) (Ni (Sq (Sr (Me (ptr b 0) (WL.nilCheck G G (Fa G fo85_3 (WL.indexArr (i := 17) ar68 sz39 G G (by omega) G (Le (hb.cell (j := 20) G) (Ni (Bk ?_))))))))))))))))))))
 refine Sr (Bf (vy := U64 1#64) G G BinR.eqlU64 h17_1 (Ae (.bool false) (Ni (Cf G (Sr (Bt (vy := U64 2#64) G G BinR.eqlU64 h17 (Ae (.bool true) (Ni (Ct G (Sr (Me (ptr b 0) (Me (I64 (M.x 10)) ?_))))))))))))
 have mx : Mod (fun k => T k = 1) w w := Mod.refl _ _
 have hMx : MR T w b M := ⟨bq, sd, ss, cv, iv, ev, en, hb, ht.mod mx (fun k _ h1 e => h1 e)⟩
 refine Ca (see_spec T b M 2#8 (M.x 10) _ hMx he) ?_
 rintro _ ws ⟨rfl, hsee⟩
 refine Ni (Sr (Ae .nilIface (Ni (WC.ret ?_))))
 have htn : TurnE T w b (callsM M).1 ws (callsM M).2 .nilIface := by unfold callsM; simp only [h17_1, h17, Bool.false_eq_true, if_false, if_true]; exact Turn.withEnd (mx.imp (fun k _ e => by show T k ≠ 0; rw [e]; decide)) hsee (Mod.refl _ _) rfl (fun e e' => by cases e')
 exact ⟨_, Ro G G, htn⟩
theorem calls_3 (T : Nat → Nat) (b : Nat) (M : MS) (w : World) (h : MR T w b M) (he : M.events.length < 8796093022208) (h17_1 : (M.x 17 == 1#64) = false) (h17_2 : (M.x 17 == 2#64) = false) (h17 : (M.x 17 == 3#64) = true) : CallsR prog 70 #[ptr b 0] w (fun v w' => TurnE T w b (callsM M).1 w' (callsM M).2 v) := by
 obtain ⟨bq, sd, ss, cv, iv, ev, en, hb, ht⟩ := h
 refine Co func70 G G ?_
 refine Sr (Ae .nilIface (Ni (Sr (Me (ptr b 0) (WL.nilCheck G G (Fa G fo85_3 (WL.indexArr (i := 10) ar68 sz39 G G (by omega) G (Le (hb.cell (j := 13) G) (Cv G (ConvR.u64i64 y39 y2) (Ae (I64 (M.x 10)) (Ni (Sq (Sr (Me (ptr b 0) (WL.nilCheck G G (Fa G fo85_3 (WL.indexArr (i := 17) ar68 sz39 G G (by omega) G (Le (hb.cell (j := 20) G) (Ni (Bk ?_))))))))))))))))))))
 refine Sr (Bf (vy := U64 1#64) G G BinR.eqlU64 h17_1 (Ae (.bool false) (Ni (Cf G (Sr (Bf (vy := U64 2#64) G G BinR.eqlU64 h17_2 (Ae (.bool false) (Ni (Cf G (Sr (Bt (vy := U64 3#64) G G BinR.eqlU64 h17 (Ae (.bool true) (Ni (Ct G (Sr (Me (ptr b 0) (Me (I64 (M.x 10)) ?_)))))))))))))))))
 have mx : Mod (fun k => T k = 1) w w := Mod.refl _ _
 have hMx : MR T w b M := ⟨bq, sd, ss, cv, iv, ev, en, hb, ht.mod mx (fun k _ h1 e => h1 e)⟩
 refine Ca (see_spec T b M 3#8 (M.x 10) _ hMx he) ?_
 rintro _ ws ⟨rfl, hsee⟩
 refine Ni (Sr (Bl (.agg #[.bool false]) [] (WL.box (v := .agg #[.bool false]) G G ?_)))
 intro b58 w58 n58
 have E1 : Ext ws w58 := n58.ext
 refine WL.mkiface (v := ptr b58 0) G nif144 G (Ae (.iface 144 (ptr b58 0)) (Ni (WC.ret ?_)))
 have htn : TurnE T w b (callsM M).1 w58 (callsM M).2 (.iface 144 (ptr b58 0)) := by unfold callsM; simp only [h17_1, h17_2, h17, Bool.false_eq_true, if_false, if_true]; exact Turn.withEnd (mx.imp (fun k _ e => by show T k ≠ 0; rw [e]; decide)) hsee E1 (EndV.new n58) (fun e e' => by cases e'; have := n58.num; omega)
 exact ⟨_, Ro G G, htn⟩
theorem calls_4 (T : Nat → Nat) (b : Nat) (M : MS) (w : World) (h : MR T w b M) (he : M.events.length < 8796093022208) (h17_1 : (M.x 17 == 1#64) = false) (h17_2 : (M.x 17 == 2#64) = false) (h17_3 : (M.x 17 == 3#64) = false) (h17 : (M.x 17 == 4#64) = true) : CallsR prog 70 #[ptr b 0] w (fun v w' => TurnE T w b (callsM M).1 w' (callsM M).2 v) := by
 obtain ⟨bq, sd, ss, cv, iv, ev, en, hb, ht⟩ := h
 refine Co func70 G G ?_
 refine Sr (Ae .nilIface (Ni (Sr (Me (ptr b 0) (WL.nilCheck G G (Fa G fo85_3 (WL.indexArr (i := 10) ar68 sz39 G G (by omega) G (Le (hb.cell (j := 13) G) (Cv G (ConvR.u64i64 y39 y2) (Ae (I64 (M.x 10)) (Ni (Sq (Sr (Me (ptr b 0) (WL.nilCheck G G (Fa G fo85_3 (WL.indexArr (i := 17) ar68 sz39 G G (by omega) G (Le (hb.cell (j := 20) G) (Ni (Bk ?_))))))))))))))))))))
 refine Sr (Bf (vy := U64 1#64) G G BinR.eqlU64 h17_1 (Ae (.bool false) (Ni (Cf G (Sr (Bf (vy := U64 2#64) G G BinR.eqlU64 h17_2 (Ae (.bool false) (Ni (Cf G (Sr (Bf (vy := U64 3#64) G G BinR.eqlU64 h17_3 (Ae (.bool false) (Ni (Cf G (Sr (Bt (vy := U64 4#64) G G BinR.eqlU64 h17 (Ae (.bool true) (Ni (Ct G ?_)))))))))))))))))))
 refine Sr (Me (ptr b 0) (Me (I64 (M.x 10)) ?_))
 have mx : Mod (fun k => T k = 1) w w := Mod.refl _ _
 have hMx : MR T w b M := ⟨bq, sd, ss, cv, iv, ev, en, hb, ht.mod mx (fun k _ h1 e => h1 e)⟩
 refine Ca (see_spec T b M 4#8 (M.x 10) _ hMx he) ?_
 rintro _ ws ⟨rfl, hsee⟩
 refine Ni (Sr (Bl (.agg #[.bool false]) [] (WL.box (v := .agg #[.bool false]) G G ?_)))
 intro b66 w66 n66
 have E1 : Ext ws w66 := n66.ext
 refine WL.mkiface (v := ptr b66 0) G nif144 G (Ae (.iface 144 (ptr b66 0)) (Ni (WC.ret ?_)))
 have htn : TurnE T w b (callsM M).1 w66 (callsM M).2 (.iface 144 (ptr b66 0)) := by unfold callsM; simp only [h17_1, h17_2, h17_3, h17, Bool.false_eq_true, if_false, if_true]; exact Turn.withEnd (mx.imp (fun k _ e => by show T k ≠ 0; rw [e]; decide)) hsee E1 (EndV.new n66) (fun e e' => by cases e'; have := n66.num; omega)
 exact ⟨_, Ro G G, htn⟩
theorem calls_5 (T : Nat → Nat) (b : Nat) (M : MS) (w : World) (h : MR T w b M) (he : M.events.length < 8796093022208) (h17_1 : (M.x 17 == 1#64) = false) (h17_2 : (M.x 17 == 2#64) = false) (h17_3 : (M.x 17 == 3#64) = false) (h17_4 : (M.x 17 == 4#64) = false) : CallsR prog 70 #[ptr b 0] w (fun v w' => TurnE T w b (callsM M).1 w' (callsM M).2 v) := by
 have hMR := h
 obtain ⟨bq, sd, ss, cv, iv, ev, en, hb, ht⟩ := h
 refine Co func70 G G ?_
 refine Sr (Ae .nilIface (Ni (Sr (Me (ptr b 0) (WL.nilCheck G G (Fa G fo85_3 (WL.indexArr (i := 10) ar68 sz39 G G (by omega) G (Le (hb.cell (j := 13) G) (Cv G (ConvR.u64i64 y39 y2) (Ae (I64 (M.x 10)) (Ni (Sq (Sr (Me (ptr b 0) (WL.nilCheck G G (Fa G fo85_3 (WL.indexArr (i := 17) ar68 sz39 G G (by omega) G (Le (hb.cell (j := 20) G) (Ni (Bk ?_))))))))))))))))))))
 refine Sr (Bf (vy := U64 1#64) G G BinR.eqlU64 h17_1 (Ae (.bool false) (Ni (Cf G (Sr (Bf (vy := U64 2#64) G G BinR.eqlU64 h17_2 (Ae (.bool false) (Ni (Cf G (Sr (Bf (vy := U64 3#64) G G BinR.eqlU64 h17_3 (Ae (.bool false) (Ni (Cf G (Sr (Bf (vy := U64 4#64) G G BinR.eqlU64 h17_4 (Ae (.bool false) (Ni (Cf G ?_)))))))))))))))))))
 refine WC.skip (Sr (Bl (.agg #[.bool true]) [(0, .bool true)] (WL.box (v := .agg #[.bool true]) G G ?_)))
 intro b69 w69 n69
 have E1 : Ext w w69 := n69.ext
 refine WL.mkiface (v := ptr b69 0) G nif144 G (Ae (.iface 144 (ptr b69 0)) (Ni (WC.ret ?_)))
 have htn : TurnE T w b (callsM M).1 w69 (callsM M).2 (.iface 144 (ptr b69 0)) := by unfold callsM; simp only [h17_1, h17_2, h17_3, h17_4, Bool.false_eq_true, if_false]; exact Turn.withEnd (Mod.refl _ _) (Turn.refl hMR) E1 (EndV.new n69) (fun e e' => by cases e'; have := n69.num; omega)
 exact ⟨_, Ro G G, htn⟩
theorem calls_1a (T : Nat → Nat) (b : Nat) (M : MS) (w : World) (h : MR T w b M) (he : M.events.length < 8796093022208)  (h17 : (M.x 17 == 1#64) = true) (hin : M.input = []) : CallsR prog 70 #[ptr b 0] w (fun v w' => TurnE T w b (callsM M).1 w' (callsM M).2 v) := by
 obtain ⟨bq, sd, ss, cv, iv, ev, en, hb, ht⟩ := h
 refine Co func70 G G ?_
 refine Sr (Ae .nilIface (Ni (Sr (Me (ptr b 0) (WL.nilCheck G G (Fa G fo85_3 (WL.indexArr (i := 10) ar68 sz39 G G (by omega) G (Le (hb.cell (j := 13) G) (Cv G (ConvR.u64i64 y39 y2) (Ae (I64 (M.x 10)) (Ni (Sq (Sr (Me (ptr b 0) (WL.nilCheck G G (Fa G fo85_3 (WL.indexArr (i := 17) ar68 sz39 G G (by omega) G (Le (hb.cell (j := 20) G) (Ni (Bk ?_))))))))))))))))))))
 refine Sr (Bt (vy := U64 1#64) G G BinR.eqlU64 h17 (Ae (.bool true) (Ni (Ct G (Sr (Ae (I64 0#64) (Ni (Sq (Sr (Me (ptr b 0) (WL.nilCheck G G (Fa G fo85_2 (Le (hb.cell (j := 2) G) (WL.lenSl (sz := 1) (m := M.input.length) (xs := M.input.map I64) el26 G ht.input G (Bn G G BinR.gtr (Ni (Cf (congrArg Value.bool (by rw [hin]; rfl)) (WC.skip (Sr ?_)))))))))))))))))))
 refine Me (ptr b 0) (Me (I64 0#64) (Cv G (ConvR.i64u64 y2 y39) (WL.nilCheck G G (Fa G fo85_3 (WL.indexArr (i := 10) ar68 sz39 G G (by omega) G (WL.storeB (v := U64 0#64) G G G sz39 hb (Nat.le_of_ble_eq_true G) ?_))))))
 intro ws1 ms1 bs1 zs1
 have E1 : Mod (fun k => T k = 1) w ws1 := (ms1.imp (fun i _ e => by subst e; exact ht.tb))
 refine Ni (Sr (Me (ptr b 0) (Me (I64 0#64) ?_)))
 have mx : Mod (fun k => T k = 1) w ws1 := E1
 have hMx : MR T ws1 b { M with input := [], x := updR M.x 10 0#64 } := ⟨bq, sd, ss, cv, iv, ev, en, bs1, (ht.mod mx (fun k _ h1 e => h1 e)).self (by have hi := ht.input.mod' mx (fun g e k => by have := ht.ti g e; omega); rw [hin] at hi; exact hi) rfl (updR M.x 10 0#64) M.pc M.steps⟩
 refine Ca (see_spec T b { M with input := [], x := updR M.x 10 0#64 } 1#8 0#64 _ hMx he) ?_
 rintro _ ws ⟨rfl, hsee⟩
 refine Ni (Sr (Ae .nilIface (Ni (WC.ret ?_))))
 have htn : TurnE T w b (callsM M).1 ws (callsM M).2 .nilIface := by unfold callsM; simp only [h17, if_true, hin, List.headD_cons, List.headD_nil, List.tail_cons, List.tail_nil]; exact Turn.withEnd (mx.imp (fun k _ e => by show T k ≠ 0; rw [e]; decide)) hsee (Mod.refl _ _) rfl (fun e e' => by cases e')
 exact ⟨_, Ro G G, htn⟩
theorem calls_1b (T : Nat → Nat) (b : Nat) (M : MS) (w : World) (h : MR T w b M) (he : M.events.length < 8796093022208)  (h17 : (M.x 17 == 1#64) = true) (n : BitVec 64) (r : List (BitVec 64)) (hin : M.input = n :: r) : CallsR prog 70 #[ptr b 0] w (fun v w' => TurnE T w b (callsM M).1 w' (callsM M).2 v) := by
 obtain ⟨bq, sd, ss, cv, iv, ev, en, hb, ht⟩ := h
 obtain ⟨gi, oi, ci, hiv, hic⟩ := ht.input.at (by rw [hin]; exact Nat.succ_pos _)
 have hcin : w.cell? ⟨gi, oi, none⟩ = some (I64 n) := hic 0 (I64 n) (by rw [hin]; rfl)
 have hgi : ¬ T gi = 1 := by have := ht.ti gi (by rw [hiv]; rfl); omega
 refine Co func70 G G ?_
 refine Sr (Ae .nilIface (Ni (Sr (Me (ptr b 0) (WL.nilCheck G G (Fa G fo85_3 (WL.indexArr (i := 10) ar68 sz39 G G (by omega) G (Le (hb.cell (j := 13) G) (Cv G (ConvR.u64i64 y39 y2) (Ae (I64 (M.x 10)) (Ni (Sq (Sr (Me (ptr b 0) (WL.nilCheck G G (Fa G fo85_3 (WL.indexArr (i := 17) ar68 sz39 G G (by omega) G (Le (hb.cell (j := 20) G) (Ni (Bk ?_))))))))))))))))))))
 refine Sr (Bt (vy := U64 1#64) G G BinR.eqlU64 h17 (Ae (.bool true) (Ni (Ct G (Sr (Ae (I64 0#64) (Ni (Sq (Sr (Me (ptr b 0) (WL.nilCheck G G (Fa G fo85_2 (Le (hb.cell (j := 2) G) (WL.lenSl (sz := 1) (m := M.input.length) (xs := M.input.map I64) el26 G ht.input G (Bn G G BinR.gtr (Ni (Ct (congrArg Value.bool (by rw [hin]; exact decide_eq_true (by simp only [List.length_cons]; omega))) (WC.drawL (fun w_ => Ext w w_) 15 16 G mixed ?_))))))))))))))))))
 intro wd_6 ed_6
 have R1 : Ext w wd_6 := ed_6
 have E2 : Mod (fun k => T k = 1) w wd_6 := (Mod.ext ed_6)
 refine Ti 0 (ptr b 0) G G (Me _ Ok) R1 (Ti 1 (ptr b 0) G G (Me _ Ok) R1 (Ti 2 (ptr b 0) G G (WL.nilCheck G G Ok) R1 (Ti 3 (ptr b 2) G G (Fa G fo85_2 Ok) R1 (Tl 4 iv G G (fun _ hS => Le ((hb.ext hS).cell (j := 2) G) Ok) R1 (Ti 5 (ptr gi (oi + 0 * 1)) G G (WL.indexAddr (i := 0) (b := gi) (o := oi) el26 sz2 (Eq.trans G hiv) G (by rw [hin]; exact Nat.succ_pos _) G Ok) R1 (Tl 6 (I64 n) G G (fun wx hS => have E10 : Mod (fun k => T k = 1) w wx := (Mod.ext hS); Lx G (Mod.cell E10 hcin hgi) Ok) R1 (Ti 7 (ptr b 0) G G (Me _ Ok) R1 (Ti 8 (ptr b 0) G G (WL.nilCheck G G Ok) R1 (Ti 9 (ptr b 2) G G (Fa G fo85_2 Ok) R1 (Tl 10 iv G G (fun _ hS => Le ((hb.ext hS).cell (j := 2) G) Ok) R1 (Tl 11 (sliceV iv 1 1) G G (fun _ hS => WL.sliceFromV (sz := 1) (m := M.input.length) (xs := M.input.map I64) (j := 1) el26 sz2 G G (by rw [hin]; exact Nat.succ_pos _) (ht.input.ext' hS) G Ok) R1 (Ti 12 (I64 n) G G (Ae _ Ok) R1 (WAL.one (i := 13) (m' := 16383) (by kernel_rfl) G G (WL.nilCheck G G (WL.behindS R1 (Ti 14 (ptr b 2) G G (Fa G fo85_2 Ok) R1 (WAL.one (i := 15) (m' := 65535) (by kernel_rfl) G G ?_)))))))))))))))))
 have B20 := hb.ext ed_6
 refine WL.storeB (v := (sliceV iv 1 1)) G G ((ht.input.from (j := 1) (by rw [hin]; exact Nat.succ_pos _)).1).one sz26 B20 (Nat.le_of_ble_eq_true G) ?_
 intro ws21 ms21 bs21 zs21
 have E21 : Mod (fun k => T k = 1) w ws21 := Mod.trans E2 (ms21.imp (fun i _ e => by subst e; exact ht.tb))
 refine WL.behindL (by kernel_rfl) (WAL.done (by kernel_rfl) (Sr (Me (ptr b 0) (Me (I64 n) (Cv G (ConvR.i64u64 y2 y39) (WL.nilCheck G G (Fa G fo85_3 (WL.indexArr (i := 10) ar68 sz39 G G (by omega) G (WL.storeB (v := U64 n) G G G sz39 bs21 (Nat.le_of_ble_eq_true G) ?_)))))))))
 intro ws22 ms22 bs22 zs22
 have E22 : Mod (fun k => T k = 1) w ws22 := Mod.trans E21 (ms22.imp (fun i _ e => by subst e; exact ht.tb))
 refine Ni (Sr (Me (ptr b 0) (Me (I64 n) ?_)))
 have mx : Mod (fun k => T k = 1) w ws22 := E22
 have hMx : MR T ws22 b { M with input := r, x := updR M.x 10 n } := ⟨bq, sd, ss, cv, (sliceV iv 1 1), ev, en, bs22, (ht.mod mx (fun k _ h1 e => h1 e)).self (by have hi := (ht.input.mod' mx (fun g e k => by have := ht.ti g e; omega)).from (j := 1) (by rw [hin]; exact Nat.succ_pos _); rw [hin] at hi; simpa using hi.1) ((ht.input.from (j := 1) (by rw [hin]; exact Nat.succ_pos _)).2) (updR M.x 10 n) M.pc M.steps⟩
 refine Ca (see_spec T b { M with input := r, x := updR M.x 10 n } 1#8 n _ hMx he) ?_
 rintro _ ws ⟨rfl, hsee⟩
 refine Ni (Sr (Ae .nilIface (Ni (WC.ret ?_))))
 have htn : TurnE T w b (callsM M).1 ws (callsM M).2 .nilIface := by unfold callsM; simp only [h17, if_true, hin, List.headD_cons, List.headD_nil, List.tail_cons, List.tail_nil]; exact Turn.withEnd (mx.imp (fun k _ e => by show T k ≠ 0; rw [e]; decide)) hsee (Mod.refl _ _) rfl (fun e e' => by cases e')
 exact ⟨_, Ro G G, htn⟩
theorem calls_spec (T : Nat → Nat) (b : Nat) (M : MS) (w : World) (h : MR T w b M) (he : M.events.length < 8796093022208) : CallsR prog 70 #[ptr b 0] w (fun v w' => TurnE T w b (callsM M).1 w' (callsM M).2 v) := by
 rcases Bool.eq_false_or_eq_true (M.x 17 == 1#64) with h1 | h1
 ·rcases hi : M.input with _ | ⟨n, r⟩
  ·exact calls_1a T b M w h he h1 hi
  ·exact calls_1b T b M w h he h1 n r hi
 rcases Bool.eq_false_or_eq_true (M.x 17 == 2#64) with h2 | h2
 ·exact calls_2 T b M w h he h1 h2
 rcases Bool.eq_false_or_eq_true (M.x 17 == 3#64) with h3 | h3
 ·exact calls_3 T b M w h he h1 h2 h3
 rcases Bool.eq_false_or_eq_true (M.x 17 == 4#64) with h4 | h4
 ·exact calls_4 T b M w h he h1 h2 h3 h4
 ·exact calls_5 T b M w h he h1 h2 h3 h4
end Go.Proofs.S
end
section
set_option linter.unusedSimpArgs false
set_option linter.unusedVariables false
namespace Go.Proofs.M
open Go Go.Ux Go.Ux.Mach Go.Proofs
open Tryz
theorem zt118 : zeroT prog 118 = some #[.bool false, .bool false, .bool false, .slice none 0 0, .int .i64 0, .bool false, .int .u32 0, .string ⟨#[]⟩, .int .u32 0] := by kernel_rfl
theorem bls91_22 (z0 z1 z2 : BitVec 32) : ∀ w : World, (Instr.buildSlice 23 3 #[(0, U32 z0), (1, U32 z1), (2, U32 z2)]).run prog w = .ok (Sv w.heap.size 3 3) (w.alloc (.cells #[U32 z0, U32 z1, U32 z2] 50)) := fun _ => by kernel_rfl
theorem bld91_24 (p q r : Bool) (a : Option Addr) (l c : Nat) (n : Nat) (g : Bool) (m : BitVec 32) (nm : List UInt8) (t : BitVec 32) : ∀ w : World, (Instr.build 118 #[(0, .agg #[.bool p, .bool q, .bool r, .slice a l c, IN n, .bool g, U32 m]), (1, St nm), (2, U32 t)]).run prog w = .ok (.agg #[.bool p, .bool q, .bool r, .slice a l c, IN n, .bool g, U32 m, St nm, U32 t]) w := fun _ => by kernel_rfl
theorem sz118 : sizeT prog 118 = some 9 := by kernel_rfl
theorem ag118 : isAggT prog 118 = some true := by kernel_rfl
theorem tells_spec (w : World) (hG : Glob w) (kf : FK) (iv : Value) (hI : Sl w iv 2 (formOf kf).imm.length (bitsCells (formOf kf).imm)) (nm : List UInt8) (a1 a2 a3 : BitVec 32) : Cx 91 #[.agg #[.bool ((formOf kf).rd), .bool ((formOf kf).rs1), .bool ((formOf kf).rs2), iv, IN ((formOf kf).noughts), .bool ((formOf kf).signed), U32 ((formOf kf).mask)], St nm, U32 a1, U32 a2, U32 a3] w (rowVal iv (tellsD kf nm a1 a2 a3)) := by
 refine Co func91 G G ?_
 refine Sr (WL.box (v := .agg #[.bool ((formOf kf).rd), .bool ((formOf kf).rs1), .bool ((formOf kf).rs2), iv, IN ((formOf kf).noughts), .bool ((formOf kf).signed), U32 ((formOf kf).mask)]) G G ?_)
 intro b5 w5 n5
 have E1 : Ext w w5 := n5.ext
 refine WL.alloc zt118 G ?_
 intro b10 w10 n10
 have E2 := Mt E1 n10.ext
 refine Ni (Sq (WC.draw (fun w_ => Ext w w_ ∧ Blk w_ b5 #[.bool ((formOf kf).rd), .bool ((formOf kf).rs1), .bool ((formOf kf).rs2), iv, IN ((formOf kf).noughts), .bool ((formOf kf).signed), U32 ((formOf kf).mask)] 116) 15 G mixed ?_))
 intro wd_1 ed_1
 have E3 := Mt E2 ed_1
 have B4 := (n5.blk.ext n10.ext).ext ed_1
 refine Tk 0 (.agg #[.bool ((formOf kf).rd), .bool ((formOf kf).rs1), .bool ((formOf kf).rs2), iv, IN ((formOf kf).noughts), .bool ((formOf kf).signed), U32 ((formOf kf).mask)]) G G (fun _ hS => Se _ hS.2 Ok) (⟨E3, B4⟩) (Tm 1 (St nm) G G (⟨E3, B4⟩) (Tm 2 (U32 a1) G G (⟨E3, B4⟩) (Tm 3 (U32 a2) G G (⟨E3, B4⟩) (Tp 4 (ptr 4 0) G G (Fa G fo125_0 Ok) (⟨E3, B4⟩) (Tk 5 (IN 12) G G (fun _ hS => Lx G ((hG.ext hS.1).f3 0 _ G) Ok) (⟨E3, B4⟩) (Tp 6 (U32 ((a2 <<< 12))) G G (Bn G G BinR.shlU32 Ok) (⟨E3, B4⟩) (Tm 7 (U32 a3) G G (⟨E3, B4⟩) (Tp 8 (ptr 5 0) G G (Fa G fo125_0 Ok) (⟨E3, B4⟩) (Tk 9 (IN 25) G G (fun _ hS => Lx G ((hG.ext hS.1).f7 0 _ G) Ok) (⟨E3, B4⟩) (Tp 10 (U32 ((a3 <<< 25))) G G (Bn G G BinR.shlU32 Ok) (⟨E3, B4⟩) (WA.one (i := 11) (m' := 4095) (by kernel_rfl) G G (WL.buildSlice (vs := [(0, U32 a1), (1, U32 ((a2 <<< 12))), (2, U32 ((a3 <<< 25)))]) G (bls91_22 a1 (a2 <<< 12) (a3 <<< 25)) G ?_))))))))))))
 intro b22 w22 n22
 have E5 := Mt E3 n22.ext
 have B6 := B4.ext n22.ext
 refine WL.behind (⟨E5, B6⟩) (WA.one (i := 12) (m' := 8191) (by kernel_rfl) G G (Ca (together_spec (Sv b22 3 3) [a1, a2 <<< 12, a3 <<< 25] _ (Sl.ofCells n22.blk.cells G) (by simp)) ?_))
 rintro _ wd23 ⟨rfl, ed23⟩
 have E7 := Mt E5 ed23
 have B8 := B6.ext ed23
 refine WL.behind (⟨E7, B8⟩) (Tp 13 (.agg #[.bool ((formOf kf).rd), .bool ((formOf kf).rs1), .bool ((formOf kf).rs2), iv, IN ((formOf kf).noughts), .bool ((formOf kf).signed), U32 ((formOf kf).mask), St nm, U32 (tog [a1, a2 <<< 12, a3 <<< 25])]) G G (WL.build (v := .agg #[.bool ((formOf kf).rd), .bool ((formOf kf).rs1), .bool ((formOf kf).rs2), iv, IN ((formOf kf).noughts), .bool ((formOf kf).signed), U32 ((formOf kf).mask), St nm, U32 (tog [a1, a2 <<< 12, a3 <<< 25])]) (vs := [(0, .agg #[.bool ((formOf kf).rd), .bool ((formOf kf).rs1), .bool ((formOf kf).rs2), iv, IN ((formOf kf).noughts), .bool ((formOf kf).signed), U32 ((formOf kf).mask)]), (1, St nm), (2, U32 (tog [a1, a2 <<< 12, a3 <<< 25]))]) G (by obtain ⟨a, l, c, e⟩ := hI.slc; rw [e]; exact bld91_24 _ _ _ a l c _ _ _ _ _) G Ok) (⟨E7, B8⟩) (WA.one (i := 14) (m' := 32767) (by kernel_rfl) G G ?_))
 have B9 := ((n10.blk.ext ed_1).ext n22.ext).ext ed23
 refine WL.storeS (v := .agg #[.bool ((formOf kf).rd), .bool ((formOf kf).rs1), .bool ((formOf kf).rs2), iv, IN ((formOf kf).noughts), .bool ((formOf kf).signed), U32 ((formOf kf).mask), St nm, U32 (tog [a1, a2 <<< 12, a3 <<< 25])]) G G B9 G sz118 G (ones_row hI.one _ _ _ _ _ _ _ _) ?_
 intro ws10 ms10 bs10 zs10
 have E10 : Ext w ws10 := Mod.own E1 n10 E7 ms10
 have B11 := B8.mod ms10 (n5.blk.ne n10)
 refine WL.behind (⟨E10, B11⟩) (WA.done (by kernel_rfl) (WC.ret ?_))
 exact ⟨_, Res.cell G G (loadVar_agg [.bool ((formOf kf).rd), .bool ((formOf kf).rs1), .bool ((formOf kf).rs2), iv, IN ((formOf kf).noughts), .bool ((formOf kf).signed), U32 ((formOf kf).mask), St nm, U32 (tog [a1, a2 <<< 12, a3 <<< 25])] ag118 sz118 G (bs10.sub (o := 0) G)), G, E10⟩
end Go.Proofs.M
end
section
set_option linter.unusedSimpArgs false
set_option linter.unusedVariables false
namespace Go.Proofs.M
open Go Go.Ux Go.Ux.Mach Go.Proofs
def ivT (b12 b15 b18 b22 b28 b31 b37 : Nat) : FK → Value := (fun k => match k with | .I => Sv b12 1 1 | .H => Sv b15 1 1 | .W => Sv b18 1 1 | .S => Sv b22 2 2 | .B => Sv b28 4 4 | .U => Sv b31 1 1 | .J => Sv b37 4 4 | _ => .slice none 0 0)
def tableV (iv : FK → Value) : Value := .agg (tableD.flatMap (rowCells iv)).toArray
theorem ivT_ok {w : World} (b12 b15 b18 b22 b28 b31 b37 : Nat) (h12 : Blk w b12 (bitsCells (formOf .I).imm).toArray 125) (h15 : Blk w b15 (bitsCells (formOf .H).imm).toArray 125) (h18 : Blk w b18 (bitsCells (formOf .W).imm).toArray 125) (h22 : Blk w b22 (bitsCells (formOf .S).imm).toArray 125) (h28 : Blk w b28 (bitsCells (formOf .B).imm).toArray 125) (h31 : Blk w b31 (bitsCells (formOf .U).imm).toArray 125) (h37 : Blk w b37 (bitsCells (formOf .J).imm).toArray 125) : ∀ k, Sl w (ivT b12 b15 b18 b22 b28 b31 b37 k) 2 (formOf k).imm.length (bitsCells (formOf k).imm) := by
 intro k
 cases k <;> first | exact Sl.nil _ _ _ | exact Sl.ofCells h12.cells rfl | exact Sl.ofCells h15.cells rfl | exact Sl.ofCells h18.cells rfl | exact Sl.ofCells h22.cells rfl | exact Sl.ofCells h28.cells rfl | exact Sl.ofCells h31.cells rfl | exact Sl.ofCells h37.cells rfl
theorem ivT_from {B : Nat} (b12 b15 b18 b22 b28 b31 b37 : Nat) (h12 : B ≤ b12) (h15 : B ≤ b15) (h18 : B ≤ b18) (h22 : B ≤ b22) (h28 : B ≤ b28) (h31 : B ≤ b31) (h37 : B ≤ b37) : ∀ k, From B (ivT b12 b15 b18 b22 b28 b31 b37 k) := by
 intro k g hg
 cases k <;> simp only [ivT, Value.ownBlock, Option.some.injEq, reduceCtorEq] at hg <;> omega
end Go.Proofs.M
end
