/- The walking engine, its operations: one lemma for each kind of operation. -/
import Derived.Test.YtljcijdkoncodaaUxCore
namespace Go.Ux
open Go

abbrev ptr (b o : Nat) : Value := .pointer (some ⟨b, o, none⟩)

/-! ### Worlds -/

/-- Of the blocks that were there, those outside O are as they were. -/
structure Mod (O : Nat → Prop) (w w' : World) : Prop where
  os : w'.os = w.os
  tape : w'.tape = w.tape
  output : w'.output = w.output
  size : w.heap.size ≤ w'.heap.size
  block : ∀ k, k < w.heap.size → ¬ O k → w'.heap[k]? = w.heap[k]?

abbrev Ext (w w' : World) : Prop := Mod (fun _ => False) w w'

theorem Mod.refl (O : Nat → Prop) (w : World) : Mod O w w := ⟨rfl, rfl, rfl, Nat.le_refl _, fun _ _ _ => rfl⟩
theorem Mod.trans {O : Nat → Prop} {a b c : World} (h : Mod O a b) (k : Mod O b c) : Mod O a c :=
  ⟨k.os.trans h.os, k.tape.trans h.tape, k.output.trans h.output, Nat.le_trans h.size k.size,
    fun i hi hO => (k.block i (Nat.lt_of_lt_of_le hi h.size) hO).trans (h.block i hi hO)⟩
theorem Mod.imp {O O' : Nat → Prop} {a b : World} (h : Mod O a b) (k : ∀ i, i < a.heap.size → O i → O' i) : Mod O' a b :=
  ⟨h.os, h.tape, h.output, h.size, fun i hi hO => h.block i hi fun x => hO (k i hi x)⟩
/-- Two steps, of which the second turns only blocks that are new to the first world, or such as may be turned. -/
theorem Mod.then {O O' : Nat → Prop} {a b c : World} (h : Mod O a b) (k : Mod O' b c) (hO : ∀ i, i < a.heap.size → O' i → O i) : Mod O a c :=
  ⟨k.os.trans h.os, k.tape.trans h.tape, k.output.trans h.output, Nat.le_trans h.size k.size,
    fun i hi hn => (k.block i (Nat.lt_of_lt_of_le hi h.size) fun x => hn (hO i hi x)).trans (h.block i hi hn)⟩
theorem Mod.ext {O : Nat → Prop} {a b : World} (h : Ext a b) : Mod O a b := h.imp fun _ _ h => h.elim
theorem Mod.drew (O : Nat → Prop) (w : World) : Mod O w { w with drawn := w.drawn + 1 } := ⟨rfl, rfl, rfl, Nat.le_refl _, fun _ _ _ => rfl⟩

theorem Mod.cell {O : Nat → Prop} {w w' : World} (h : Mod O w w') {a : Addr} {v : Value} (hc : w.cell? a = some v) (hO : ¬ O a.block) : w'.cell? a = some v :=
  (World.cell?_of_block (h.block a.block (World.block_lt_of_cell? w a hc) hO)).trans hc
theorem Mod.below {w w' : World} (h : Ext w w') : RowKit.Below w.heap.size w w' := ⟨h.os, h.tape, h.output, h.size, fun k hk => h.block k hk (fun x => x)⟩

/-- Block b is a row of these cells, all of which may be written. -/
def Blk (w : World) (b : Nat) (cs : Array Value) (t : TypeId) : Prop := w.heap[b]? = some (.cells cs t (0, 0))

theorem Blk.lt {w : World} {b : Nat} {cs : Array Value} {t : TypeId} (h : Blk w b cs t) : b < w.heap.size := (Array.getElem?_eq_some_iff.1 h).1
theorem Blk.mod {O : Nat → Prop} {w w' : World} {b : Nat} {cs : Array Value} {t : TypeId} (h : Blk w b cs t) (m : Mod O w w') (hO : ¬ O b) : Blk w' b cs t :=
  (m.block b h.lt hO).trans h
theorem Blk.ext {w w' : World} {b : Nat} {cs : Array Value} {t : TypeId} (h : Blk w b cs t) (m : Ext w w') : Blk w' b cs t := h.mod m fun x => x
theorem Blk.cell {w : World} {b : Nat} {cs : Array Value} {t : TypeId} (h : Blk w b cs t) {j : Nat} {v : Value} (hv : cs[j]? = some v) : w.cell? ⟨b, j, none⟩ = some v := by
  unfold Blk at h; simp [World.cell?, h, hv]
theorem Blk.frozen {w : World} {b : Nat} {cs : Array Value} {t : TypeId} (h : Blk w b cs t) (j : Nat) : w.frozen? ⟨b, j, none⟩ = false := by
  unfold Blk at h; simp [World.frozen?, h]

theorem alloc_ext (w : World) (o : Obj) : Ext w (w.alloc o) :=
  ⟨rfl, rfl, rfl, by simp, fun k hk _ => RowKit.Below.heap_alloc w o k hk⟩
theorem alloc_blk (w : World) (cs : Array Value) (t : TypeId) : Blk (w.alloc (.cells cs t)) w.heap.size cs t := heap_alloc_new w _

/-- A new block. -/
structure New (w w' : World) (b : Nat) (cs : Array Value) (t : TypeId) : Prop where
  ext : Ext w w'
  blk : Blk w' b cs t
  num : b = w.heap.size
  size : w'.heap.size = w.heap.size + 1

theorem New.mk' (w : World) (cs : Array Value) (t : TypeId) : New w (w.alloc (.cells cs t)) w.heap.size cs t :=
  ⟨alloc_ext w _, alloc_blk w cs t, rfl, by simp⟩

theorem setCell_mod (w : World) (b j : Nat) (v : Value) : Mod (· = b) w (w.setCell ⟨b, j, none⟩ v) :=
  ⟨rfl, rfl, rfl, by simp [World.setCell], fun k _ hk => RowKit.Below.heap_setCell w _ v k hk⟩
theorem setCell_blk {w : World} {b : Nat} {cs : Array Value} {t : TypeId} (h : Blk w b cs t) (j : Nat) (v : Value) : Blk (w.setCell ⟨b, j, none⟩ v) b (cs.setIfInBounds j v) t := by
  unfold Blk at *
  simp only [World.setCell, Array.getElem?_modify, if_pos, h, Option.map_some]
  rfl

/-! ### Closed facts on types -/

def isAggT (P : Program) (t : Nat) : Option Bool :=
  match P.underlying t with
  | some (.struct _) | some (.array _ _) => some true
  | some _ => some false
  | none => none
def sizeT (P : Program) (t : Nat) : Option Nat := (P.info? t).map (·.size)
def fieldOff (P : Program) (s k : Nat) : Option Nat :=
  match P.underlying s with
  | some (.struct fs) => match fs[k]? with
    | some f => match P.info? f.type with
      | some i => if i.size = 0 then none else some f.offset
      | none => none
    | none => none
  | _ => none
def elemT (P : Program) (t : Nat) : Option Nat :=
  match P.underlying t with
  | some (.slice e) => some e
  | _ => none

theorem isAggT_run {P : Program} {t : Nat} {b : Bool} (h : isAggT P t = some b) (w : World) : (isAgg t).run P w = .ok b w := by
  unfold isAggT at h
  cases hu : P.underlying t with
  | none => rw [hu] at h; cases h
  | some d =>
    rw [hu] at h
    simp only [isAgg, Sem.run_bind, run_underlying hu, Result.andThen]
    cases d <;> simp_all
theorem sizeT_run {P : Program} {t : Nat} {m : Nat} (h : sizeT P t = some m) (w : World) : (sizeOf t).run P w = .ok m w := by
  unfold sizeT at h
  obtain ⟨i, hi, rfl⟩ := Option.map_eq_some_iff.1 h
  simp [sizeOf, typeInfo, hi, go_sem]

theorem addr_add (b o j : Nat) : (⟨b, o, none⟩ : Addr).add j = ⟨b, o + j, none⟩ := by unfold Addr.add; split <;> simp_all

section ops
variable {P : Program} {ops : Array Oper} {l : List Oper} {n : Nat} {f : Fr} {w : World} {Q : Exit → Fr → World → Prop}
variable {d : Nat} {ty : TypeId} {pos : String} {aft : Array Edge}

theorem WL.move {x : Operand} {v : Value} (hx : ev f x = v) (hd : decide (d < n) = true) (k : WL P ops l n (upd f d v) w Q) :
    WL P ops (⟨some d, .move x, ty, pos, aft, none⟩ :: l) n f w Q :=
  WL.val rfl hd (v := v) (w' := w) (by rw [← hx]; rfl) k
theorem WL.assign {x : Operand} {v : Value} (hx : ev f x = v) (hd : decide (d < n) = true) (k : WL P ops l n (upd f d v) w Q) :
    WL P ops (⟨some d, .assign x, ty, pos, aft, none⟩ :: l) n f w Q :=
  WL.val rfl hd (v := v) (w' := w) (by rw [← hx]; rfl) k
theorem WL.pick {c x y : Operand} {b : Bool} {v : Value} (hc : ev f c = .bool b) (hv : (if b then ev f x else ev f y) = v) (hd : decide (d < n) = true)
    (k : WL P ops l n (upd f d v) w Q) : WL P ops (⟨some d, .pick c x y, ty, pos, aft, none⟩ :: l) n f w Q :=
  WL.val rfl hd (v := v) (w' := w) (by simp [execOp, hc, asBool, hv]) k
theorem WL.extract {x : Operand} {i : Nat} {vs : Array Value} {v : Value} (hx : ev f x = .tuple vs) (hv : vs[i]? = some v) (hd : decide (d < n) = true)
    (k : WL P ops l n (upd f d v) w Q) : WL P ops (⟨some d, .extract x i, ty, pos, aft, none⟩ :: l) n f w Q :=
  WL.val rfl hd (v := v) (w' := w) (by simp [execOp, hx, Instr.extract, hv]) k

/-- What a binary operation makes of two values. -/
def BinR (P : Program) (op : BinOp) (t : TypeId) (vx vy v : Value) : Prop :=
  ∀ (x y : Operand) (w : World), ((do eqGuard op t x y vx vy; binOp op t vx vy : Sem Value)).run P w = .ok v w
theorem WL.bin {op : BinOp} {t u : TypeId} {x y : Operand} {vx vy v : Value} (hx : ev f x = vx) (hy : ev f y = vy) (hd : decide (d < n) = true) (b : BinR P op t vx vy v)
    (k : WL P ops l n (upd f d v) w Q) : WL P ops (⟨some d, .binOp op t x y u, ty, pos, aft, none⟩ :: l) n f w Q :=
  WL.val rfl hd (v := v) (w' := w) (by simp only [execOp, hx, hy]; rw [Sem.run_bind, b x y w]; simp [Result.andThen]) k

def UnR (P : Program) (op : UnOp) (vx v : Value) : Prop := ∀ w : World, (Op.unary op vx).run P w = .ok v w
theorem WL.un {op : UnOp} {t : TypeId} {x : Operand} {vx v : Value} (hx : ev f x = vx) (hd : decide (d < n) = true) (b : UnR P op vx v)
    (k : WL P ops l n (upd f d v) w Q) : WL P ops (⟨some d, .unOp op t x, ty, pos, aft, none⟩ :: l) n f w Q :=
  WL.val rfl hd (v := v) (w' := w) (by simp only [execOp, hx]; rw [Sem.run_bind, b w]; simp [Result.andThen]) k

def ConvR (P : Program) (s t : TypeId) (vx v : Value) : Prop := ∀ w : World, (convert s t vx).run P w = .ok v w
theorem WL.conv {s t : TypeId} {x : Operand} {vx v : Value} (hx : ev f x = vx) (hd : decide (d < n) = true) (b : ConvR P s t vx v)
    (k : WL P ops l n (upd f d v) w Q) : WL P ops (⟨some d, .convert s t x, ty, pos, aft, none⟩ :: l) n f w Q :=
  WL.val rfl hd (v := v) (w' := w) (by simp only [execOp, hx]; rw [Sem.run_bind, b w]; simp [Result.andThen]) k

theorem WL.fieldAddr {s i : Nat} {x : Operand} {b o off : Nat} (hx : ev f x = ptr b o) (hf : fieldOff P s i = some off) (hd : decide (d < n) = true)
    (k : WL P ops l n (upd f d (ptr b (o + off))) w Q) : WL P ops (⟨some d, .fieldAddr s x i, ty, pos, aft, none⟩ :: l) n f w Q := by
  refine WL.val rfl hd (v := ptr b (o + off)) (w' := w) ?_ k
  unfold fieldOff at hf
  split at hf <;> try cases hf
  rename_i fs hu
  split at hf <;> try cases hf
  rename_i fd hfd
  split at hf <;> try cases hf
  rename_i inf hi
  split at hf <;> try cases hf
  rename_i hz
  simp [execOp, hx, Instr.fieldAt, run_underlying hu, hfd, Instr.sureAddr, fieldPlace, sizeOf, typeInfo, hi, hz, addr_add, Result.andThen]

theorem WL.field1 {s i : Nat} {x : Operand} {cs : Array Value} {off : Nat} {v : Value} {fs : Array Field} {fd : Field} (hx : ev f x = .agg cs) (hu : P.underlying s = some (.struct fs)) (hfd : fs[i]? = some fd)
    (ha : isAggT P fd.type = some false) (ho : fd.offset = off) (hv : cs[off]? = some v) (hd : decide (d < n) = true)
    (k : WL P ops l n (upd f d v) w Q) : WL P ops (⟨some d, .field s x i, ty, pos, aft, none⟩ :: l) n f w Q := by
  refine WL.val rfl hd (v := v) (w' := w) ?_ k
  subst ho
  simp [execOp, hx, Instr.field, run_underlying hu, hfd, part, asAgg, isAggT_run ha, hv, Result.andThen]

theorem WL.load1 {t : Nat} {x : Operand} {b o : Nat} {v : Value} (hx : ev f x = ptr b o) (ht : isAggT P t = some false) (hc : w.cell? ⟨b, o, none⟩ = some v) (hd : decide (d < n) = true)
    (k : WL P ops l n (upd f d v) w Q) : WL P ops (⟨some d, .load t x, ty, pos, aft, none⟩ :: l) n f w Q :=
  WL.val rfl hd (v := v) (w' := w) (by simp [execOp, hx, Instr.loadAt, Instr.sureAddr, loadVar, isAggT_run ht, load, Sem.run, hc, Result.andThen]) k

/-- The cells from a place on. -/
def Cells (w : World) (b o : Nat) (vs : List Value) : Prop := ∀ j u, vs[j]? = some u → w.cell? ⟨b, o + j, none⟩ = some u
theorem Blk.cells {w : World} {b : Nat} {cs : Array Value} {t : TypeId} (h : Blk w b cs t) : Cells w b 0 cs.toList := by
  intro j u hj; rw [Nat.zero_add]; exact h.cell (by simpa using hj)
theorem Blk.sub {w : World} {b : Nat} {cs : Array Value} {t : TypeId} (h : Blk w b cs t) {o : Nat} {vs : List Value} (hv : (cs.toList.drop o).take vs.length = vs) : Cells w b o vs := by
  intro j u hj
  refine h.cell ?_
  rw [← hv, List.getElem?_take] at hj
  split at hj
  · rw [List.getElem?_drop] at hj; simpa using hj
  · cases hj
theorem Cells.mod {O : Nat → Prop} {w w' : World} {b o : Nat} {vs : List Value} (h : Cells w b o vs) (m : Mod O w w') (hO : ¬ O b) : Cells w' b o vs :=
  fun j u hj => m.cell (h j u hj) hO

theorem loadVar_agg {t m b o : Nat} {w : World} (vs : List Value) (ht : isAggT P t = some true) (hz : sizeT P t = some m) (hl : vs.length = m) (hc : Cells w b o vs) : (loadVar t ⟨b, o, none⟩).run P w = .ok (.agg vs.toArray) w := by
  have := run_loadCells_list (P := P) w ⟨b, o, none⟩ vs (fun j v hv => by rw [addr_add]; exact hc j v hv)
  simp [loadVar, isAggT_run ht, sizeT_run hz, ← hl, this, Result.andThen]
theorem WL.loadS {t : Nat} {x : Operand} {b o : Nat} (vs : List Value) {m : Nat} (hx : ev f x = ptr b o) (ht : isAggT P t = some true) (hz : sizeT P t = some m) (hl : vs.length = m) (hc : Cells w b o vs) (hd : decide (d < n) = true)
    (k : WL P ops l n (upd f d (.agg vs.toArray)) w Q) : WL P ops (⟨some d, .load t x, ty, pos, aft, none⟩ :: l) n f w Q := by
  refine WL.val rfl hd (v := .agg vs.toArray) (w' := w) ?_ k
  have := run_loadCells_list (P := P) w ⟨b, o, none⟩ vs (fun j v hv => by rw [addr_add]; exact hc j v hv)
  simp [execOp, hx, Instr.loadAt, Instr.sureAddr, loadVar, isAggT_run ht, sizeT_run hz, ← hl, this, Result.andThen]

theorem WL.store1 {t : Nat} {x y : Operand} {b o : Nat} {v u : Value} (hx : ev f x = ptr b o) (hy : ev f y = v) (hv : v.oneCell' = true) (hz : sizeT P t = some 1) (hc : w.cell? ⟨b, o, none⟩ = some u) (hf : w.frozen? ⟨b, o, none⟩ = false)
    (k : WL P ops l n f (w.setCell ⟨b, o, none⟩ v) Q) : WL P ops (⟨none, .store t x y, ty, pos, aft, none⟩ :: l) n f w Q := by
  refine WL.skp rfl rfl (w' := w.setCell ⟨b, o, none⟩ v) ?_ k
  have h1 : v.cells = #[v] := by cases v <;> simp_all [Value.oneCell', Value.cells]
  simp [execOp, hx, hy, Instr.storeAt, Instr.sureAddr, storeVar, sizeT_run hz, h1, storeCells, store, addr_add, Result.andThen]
  cases v <;> simp_all [Value.oneCell', Sem.run, Result.andThen]

end ops
end Go.Ux
