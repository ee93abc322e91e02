/- The walking engine, memory: new blocks, calls, slices, append. -/
import Derived.Test.YtljcijdkoncodaaUxArith
namespace Go.Ux
open Go

/-! ### Calls -/
def callable (P : Program) (g : Nat) : Bool :=
  match P.funcs[g]? with
  | some fn => !(fn.name == "runtime.NumGoroutine") && fn.body.isSome
  | none => false
theorem callable_run {P : Program} {g : Nat} (h : callable P g = true) (args : Array Value) (w : World) : (callFunc g args).run P w = .ok (.enter g args) w := by
  unfold callable at h
  cases hf : P.funcs[g]? with
  | none => rw [hf] at h; cases h
  | some fn =>
    rw [hf] at h
    simp only [Bool.and_eq_true, Bool.not_eq_true'] at h
    obtain ⟨h1, h2⟩ := h
    have h3 : ¬ fn.body = none := by intro hb; simp [hb] at h2
    have h1' : ¬ fn.name = "runtime.NumGoroutine" := by simpa using h1
    simp [callFunc, program, Sem.run, hf, h1', h3]

section ops
variable {P : Program} {ops : Array Oper} {l : List Oper} {n : Nat} {f : Fr} {w : World} {Q : Exit → Fr → World → Prop}
variable {d : Nat} {ty : TypeId} {pos : String} {aft : Array Edge}

theorem WL.call {g : Nat} {args : Array Operand} {ats : Array TypeId} {vs : List Value} {S : Value → World → Prop} (hcal : callable P g = true) (ha : args.toList.map (ev f) = vs) (hd : decide (d < n) = true)
    (c : CallsR P g vs.toArray w S) (k : ∀ v w', S v w' → WL P ops l n (upd f d v) w' Q) :
    WL P ops (⟨some d, .call { callee := .value (.func g), args := args, argTypes := ats }, ty, pos, aft, none⟩ :: l) n f w Q := by
  refine WL.enter (g := g) (args := vs.toArray) (S := S) rfl hd ?_ c k
  have hm : args.map (ev f) = vs.toArray := by apply Array.ext'; simp [ha]
  simp [execOp, resolve, ev, Deferred.ofValue, invoke, hm, callable_run hcal]

/-- A call of a function value. -/
theorem WL.callV {g : Nat} {x : Operand} {fs cs : Array Value} {args : Array Operand} {ats : Array TypeId} {vs : List Value} {S : Value → World → Prop} (hx : ev f x = .func (.func g) fs cs) (hcal : callable P g = true) (ha : fs.toList ++ args.toList.map (ev f) ++ cs.toList = vs) (hd : decide (d < n) = true)
    (c : CallsR P g vs.toArray w S) (k : ∀ v w', S v w' → WL P ops l n (upd f d v) w' Q) :
    WL P ops (⟨some d, .call { callee := .value x, args := args, argTypes := ats }, ty, pos, aft, none⟩ :: l) n f w Q := by
  refine WL.enter (g := g) (args := vs.toArray) (S := S) rfl hd ?_ c k
  have hm : fs ++ args.map (ev f) ++ cs = vs.toArray := by apply Array.ext'; simp [← ha]
  simp [execOp, resolve, hx, Deferred.ofValue, invoke, hm, callable_run hcal]

theorem argsL1 {f : Fr} {x1 : Operand} {v1 : Value} (h1 : ev f x1 = v1) : [x1].map (ev f) = [v1] := by simp [h1]
theorem argsL2 {f : Fr} {x1 x2 : Operand} {v1 v2 : Value} (h1 : ev f x1 = v1) (h2 : ev f x2 = v2) : [x1, x2].map (ev f) = [v1, v2] := by simp [h1, h2]
theorem argsL3 {f : Fr} {x1 x2 x3 : Operand} {v1 v2 v3 : Value} (h1 : ev f x1 = v1) (h2 : ev f x2 = v2) (h3 : ev f x3 = v3) : [x1, x2, x3].map (ev f) = [v1, v2, v3] := by simp [h1, h2, h3]
theorem argsL4 {f : Fr} {x1 x2 x3 x4 : Operand} {v1 v2 v3 v4 : Value} (h1 : ev f x1 = v1) (h2 : ev f x2 = v2) (h3 : ev f x3 = v3) (h4 : ev f x4 = v4) : [x1, x2, x3, x4].map (ev f) = [v1, v2, v3, v4] := by simp [h1, h2, h3, h4]
theorem yf_bool {ops : Array Oper} {f : Fr} {j d : Nat} {b b' : Bool} (hd : (ops[j]?).bind (·.dst) = some d) (hf : f d = .bool b) (hb : b = b') : yf ops f j = some b' := by
  unfold yf; rw [hd]; simp only [hf, hb]
theorem BinR.toB {P : Program} {op : BinOp} {t : TypeId} {a b : Value} {c d : Bool} (h : BinR P op t a b (.bool c)) (e : c = d) : BinR P op t a b (.bool d) := e ▸ h
theorem pick_bool (b p q : Bool) : (if b then Value.bool p else Value.bool q) = .bool (bif b then p else q) := by cases b <;> rfl

/-! ### New blocks -/
theorem WL.box {t : Nat} {x : Operand} {v : Value} (hx : ev f x = v) (hd : decide (d < n) = true) (k : ∀ b w', New w w' b v.cells t → WL P ops l n (upd f d (ptr b 0)) w' Q) :
    WL P ops (⟨some d, .box t x, ty, pos, aft, none⟩ :: l) n f w Q := by
  refine WL.val rfl hd (v := ptr w.heap.size 0) (w' := w.alloc (.cells v.cells t)) ?_ (k _ _ (New.mk' w _ _))
  simp [execOp, hx, Instr.box, newVar, newRow, go_sem, Result.andThen]

def zeroT (P : Program) (t : Nat) : Option (Array Value) := (P.info? t).bind fun i => i.zero.map Value.cells
theorem zeroT_run {P : Program} {t : Nat} {cs : Array Value} (h : zeroT P t = some cs) (w : World) : ∃ z : Value, (zeroValue t).run P w = .ok z w ∧ z.cells = cs := by
  unfold zeroT at h
  obtain ⟨i, hi, h⟩ := Option.bind_eq_some_iff.1 h
  obtain ⟨z, hz, rfl⟩ := Option.map_eq_some_iff.1 h
  exact ⟨z, by simp [zeroValue, typeInfo, hi, hz, go_sem], rfl⟩
theorem WL.alloc {t : Nat} {cs : Array Value} (hz : zeroT P t = some cs) (hd : decide (d < n) = true) (k : ∀ b w', New w w' b cs t → WL P ops l n (upd f d (ptr b 0)) w' Q) :
    WL P ops (⟨some d, .alloc t, ty, pos, aft, none⟩ :: l) n f w Q := by
  obtain ⟨z, hr, rfl⟩ := zeroT_run hz w
  refine WL.val rfl hd (v := ptr w.heap.size 0) (w' := w.alloc (.cells z.cells t)) ?_ (k _ _ (New.mk' w _ _))
  simp [execOp, Instr.alloc, hr, newVar, newRow, go_sem, Result.andThen]

/-- Storing a whole value over a whole block. -/
theorem storeCells_all {P : Program} (g : Nat) (t : TypeId) (vs : List Value) (cur : Array Value) (w : World) (hg : Blk w g cur t) (hl : vs.length = cur.size) (h1 : ∀ v ∈ vs, v.oneCell' = true) :
    (storeCells ⟨g, 0, none⟩ vs).run P w = .ok () (w.setRow g vs.toArray) := by
  have h := run_storeCells_at P g 0 t vs 0 cur w hg (by omega) h1
  simpa [List.drop_of_length_le, hl] using h
theorem cells_of_one {v : Value} (h : v.oneCell' = true) : v.cells = #[v] := by cases v <;> simp_all [Value.oneCell', Value.cells]

/-- A local variable with its first value: 'alloc' and 'store' one behind the other. -/
theorem WL.allocStore {t : Nat} {y : Operand} {m : Nat} {z : Array Value} {v : Value} {ty' : TypeId} {pos' : String} {aft' : Array Edge} (hz : zeroT P t = some z) (hzm : z.size = m) (ht : sizeT P t = some m) (hy : ev (upd f d (ptr w.heap.size 0)) y = v)
    (hm : v.cells.size = m) (h1' : v.cells.toList.all (fun u => u.oneCell') = true) (hd : decide (d < n) = true) (k : ∀ b w', New w w' b v.cells t → WL P ops l n (upd f d (ptr b 0)) w' Q) :
    WL P ops (⟨some d, .alloc t, ty, pos, aft, none⟩ :: ⟨none, .store t (.tmp d) y, ty', pos', aft', none⟩ :: l) n f w Q := by
  have h1 : ∀ u ∈ v.cells.toList, u.oneCell' = true := List.all_eq_true.1 h1'
  obtain ⟨z, hr, rfl⟩ := zeroT_run hz w
  refine WL.val rfl hd (v := ptr w.heap.size 0) (w' := w.alloc (.cells z.cells t)) ?_ ?_
  · simp [execOp, Instr.alloc, hr, newVar, newRow, go_sem, Result.andThen]
  · have hb : Blk (w.alloc (.cells z.cells t)) w.heap.size z.cells t := alloc_blk w _ _
    have hst := storeCells_all (P := P) w.heap.size t v.cells.toList z.cells _ hb (by simp; omega) h1
    refine WL.skp rfl rfl (w' := w.alloc (.cells v.cells t)) ?_ (k _ _ (New.mk' w _ _))
    have e : (w.alloc (.cells z.cells t)).setRow w.heap.size v.cells = w.alloc (.cells v.cells t) := by
      simp only [World.setRow, World.alloc]
      congr 1
      apply Array.ext
      · simp
      · intro i h1 h2
        simp only [Array.getElem_modify]
        simp at h1 h2
        by_cases hi : i = w.heap.size
        · subst hi; simp
        · rw [if_neg (by omega), Array.getElem_push_lt (by omega), Array.getElem_push_lt (by omega)]
    simp only [Array.toArray_toList] at hst
    have hx : ev (updO f (some d) (ptr w.heap.size 0)) (.tmp d) = ptr w.heap.size 0 := by simp [ev, updO, upd]
    have hy' : ev (updO f (some d) (ptr w.heap.size 0)) y = v := hy
    simp only [execOp, hx, hy', Instr.storeAt, Instr.sureAddr, storeVar, Sem.run_bind, Sem.run_pure, Result.andThen, sizeT_run ht, hm]
    simp [hst, e]

/-- A whole value stored into a whole block. -/
theorem WL.storeS {t t' : Nat} {x y : Operand} {b m : Nat} {v : Value} {cs : Array Value} (hx : ev f x = ptr b 0) (hy : ev f y = v) (hb : Blk w b cs t') (hcs : cs.size = m) (ht : sizeT P t = some m) (hm : v.cells.size = m) (h1' : v.cells.toList.all (fun u => u.oneCell') = true)
    (k : ∀ w', Mod (· = b) w w' → Blk w' b v.cells t' → w'.heap.size = w.heap.size → WL P ops l n f w' Q) :
    WL P ops (⟨none, .store t x y, ty, pos, aft, none⟩ :: l) n f w Q := by
  have hst := storeCells_all (P := P) b t' v.cells.toList cs _ hb (by simp; omega) (List.all_eq_true.1 h1')
  simp only [Array.toArray_toList] at hst
  refine WL.skp rfl rfl (w' := w.setRow b v.cells) ?_ (k _ ⟨rfl, rfl, rfl, by simp [World.setRow], fun i _ hi => setRow_other w b i _ (by simpa using hi)⟩ (setRow_heap w b cs _ t' _ hb) (by simp [World.setRow]))
  simp only [execOp, hx, hy, Instr.storeAt, Instr.sureAddr, storeVar, Sem.run_bind, Sem.run_pure, Result.andThen, sizeT_run ht, hm]
  simp [hst]

/-- One cell of a block of the call's own. -/
theorem WL.storeB {t t' : Nat} {x y : Operand} {b o : Nat} {v : Value} {cs : Array Value} (hx : ev f x = ptr b o) (hy : ev f y = v) (hv : v.oneCell' = true) (hz : sizeT P t = some 1) (hb : Blk w b cs t') (ho : o < cs.size)
    (k : ∀ w', Mod (· = b) w w' → Blk w' b (cs.setIfInBounds o v) t' → w'.heap.size = w.heap.size → WL P ops l n f w' Q) : WL P ops (⟨none, .store t x y, ty, pos, aft, none⟩ :: l) n f w Q :=
  WL.store1 hx hy hv hz (u := cs[o]) (hb.cell (by simp [ho])) (hb.frozen o) (k _ (setCell_mod w b o v) (setCell_blk hb o v) (by simp [World.setCell]))

/-- An operation whose run is known. -/
theorem WL.run {op : Op} {v : Value} (w' : World) (hr : (execOp (ev f) ⟨some d, op, ty, pos, aft, none⟩).run P w = .ok (.value v) w') (hd : decide (d < n) = true) (k : WL P ops l n (upd f d v) w' Q) :
    WL P ops (⟨some d, op, ty, pos, aft, none⟩ :: l) n f w Q := WL.val rfl hd hr k

theorem WL.build {t : Nat} {ps : Array (Nat × Operand)} {vs : List (Nat × Value)} {v : Value} (hp : ps.toList.map (fun p => (p.1, ev f p.2)) = vs) (hr : ∀ w, (Instr.build t vs.toArray).run P w = .ok v w) (hd : decide (d < n) = true) (k : WL P ops l n (upd f d v) w Q) :
    WL P ops (⟨some d, .build t ps, ty, pos, aft, none⟩ :: l) n f w Q := by
  refine WL.val rfl hd (v := v) (w' := w) ?_ k
  have hm : ps.map (fun p => (p.1, ev f p.2)) = vs.toArray := by apply Array.ext'; simp [hp]
  simp only [execOp, hm, Sem.run_bind, hr, Result.andThen, Sem.run_pure]

theorem WL.buildSlice {t m e : Nat} {ps : Array (Nat × Operand)} {vs : List (Nat × Value)} {cs : Array Value} (hp : ps.toList.map (fun p => (p.1, ev f p.2)) = vs)
    (hr : ∀ w, (Instr.buildSlice t m vs.toArray).run P w = .ok (.slice (some ⟨w.heap.size, 0, none⟩) m m) (w.alloc (.cells cs e))) (hd : decide (d < n) = true)
    (k : ∀ b w', New w w' b cs e → WL P ops l n (upd f d (.slice (some ⟨b, 0, none⟩) m m)) w' Q) :
    WL P ops (⟨some d, .buildSlice t m ps, ty, pos, aft, none⟩ :: l) n f w Q := by
  refine WL.val rfl hd (v := .slice (some ⟨w.heap.size, 0, none⟩) m m) (w' := w.alloc (.cells cs e)) ?_ (k _ _ (New.mk' w _ _))
  have hm : ps.map (fun p => (p.1, ev f p.2)) = vs.toArray := by apply Array.ext'; simp [hp]
  simp only [execOp, hm, Sem.run_bind, hr, Result.andThen, Sem.run_pure]

theorem WL.makeFunc {fn : Fn} {fs cs : Array Operand} {vs us : List Value} (h1 : fs.toList.map (ev f) = vs) (h2 : cs.toList.map (ev f) = us) (hd : decide (d < n) = true) (k : WL P ops l n (upd f d (.func fn vs.toArray us.toArray)) w Q) :
    WL P ops (⟨some d, .makeFunc fn fs cs, ty, pos, aft, none⟩ :: l) n f w Q := by
  refine WL.val rfl hd (v := .func fn vs.toArray us.toArray) (w' := w) ?_ k
  have e1 : fs.map (ev f) = vs.toArray := by apply Array.ext'; simp [h1]
  have e2 : cs.map (ev f) = us.toArray := by apply Array.ext'; simp [h2]
  simp [execOp, Instr.makeFunc, e1, e2, go_sem]

theorem Blk.ne {w w' : World} {b c : Nat} {cs cs' : Array Value} {t t' : TypeId} (h : Blk w b cs t) (k : New w w' c cs' t') : b ≠ c := by
  have := h.lt; have := k.num; omega
theorem Mod.own {w w1 w2 w3 : World} {b : Nat} {cs : Array Value} {t : TypeId} {wb : World} (h : Ext w w1) (k : New w1 wb b cs t) (h2 : Ext w w2) (m : Mod (· = b) w2 w3) : Ext w w3 :=
  h2.then m fun i hi e => by have := h.size; have := k.num; omega

/-! ### Lengths and places -/
theorem WL.lenS {t e : Nat} {x : Operand} {ao : Option Addr} {m c : Nat} (ht : elemT P t = some e) (hx : ev f x = .slice ao m c) (hd : decide (d < n) = true) (k : WL P ops l n (upd f d (IN m)) w Q) :
    WL P ops (⟨some d, .call { callee := .builtin .len, args := #[x], argTypes := #[t] }, ty, pos, aft, none⟩ :: l) n f w Q := by
  refine WL.val rfl hd (v := IN m) (w' := w) ?_ k
  unfold elemT at ht
  split at ht <;> try cases ht
  rename_i hu
  simp [execOp, resolve, invoke, builtin, hx, Builtin.len_, run_underlying hu, goInt, Result.andThen]
theorem WL.lenStr {t : Nat} {x : Operand} {s : ByteArray} (ht : P.underlying t = some .string) (hx : ev f x = .string s) (hd : decide (d < n) = true) (k : WL P ops l n (upd f d (IN s.size)) w Q) :
    WL P ops (⟨some d, .call { callee := .builtin .len, args := #[x], argTypes := #[t] }, ty, pos, aft, none⟩ :: l) n f w Q := by
  refine WL.val rfl hd (v := IN s.size) (w' := w) ?_ k
  simp [execOp, resolve, invoke, builtin, hx, Builtin.len_, run_underlying ht, goInt, Result.andThen]

theorem WL.indexAddr {t e sz : Nat} {x y : Operand} {b o m c i : Nat} {kd : IntKind} (ht : elemT P t = some e) (hz : sizeT P e = some sz) (hx : ev f x = .slice (some ⟨b, o, none⟩) m c) (hy : ev f y = .int kd (i : Int)) (hi : i < m) (hd : decide (d < n) = true)
    (k : WL P ops l n (upd f d (ptr b (o + i * sz))) w Q) : WL P ops (⟨some d, .indexAddr t x y, ty, pos, aft, none⟩ :: l) n f w Q := by
  refine WL.val rfl hd (v := ptr b (o + i * sz)) (w' := w) ?_ k
  unfold elemT at ht
  split at ht <;> try cases ht
  rename_i hu
  simp [execOp, hx, hy, Instr.indexAt, asIntOf, run_underlying hu, sizeT_run hz, hi, addr_add, Result.andThen]
theorem WL.indexAddr1 {t e : Nat} {x y : Operand} {b o m c i : Nat} {kd : IntKind} (ht : elemT P t = some e) (hz : sizeT P e = some 1) (hx : ev f x = .slice (some ⟨b, o, none⟩) m c) (hy : ev f y = .int kd (i : Int)) (hi : i < m) (hd : decide (d < n) = true)
    (k : WL P ops l n (upd f d (ptr b (o + i))) w Q) : WL P ops (⟨some d, .indexAddr t x y, ty, pos, aft, none⟩ :: l) n f w Q :=
  WL.indexAddr ht hz hx hy hi hd (by rw [Nat.mul_one]; exact k)
def arrT (P : Program) (t : Nat) : Option (Nat × Nat) :=
  match P.underlying t with
  | some (.array m e) => some (m, e)
  | _ => none
theorem WL.indexArr {t e sz m : Nat} {x y : Operand} {b o i : Nat} {kd : IntKind} (ht : arrT P t = some (m, e)) (hz : sizeT P e = some sz) (hx : ev f x = ptr b o) (hy : ev f y = .int kd (i : Int)) (hi : i < m) (hd : decide (d < n) = true)
    (k : WL P ops l n (upd f d (ptr b (o + i * sz))) w Q) : WL P ops (⟨some d, .indexAddr t x y, ty, pos, aft, none⟩ :: l) n f w Q := by
  refine WL.val rfl hd (v := ptr b (o + i * sz)) (w' := w) ?_ k
  unfold arrT at ht
  split at ht <;> try cases ht
  rename_i hu
  simp [execOp, hx, hy, Instr.indexAt, asIntOf, run_underlying hu, Instr.sureAddr, sizeT_run hz, hi, addr_add, Result.andThen]

theorem WL.indexArr1 {t e m : Nat} {x y : Operand} {b o i : Nat} {kd : IntKind} (ht : arrT P t = some (m, e)) (hz : sizeT P e = some 1) (hx : ev f x = ptr b o) (hy : ev f y = .int kd (i : Int)) (hi : i < m) (hd : decide (d < n) = true)
    (k : WL P ops l n (upd f d (ptr b (o + i))) w Q) : WL P ops (⟨some d, .indexAddr t x y, ty, pos, aft, none⟩ :: l) n f w Q :=
  WL.indexArr ht hz hx hy hi hd (by rw [Nat.mul_one]; exact k)

end ops
end Go.Ux
