/- The walking engine: maps from strings to counts; tests of structs of a string and an integer. -/
import Derived.Laws.StructEq
import Derived.MapKept
import Derived.Test.YtljcijdkoncodaaUxStr
namespace Go.Ux
open Go

/-- What a map of counts says of a key. -/
def cnt (l : List (List UInt8 × Nat)) (k : List UInt8) : Nat := match l with
  | [] => 0
  | (a, c) :: r => if a == k then c else cnt r k
def cntSet (l : List (List UInt8 × Nat)) (k : List UInt8) (v : Nat) : List (List UInt8 × Nat) := match l with
  | [] => [(k, v)]
  | (a, c) :: r => if a == k then (a, v) :: r else (a, c) :: cntSet r k v
theorem cnt_set (l : List (List UInt8 × Nat)) (k k' : List UInt8) (v : Nat) : cnt (cntSet l k v) k' = if k == k' then v else cnt l k' := by
  induction l with
  | nil => simp [cntSet, cnt]
  | cons p r ih =>
    obtain ⟨a, c⟩ := p
    simp only [cntSet]
    by_cases h : a = k
    · subst h; simp only [beq_self_eq_true, if_true, cnt]
      by_cases h' : a = k' <;> simp [h']
    · rw [if_neg (by simpa using h)]
      simp only [cnt, ih]
      by_cases h' : a = k'
      · subst h'
        have : ¬ k = a := fun e => h e.symm
        simp [this]
      · simp [h']

/-- Block r is a map that holds these counts. -/
def MapS (w : World) (r : Nat) (l : List (List UInt8 × Nat)) : Prop :=
  ∃ es clock, w.heap[r]? = some (.map es clock) ∧ es.toList.map (fun e => (e.key, e.val)) = l.map fun p => (St p.1, IN p.2)
theorem MapS.lt {w : World} {r : Nat} {l : List (List UInt8 × Nat)} (h : MapS w r l) : r < w.heap.size := by
  obtain ⟨_, _, h, _⟩ := h; exact (Array.getElem?_eq_some_iff.1 h).1
theorem MapS.mod {O : Nat → Prop} {w w' : World} {r : Nat} {l : List (List UInt8 × Nat)} (h : MapS w r l) (m : Mod O w w') (hO : ¬ O r) : MapS w' r l := by
  have hlt := h.lt
  obtain ⟨es, clock, h1, h2⟩ := h
  exact ⟨es, clock, (m.block r hlt hO).trans h1, h2⟩
theorem MapS.ext {w w' : World} {r : Nat} {l : List (List UInt8 × Nat)} (h : MapS w r l) (m : Ext w w') : MapS w' r l := h.mod m fun x => x

theorem findNow_cnt (k : List UInt8) : ∀ (es : List MapEntry) (l : List (List UInt8 × Nat)) (i : Nat), es.map (fun e => (e.key, e.val)) = l.map (fun p => (St p.1, IN p.2)) →
    (Instr.findNow .string (St k) es i = some none ∧ cnt l k = 0 ∧ cntSet l k = fun v => l ++ [(k, v)]) ∨
    ∃ j, j < es.length ∧ Instr.findNow .string (St k) es i = some (some (i + j, IN (cnt l k))) ∧ (∃ e, es[j]? = some e ∧ e.key = St k) ∧
      ∀ v g, (∀ e, (g e).key = St k ∧ (g e).val = IN v) → (es.modify j g).map (fun e => (e.key, e.val)) = (cntSet l k v).map (fun p => (St p.1, IN p.2))
  | [], [], _, _ => .inl ⟨rfl, rfl, rfl⟩
  | [], _ :: _, _, h => by cases h
  | _ :: _, [], _, h => by cases h
  | e :: es, (a, c) :: l, i, h => by
    simp only [List.map_cons, List.cons.injEq, Prod.mk.injEq] at h
    obtain ⟨⟨hk, hv⟩, hr⟩ := h
    have hs : Instr.sameNow .string (St k) e.key = some (k == a) := by
      rw [hk]; simp only [Instr.sameNow, St]; rw [bytesEq]
    by_cases hka : k = a
    · subst hka
      refine .inr ⟨0, by simp, ?_, ⟨e, rfl, hk⟩, ?_⟩
      · simp only [Instr.findNow, hs, beq_self_eq_true, hv, cnt, if_true, Nat.add_zero]
      · intro v g hg
        simp only [List.modify_cons, if_true, List.map_cons, hg e, cntSet, beq_self_eq_true, hr]
    · have hne : (a == k) = false := by rw [beq_eq_false_iff_ne]; exact fun e => hka e.symm
      have hne' : (k == a) = false := by rw [beq_eq_false_iff_ne]; exact hka
      have hf : Instr.findNow .string (St k) (e :: es) i = Instr.findNow .string (St k) es (i + 1) := by simp only [Instr.findNow, hs, hne']
      rcases findNow_cnt k es l (i + 1) hr with ⟨h1, h2, h3⟩ | ⟨j, hj, h1, ⟨e', he', hek⟩, h3⟩
      · refine .inl ⟨hf.trans h1, by simp [cnt, hne, h2], ?_⟩
        funext v
        simp only [cntSet, hne]
        rw [h3]; rfl
      · refine .inr ⟨j + 1, by simpa using hj, ?_, ⟨e', by simpa using he', hek⟩, ?_⟩
        · rw [hf, h1]; simp only [cnt, hne]; simp; omega
        · intro v g hg
          have := h3 v g hg
          simp only [List.modify_succ_cons, List.map_cons, this, cntSet, hne]
          simp [hk, hv]

section ops
variable {P : Program} {ops : Array Oper} {l : List Oper} {n : Nat} {f : Fr} {w : World} {Q : Exit → Fr → World → Prop}
variable {d : Nat} {ty : TypeId} {pos : String} {aft : Array Edge}

theorem isKey_St (k : List UInt8) : MapKept.IsKey .string (St k) := by simp [MapKept.IsKey, St]

theorem WL.lookupS {t kt et r : Nat} {x y : Operand} {ls : List (List UInt8 × Nat)} {k : List UInt8} (ht : P.underlying t = some (.map kt et)) (hk : P.underlying kt = some .string) (hz : ∀ w : World, (zeroValue et).run P w = .ok (IN 0) w)
    (hx : ev f x = .map (some r)) (hy : ev f y = St k) (hm : MapS w r ls) (hd : decide (d < n) = true) (kk : WL P ops l n (upd f d (IN (cnt ls k))) w Q) :
    WL P ops (⟨some d, .lookup t x y false, ty, pos, aft, none⟩ :: l) n f w Q := by
  obtain ⟨es, clock, hb, he⟩ := hm
  refine WL.val rfl hd (v := IN (cnt ls k)) (w' := w) ?_ kk
  have hc := MapKept.run_checkKey (P := P) (w := w) hk (isKey_St k) es.isEmpty 9999
  have hrun : (Instr.lookup t (.map (some r)) (St k) false).run P w = .ok (IN (cnt ls k)) w := by
    rcases findNow_cnt k es.toList ls 0 he with ⟨h1, h2, _⟩ | ⟨j, _, h1, _, _⟩
    · rw [h2]
      simp [Instr.lookup, run_underlying ht, MapKept.run_getObj_map hb, hc, MapKept.run_findKey hk h1, hz, Result.andThen]
    · simp [Instr.lookup, run_underlying ht, MapKept.run_getObj_map hb, hc, MapKept.run_findKey hk h1, Result.andThen]
  simp only [execOp, hx, hy]
  rw [Sem.run_bind, hrun]; simp [Result.andThen]

theorem same_St (k : List UInt8) : Instr.sameBits 10000 (St k) (St k) = true := by
  show (Instr.sameBits (9999 + 1) (Value.string ⟨k.toArray⟩) (Value.string ⟨k.toArray⟩)) = true
  unfold Instr.sameBits
  rw [bytesEq]; exact beq_self_eq_true _
theorem setObj_mod {w : World} {r : Nat} {o o' : Obj} (hb : w.heap[r]? = some o) : Mod (· = r) w { w with heap := w.heap.setIfInBounds r o' } :=
  ⟨rfl, rfl, rfl, by simp, fun k _ hk => (MapKept.heap_set hb).2 k hk⟩
theorem WL.mapSet {t kt et r v : Nat} {x y z : Operand} {ls : List (List UInt8 × Nat)} {k : List UInt8} (ht : P.underlying t = some (.map kt et)) (hk : P.underlying kt = some .string)
    (hx : ev f x = .map (some r)) (hy : ev f y = St k) (hz : ev f z = IN v) (hm : MapS w r ls) (kk : ∀ w', MapS w' r (cntSet ls k v) → Mod (· = r) w w' → WL P ops l n f w' Q) :
    WL P ops (⟨none, .mapUpdate t x y z, ty, pos, aft, none⟩ :: l) n f w Q := by
  obtain ⟨es, clock, hb, he⟩ := hm
  have hc := MapKept.run_checkKey (P := P) (w := w) hk (isKey_St k) false 9999
  rcases findNow_cnt k es.toList ls 0 he with ⟨h1, _, h3⟩ | ⟨j, hj, h1, ⟨e, hej, hek⟩, h3⟩
  · refine WL.skp (w' := { w with heap := w.heap.setIfInBounds r (.map (es.push { key := St k, val := IN v, born := clock }) (clock + 1)) }) rfl rfl ?_
      (kk _ ⟨_, _, (MapKept.heap_set hb).1, by rw [h3]; simp [he]⟩ (setObj_mod hb))
    have : (Instr.mapUpdate t (.map (some r)) (St k) (IN v)).run P w = .ok () { w with heap := w.heap.setIfInBounds r (.map (es.push { key := St k, val := IN v, born := clock }) (clock + 1)) } := by
      simp [Instr.mapUpdate, run_underlying ht, MapKept.run_getObj_map hb, hc, MapKept.run_findKey hk h1, MapKept.run_setObj_map _ hb, Result.andThen]
    simp only [execOp, hx, hy, hz]
    rw [Sem.run_bind, this]; simp [Result.andThen]
  · have hlt : j < es.size := by simpa using hj
    rw [Nat.zero_add] at h1
    have hkey : ((es[j]?).map (·.key)).getD (St k) = St k := by
      have : es[j]? = some e := by simpa using hej
      rw [this]; exact hek
    refine WL.skp (w' := { w with heap := w.heap.setIfInBounds r (.map (es.modify j fun e => { e with key := St k, val := IN v }) clock) }) rfl rfl ?_
      (kk _ ⟨_, _, (MapKept.heap_set hb).1, by rw [Array.toList_modify]; exact h3 v _ (fun _ => ⟨rfl, rfl⟩)⟩ (setObj_mod hb))
    have : (Instr.mapUpdate t (.map (some r)) (St k) (IN v)).run P w = .ok () { w with heap := w.heap.setIfInBounds r (.map (es.modify j fun e => { e with key := St k, val := IN v }) clock) } := by
      simp [Instr.mapUpdate, run_underlying ht, MapKept.run_getObj_map hb, hc, MapKept.run_findKey hk h1, hkey, Instr.keyThatStays, same_St, MapKept.run_setObj_map _ hb, Result.andThen]
    simp only [execOp, hx, hy, hz]
    rw [Sem.run_bind, this]; simp [Result.andThen]
theorem WL.makeMap {t : Nat} (hd : decide (d < n) = true) (kk : ∀ r w', MapS w' r [] → Ext w w' → r = w.heap.size → WL P ops l n (upd f d (.map (some r))) w' Q) :
    WL P ops (⟨some d, .makeMap t none, ty, pos, aft, none⟩ :: l) n f w Q := by
  refine WL.val rfl hd (v := .map (some w.heap.size)) (w' := w.alloc (.map #[] 0)) ?_ (kk _ _ ⟨#[], 0, heap_alloc_new w _, rfl⟩ (alloc_ext w _) rfl)
  simp only [execOp, Option.map_none]
  rw [Sem.run_bind, run_makeMap_plain]; simp [Result.andThen]
end ops

/-! ### structs of a string and an integer -/
/-- The type's two fields: a string, an integer. -/
def symT (P : Program) (t : Nat) : Bool :=
  match P.underlying t with
  | some (.struct fs) => match fs.toList with
    | [a, b] => a.name != "_" && b.name != "_" && a.offset == 0 && b.offset == 1 && (match P.underlying a.type with | some .string => true | _ => false) && (match P.underlying b.type with | some (.int _) => true | _ => false) && isAggT P a.type == some false && isAggT P b.type == some false && !P.stoodInHeld t
    | _ => false
  | _ => false
theorem equal_sym {P : Program} {t : Nat} (h : symT P t = true) (a b : List UInt8) (x y : Int) (w : World) : (Op.equal t (.agg #[St a, .int .i64 x]) (.agg #[St b, .int .i64 y])).run P w = .ok (a == b && x == y) w := by
  unfold symT at h
  split at h <;> try cases h
  rename_i fs hu
  split at h <;> try cases h
  rename_i fa fb hl
  simp only [Bool.and_eq_true, bne_iff_ne, beq_iff_eq, Bool.not_eq_true'] at h
  obtain ⟨⟨⟨⟨⟨⟨⟨⟨h1, h2⟩, h3⟩, h4⟩, h5⟩, h6⟩, h7⟩, h8⟩, h9⟩ := h
  split at h5 <;> try cases h5
  rename_i hsa
  split at h6 <;> try cases h6
  rename_i kb hib
  have hf : P.fieldsOf t = fs := by simp [Program.fieldsOf, hu]
  show (Op.equalIn (9999 + 1) t _ _).run P w = _
  rw [run_equalIn_struct (P := P) w 9999 t _ _ (by rw [hf]; exact hu) h9, hf, hl]
  have e1 : ∀ w, (Op.equalIn 9999 fa.type (St a) (St b)).run P w = .ok (a == b) w := fun w => by
    show (Op.equalIn (9998 + 1) fa.type (St a) (St b)).run P w = _
    unfold Op.equalIn
    simp [run_underlying hsa, St, Result.andThen, bytesEq]
  have e2 : ∀ w, (Op.equalIn 9999 fb.type (.int .i64 x) (.int .i64 y)).run P w = .ok (x == y) w := fun w => by
    show (Op.equalIn (9998 + 1) fb.type (.int .i64 x) (.int .i64 y)).run P w = _
    unfold Op.equalIn
    simp [run_underlying hib, Result.andThen]
  simp only [Op.eqFields, h1, h2, h3, h4, ne_eq, not_false_eq_true, if_true]
  have p1 : ∀ (u v : Value) (w : World), (part fa.type #[u, v] 0).run P w = .ok u w := fun u v w => by simp [part, isAggT_run h7, Result.andThen]
  have p2 : ∀ (u v : Value) (w : World), (part fb.type #[u, v] 1).run P w = .ok v w := fun u v w => by simp [part, isAggT_run h8, Result.andThen]
  simp only [Sem.run_bind, p1, e1, Result.andThen]
  generalize (a == b) = p at *
  generalize (x == y) = q at *
  cases p <;> cases q <;> simp [p2, e2, Result.andThen]
theorem BinR.eqlSym {P : Program} {t : Nat} (h : symT P t = true) (hg : P.eqGuardType P.depth t = false) {a b : List UInt8} {x y : Int} : BinR P .eql t (.agg #[St a, .int .i64 x]) (.agg #[St b, .int .i64 y]) (.bool (a == b && x == y)) := fun o o' w => by
  have e := equal_sym h a b x y w
  simp only [eqGuard, binOp, Sem.run_bind, Sem.run_pure, Result.andThen]; simp [e, hg]
theorem BinR.neqSym {P : Program} {t : Nat} (h : symT P t = true) (hg : P.eqGuardType P.depth t = false) {a b : List UInt8} {x y : Int} : BinR P .neq t (.agg #[St a, .int .i64 x]) (.agg #[St b, .int .i64 y]) (.bool !(a == b && x == y)) := fun o o' w => by
  have e := equal_sym h a b x y w
  simp only [eqGuard, binOp, Sem.run_bind, Sem.run_pure, Result.andThen]; simp [e, hg]
end Go.Ux
