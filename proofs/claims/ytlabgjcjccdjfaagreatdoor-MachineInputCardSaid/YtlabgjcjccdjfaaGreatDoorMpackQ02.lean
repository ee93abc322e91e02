/- Steps of the proof, packed by program: UxMap UxSl2 UxOne ImgPure UxOpen ImgEng ImgNum ImgRight ImgBig ImgBytes ImgParse ImgPre ImgInj ImgOwn UxU32 McPure. -/
import Derived.Laws.StructEq
import Derived.MapKept
import Derived.Lib.SmallJoins
import Derived.Deep.SlicePairs
import Derived.Test.YtlabgjcjccdjfaaGreatDoorMpackQ01
set_option linter.unusedVariables false
set_option linter.unusedSimpArgs false
section
/- The walking engine: maps from strings to counts; tests of structs of a string and an integer. -/
namespace Go.Ux
open Go
/-- What a map of counts says of a key. -/
def cnt (l : List (List UInt8 × Nat)) (k : List UInt8) : Nat := match l with
  | [] => 0
  | (a, c) :: r => if a == k then c else cnt r k
def cntSet (l : List (List UInt8 × Nat)) (k : List UInt8) (v : Nat) : List (List UInt8 × Nat) := match l with
  | [] => [(k, v)]
  | (a, c) :: r => if a == k then (a, v) :: r else (a, c) :: cntSet r k v
theorem cnt_set (l : List (List UInt8 × Nat)) (k k' : List UInt8) (v : Nat) : cnt (cntSet l k v) k' = if k == k' then v else cnt l k' := by
  induction l with
  | nil => simp [cntSet, cnt]
  | cons p r ih =>
    obtain ⟨a, c⟩ := p
    simp only [cntSet]
    by_cases h : a = k
    · subst h; simp only [beq_self_eq_true, if_true, cnt]
      by_cases h' : a = k' <;> simp [h']
    · rw [if_neg (by simpa using h)]
      simp only [cnt, ih]
      by_cases h' : a = k'
      · subst h'
        have : ¬ k = a := fun e => h e.symm
        simp [this]
      · simp [h']
/-- Block r is a map that holds these counts. -/
def MapS (w : World) (r : Nat) (l : List (List UInt8 × Nat)) : Prop :=
  ∃ es clock, w.heap[r]? = some (.map es clock) ∧ es.toList.map (fun e => (e.key, e.val)) = l.map fun p => (St p.1, IN p.2)
theorem MapS.lt {w : World} {r : Nat} {l : List (List UInt8 × Nat)} (h : MapS w r l) : r < w.heap.size := by
  obtain ⟨_, _, h, _⟩ := h; exact (Array.getElem?_eq_some_iff.1 h).1
theorem MapS.mod {O : Nat → Prop} {w w' : World} {r : Nat} {l : List (List UInt8 × Nat)} (h : MapS w r l) (m : Mod O w w') (hO : ¬ O r) : MapS w' r l := by
  have hlt := h.lt
  obtain ⟨es, clock, h1, h2⟩ := h
  exact ⟨es, clock, (m.block r hlt hO).trans h1, h2⟩
theorem MapS.ext {w w' : World} {r : Nat} {l : List (List UInt8 × Nat)} (h : MapS w r l) (m : Ext w w') : MapS w' r l := h.mod m fun x => x
theorem findNow_cnt (k : List UInt8) : ∀ (es : List MapEntry) (l : List (List UInt8 × Nat)) (i : Nat), es.map (fun e => (e.key, e.val)) = l.map (fun p => (St p.1, IN p.2)) →
    (Instr.findNow .string (St k) es i = some none ∧ cnt l k = 0 ∧ cntSet l k = fun v => l ++ [(k, v)]) ∨
    ∃ j, j < es.length ∧ Instr.findNow .string (St k) es i = some (some (i + j, IN (cnt l k))) ∧ (∃ e, es[j]? = some e ∧ e.key = St k) ∧
      ∀ v g, (∀ e, (g e).key = St k ∧ (g e).val = IN v) → (es.modify j g).map (fun e => (e.key, e.val)) = (cntSet l k v).map (fun p => (St p.1, IN p.2))
  | [], [], _, _ => .inl ⟨rfl, rfl, rfl⟩
  | [], _ :: _, _, h => by cases h
  | _ :: _, [], _, h => by cases h
  | e :: es, (a, c) :: l, i, h => by
    simp only [List.map_cons, List.cons.injEq, Prod.mk.injEq] at h
    obtain ⟨⟨hk, hv⟩, hr⟩ := h
    have hs : Instr.sameNow .string (St k) e.key = some (k == a) := by
      rw [hk]; simp only [Instr.sameNow, St]; rw [bytesEq]
    by_cases hka : k = a
    · subst hka
      refine .inr ⟨0, by simp, ?_, ⟨e, rfl, hk⟩, ?_⟩
      · simp only [Instr.findNow, hs, beq_self_eq_true, hv, cnt, if_true, Nat.add_zero]
      · intro v g hg
        simp only [List.modify_cons, if_true, List.map_cons, hg e, cntSet, beq_self_eq_true, hr]
    · have hne : (a == k) = false := by rw [beq_eq_false_iff_ne]; exact fun e => hka e.symm
      have hne' : (k == a) = false := by rw [beq_eq_false_iff_ne]; exact hka
      have hf : Instr.findNow .string (St k) (e :: es) i = Instr.findNow .string (St k) es (i + 1) := by simp only [Instr.findNow, hs, hne']
      rcases findNow_cnt k es l (i + 1) hr with ⟨h1, h2, h3⟩ | ⟨j, hj, h1, ⟨e', he', hek⟩, h3⟩
      · refine .inl ⟨hf.trans h1, by simp [cnt, hne, h2], ?_⟩
        funext v
        simp only [cntSet, hne]
        rw [h3]; rfl
      · refine .inr ⟨j + 1, by simpa using hj, ?_, ⟨e', by simpa using he', hek⟩, ?_⟩
        · rw [hf, h1]; simp only [cnt, hne]; simp; omega
        · intro v g hg
          have := h3 v g hg
          simp only [List.modify_succ_cons, List.map_cons, this, cntSet, hne]
          simp [hk, hv]
section ops
variable {P : Program} {ops : Array Oper} {l : List Oper} {n : Nat} {f : Fr} {w : World} {Q : Exit → Fr → World → Prop}
variable {d : Nat} {ty : TypeId} {pos : String} {aft : Array Edge}
theorem isKey_St (k : List UInt8) : MapKept.IsKey .string (St k) := by simp [MapKept.IsKey, St]
theorem WL.lookupS {t kt et r : Nat} {x y : Operand} {ls : List (List UInt8 × Nat)} {k : List UInt8} (ht : P.underlying t = some (.map kt et)) (hk : P.underlying kt = some .string) (hz : ∀ w : World, (zeroValue et).run P w = .ok (IN 0) w)
    (hx : ev f x = .map (some r)) (hy : ev f y = St k) (hm : MapS w r ls) (hd : decide (d < n) = true) (kk : WL P ops l n (upd f d (IN (cnt ls k))) w Q) :
    WL P ops (⟨some d, .lookup t x y false, ty, pos, aft, none⟩ :: l) n f w Q := by
  obtain ⟨es, clock, hb, he⟩ := hm
  refine WL.val rfl hd (v := IN (cnt ls k)) (w' := w) ?_ kk
  have hc := MapKept.run_checkKey (P := P) (w := w) hk (isKey_St k) es.isEmpty 9999
  have hrun : (Instr.lookup t (.map (some r)) (St k) false).run P w = .ok (IN (cnt ls k)) w := by
    rcases findNow_cnt k es.toList ls 0 he with ⟨h1, h2, _⟩ | ⟨j, _, h1, _, _⟩
    · rw [h2]
      simp [Instr.lookup, run_underlying ht, MapKept.run_getObj_map hb, hc, MapKept.run_findKey hk h1, hz, Result.andThen]
    · simp [Instr.lookup, run_underlying ht, MapKept.run_getObj_map hb, hc, MapKept.run_findKey hk h1, Result.andThen]
  simp only [execOp, hx, hy]
  rw [Sem.run_bind, hrun]; simp [Result.andThen]
theorem same_St (k : List UInt8) : Instr.sameBits 10000 (St k) (St k) = true := by
  show (Instr.sameBits (9999 + 1) (Value.string ⟨k.toArray⟩) (Value.string ⟨k.toArray⟩)) = true
  unfold Instr.sameBits
  rw [bytesEq]; exact beq_self_eq_true _
theorem setObj_mod {w : World} {r : Nat} {o o' : Obj} (hb : w.heap[r]? = some o) : Mod (· = r) w { w with heap := w.heap.setIfInBounds r o' } :=
  ⟨rfl, rfl, rfl, by simp, fun k _ hk => (MapKept.heap_set hb).2 k hk⟩
theorem WL.mapSet {t kt et r v : Nat} {x y z : Operand} {ls : List (List UInt8 × Nat)} {k : List UInt8} (ht : P.underlying t = some (.map kt et)) (hk : P.underlying kt = some .string)
    (hx : ev f x = .map (some r)) (hy : ev f y = St k) (hz : ev f z = IN v) (hm : MapS w r ls) (kk : ∀ w', MapS w' r (cntSet ls k v) → Mod (· = r) w w' → WL P ops l n f w' Q) :
    WL P ops (⟨none, .mapUpdate t x y z, ty, pos, aft, none⟩ :: l) n f w Q := by
  obtain ⟨es, clock, hb, he⟩ := hm
  have hc := MapKept.run_checkKey (P := P) (w := w) hk (isKey_St k) false 9999
  rcases findNow_cnt k es.toList ls 0 he with ⟨h1, _, h3⟩ | ⟨j, hj, h1, ⟨e, hej, hek⟩, h3⟩
  · refine WL.skp (w' := { w with heap := w.heap.setIfInBounds r (.map (es.push { key := St k, val := IN v, born := clock }) (clock + 1)) }) rfl rfl ?_
      (kk _ ⟨_, _, (MapKept.heap_set hb).1, by rw [h3]; simp [he]⟩ (setObj_mod hb))
    have : (Instr.mapUpdate t (.map (some r)) (St k) (IN v)).run P w = .ok () { w with heap := w.heap.setIfInBounds r (.map (es.push { key := St k, val := IN v, born := clock }) (clock + 1)) } := by
      simp [Instr.mapUpdate, run_underlying ht, MapKept.run_getObj_map hb, hc, MapKept.run_findKey hk h1, MapKept.run_setObj_map _ hb, Result.andThen]
    simp only [execOp, hx, hy, hz]
    rw [Sem.run_bind, this]; simp [Result.andThen]
  · have hlt : j < es.size := by simpa using hj
    rw [Nat.zero_add] at h1
    have hkey : ((es[j]?).map (·.key)).getD (St k) = St k := by
      have : es[j]? = some e := by simpa using hej
      rw [this]; exact hek
    refine WL.skp (w' := { w with heap := w.heap.setIfInBounds r (.map (es.modify j fun e => { e with key := St k, val := IN v }) clock) }) rfl rfl ?_
      (kk _ ⟨_, _, (MapKept.heap_set hb).1, by rw [Array.toList_modify]; exact h3 v _ (fun _ => ⟨rfl, rfl⟩)⟩ (setObj_mod hb))
    have : (Instr.mapUpdate t (.map (some r)) (St k) (IN v)).run P w = .ok () { w with heap := w.heap.setIfInBounds r (.map (es.modify j fun e => { e with key := St k, val := IN v }) clock) } := by
      simp [Instr.mapUpdate, run_underlying ht, MapKept.run_getObj_map hb, hc, MapKept.run_findKey hk h1, hkey, Instr.keyThatStays, same_St, MapKept.run_setObj_map _ hb, Result.andThen]
    simp only [execOp, hx, hy, hz]
    rw [Sem.run_bind, this]; simp [Result.andThen]
theorem WL.makeMap {t : Nat} (hd : decide (d < n) = true) (kk : ∀ r w', MapS w' r [] → Ext w w' → r = w.heap.size → WL P ops l n (upd f d (.map (some r))) w' Q) :
    WL P ops (⟨some d, .makeMap t none, ty, pos, aft, none⟩ :: l) n f w Q := by
  refine WL.val rfl hd (v := .map (some w.heap.size)) (w' := w.alloc (.map #[] 0)) ?_ (kk _ _ ⟨#[], 0, heap_alloc_new w _, rfl⟩ (alloc_ext w _) rfl)
  simp only [execOp, Option.map_none]
  rw [Sem.run_bind, run_makeMap_plain]; simp [Result.andThen]
end ops
/-! ### structs of a string and an integer -/
/-- The type's two fields: a string, an integer. -/
def symT (P : Program) (t : Nat) : Bool :=
  match P.underlying t with
  | some (.struct fs) => match fs.toList with
    | [a, b] => a.name != "_" && b.name != "_" && a.offset == 0 && b.offset == 1 && (match P.underlying a.type with | some .string => true | _ => false) && (match P.underlying b.type with | some (.int _) => true | _ => false) && isAggT P a.type == some false && isAggT P b.type == some false && !P.stoodInHeld t
    | _ => false
  | _ => false
theorem equal_sym {P : Program} {t : Nat} (h : symT P t = true) (a b : List UInt8) (x y : Int) (w : World) : (Op.equal t (.agg #[St a, .int .i64 x]) (.agg #[St b, .int .i64 y])).run P w = .ok (a == b && x == y) w := by
  unfold symT at h
  split at h <;> try cases h
  rename_i fs hu
  split at h <;> try cases h
  rename_i fa fb hl
  simp only [Bool.and_eq_true, bne_iff_ne, beq_iff_eq, Bool.not_eq_true'] at h
  obtain ⟨⟨⟨⟨⟨⟨⟨⟨h1, h2⟩, h3⟩, h4⟩, h5⟩, h6⟩, h7⟩, h8⟩, h9⟩ := h
  split at h5 <;> try cases h5
  rename_i hsa
  split at h6 <;> try cases h6
  rename_i kb hib
  have hf : P.fieldsOf t = fs := by simp [Program.fieldsOf, hu]
  show (Op.equalIn (9999 + 1) t _ _).run P w = _
  rw [run_equalIn_struct (P := P) w 9999 t _ _ (by rw [hf]; exact hu) h9, hf, hl]
  have e1 : ∀ w, (Op.equalIn 9999 fa.type (St a) (St b)).run P w = .ok (a == b) w := fun w => by
    show (Op.equalIn (9998 + 1) fa.type (St a) (St b)).run P w = _
    unfold Op.equalIn
    simp [run_underlying hsa, St, Result.andThen, bytesEq]
  have e2 : ∀ w, (Op.equalIn 9999 fb.type (.int .i64 x) (.int .i64 y)).run P w = .ok (x == y) w := fun w => by
    show (Op.equalIn (9998 + 1) fb.type (.int .i64 x) (.int .i64 y)).run P w = _
    unfold Op.equalIn
    simp [run_underlying hib, Result.andThen]
  simp only [Op.eqFields, h1, h2, h3, h4, ne_eq, not_false_eq_true, if_true]
  have p1 : ∀ (u v : Value) (w : World), (part fa.type #[u, v] 0).run P w = .ok u w := fun u v w => by simp [part, isAggT_run h7, Result.andThen]
  have p2 : ∀ (u v : Value) (w : World), (part fb.type #[u, v] 1).run P w = .ok v w := fun u v w => by simp [part, isAggT_run h8, Result.andThen]
  simp only [Sem.run_bind, p1, e1, Result.andThen]
  generalize (a == b) = p at *
  generalize (x == y) = q at *
  cases p <;> cases q <;> simp [p2, e2, Result.andThen]
theorem BinR.eqlSym {P : Program} {t : Nat} (h : symT P t = true) (hg : P.eqGuardType P.depth t = false) {a b : List UInt8} {x y : Int} : BinR P .eql t (.agg #[St a, .int .i64 x]) (.agg #[St b, .int .i64 y]) (.bool (a == b && x == y)) := fun o o' w => by
  have e := equal_sym h a b x y w
  simp only [eqGuard, binOp, Sem.run_bind, Sem.run_pure, Result.andThen]; simp [e, hg]
theorem BinR.neqSym {P : Program} {t : Nat} (h : symT P t = true) (hg : P.eqGuardType P.depth t = false) {a b : List UInt8} {x y : Int} : BinR P .neq t (.agg #[St a, .int .i64 x]) (.agg #[St b, .int .i64 y]) (.bool !(a == b && x == y)) := fun o o' w => by
  have e := equal_sym h a b x y w
  simp only [eqGuard, binOp, Sem.run_bind, Sem.run_pure, Result.andThen]; simp [e, hg]
end Go.Ux
end
section
/- The walking engine: rules over slices of which only their elements are known. -/
namespace Go.Ux
open Go
theorem Sl.ext' {w w' : World} {v : Value} {size n : Nat} {xs : List Value} (h : Sl w v size n xs) (m : Ext w w') : Sl w' v size n xs := h.ext m
theorem Sl.mod' {O : Nat → Prop} {w w' : World} {v : Value} {size n : Nat} {xs : List Value} (h : Sl w v size n xs) (m : Mod O w w') (hO : ∀ b, v.ownBlock = some b → ¬ O b) : Sl w' v size n xs :=
  h.mod m fun a l c e => hO a.block (by rw [e]; rfl)
theorem Sl.modp {O : Nat → Prop} {w w' : World} {v : Value} {size n : Nat} {xs : List Value} (h : Sl w v size n xs) (m : Mod O w w') (hO : 0 < n → ∀ b, v.ownBlock = some b → ¬ O b) : Sl w' v size n xs := by
  rcases Nat.eq_zero_or_pos n with h0 | h0
  · obtain ⟨ao, cap, rfl, hc, hl, _⟩ := h
    exact ⟨ao, cap, rfl, hc, hl, .inl h0⟩
  · exact h.mod' m (hO h0)
theorem Sl.nil (w : World) (size : Nat) (c : Nat) : Sl w (.slice none 0 c) size 0 [] := ⟨none, c, rfl, Nat.zero_le _, by simp, .inl rfl⟩
theorem Sl.one {w : World} {v : Value} {size n : Nat} {xs : List Value} (h : Sl w v size n xs) : v.oneCell' = true := by obtain ⟨_, _, rfl, _⟩ := h; rfl
theorem Sl.at {w : World} {v : Value} {size n : Nat} {xs : List Value} (h : Sl w v size n xs) (h0 : 0 < n) : ∃ b o c, v = .slice (some ⟨b, o, none⟩) n c ∧ Cells w b o xs := by
  obtain ⟨ao, cap, rfl, hc, hl, h1⟩ := h
  rcases h1 with h1 | ⟨b, o, rfl, hcl⟩
  · omega
  · exact ⟨b, o, cap, rfl, hcl⟩
theorem cells2 {w : World} {b o : Nat} {xs : List Value} {i : Nat} {u v : Value} (h : Cells w b o xs) (h1 : xs[i * 2]? = some u) (h2 : xs[i * 2 + 1]? = some v) : Cells w b (o + i * 2) [u, v] := by
  intro j x hj
  match j, hj with
  | 0, hj => cases hj; rw [Nat.add_zero]; exact h _ _ h1
  | 1, hj => cases hj; have := h _ _ h2; rwa [← Nat.add_assoc] at this
/-- Elements from i on. -/
theorem Sl.size_le {w : World} {v : Value} {size n : Nat} {xs : List Value} (h : Sl w v size n xs) : xs.length = n * size := by
  obtain ⟨_, _, _, _, h, _⟩ := h; exact h
theorem Sl.lt {w : World} {v : Value} {size n : Nat} {xs : List Value} (h : Sl w v size n xs) (h0 : 0 < n) (hs : 0 < size) {g : Nat} (hg : v.ownBlock = some g) : g < w.heap.size := by
  have hl := Sl.size_le h
  obtain ⟨b, o, c, rfl, hc⟩ := h.at h0
  simp only [Value.ownBlock, Option.some.injEq] at hg
  subst hg
  have : 0 < xs.length := by rw [hl]; exact Nat.mul_pos h0 hs
  exact World.block_lt_of_cell? w _ (hc 0 xs[0] (List.getElem?_eq_getElem this))
section ops
variable {P : Program} {ops : Array Oper} {l : List Oper} {n : Nat} {f : Fr} {w : World} {Q : Exit → Fr → World → Prop}
variable {d : Nat} {ty : TypeId} {pos : String} {aft : Array Edge}
theorem WL.lenSl {t e sz m : Nat} {x : Operand} {v : Value} {xs : List Value} (ht : elemT P t = some e) (hx : ev f x = v) (h : Sl w v sz m xs) (hd : decide (d < n) = true) (k : WL P ops l n (upd f d (IN m)) w Q) :
    WL P ops (⟨some d, .call { callee := .builtin .len, args := #[x], argTypes := #[t] }, ty, pos, aft, none⟩ :: l) n f w Q := by
  obtain ⟨ao, cap, rfl, _, _, _⟩ := h
  exact WL.lenS ht hx hd k
theorem WL.indexSl {t e sz m i : Nat} {x y : Operand} {v : Value} {xs : List Value} {kd : IntKind} (ht : elemT P t = some e) (hz : sizeT P e = some sz) (hx : ev f x = v) (hy : ev f y = .int kd (i : Int)) (hi : i < m) (h : Sl w v sz m xs) (hd : decide (d < n) = true)
    (k : ∀ b o, v.ownBlock = some b → Cells w b o xs → WL P ops l n (upd f d (ptr b (o + i * sz))) w Q) : WL P ops (⟨some d, .indexAddr t x y, ty, pos, aft, none⟩ :: l) n f w Q := by
  obtain ⟨ao, cap, rfl, _, _, h0⟩ := h
  rcases h0 with h0 | ⟨b, o, rfl, hc⟩
  · omega
  · exact WL.indexAddr ht hz hx hy hi hd (k b o rfl hc)
/-- 's[:j]' -/
theorem WL.sliceToSl {t e sz m j : Nat} {x hi : Operand} {v : Value} {xs : List Value} {kd : IntKind} (ht : elemT P t = some e) (hz : sizeT P e = some sz) (hx : ev f x = v) (hhi : ev f hi = .int kd (j : Int)) (hj : j ≤ m) (h : Sl w v sz m xs) (hd : decide (d < n) = true)
    (k : ∀ v', Sl w v' sz j (xs.take (j * sz)) → v'.ownBlock = v.ownBlock → WL P ops l n (upd f d v') w Q) :
    WL P ops (⟨some d, .slice t x none (some hi) none, ty, pos, aft, none⟩ :: l) n f w Q := by
  obtain ⟨ao, cap, rfl, hc, hl, h0⟩ := h
  refine WL.sliceTo ht hz hx hhi (Nat.le_trans hj hc) hd (k _ ⟨ao, cap, rfl, Nat.le_trans hj hc, ?_, ?_⟩ (by cases ao <;> rfl))
  · rw [List.length_take, hl]; exact Nat.min_eq_left (Nat.mul_le_mul_right _ hj)
  · rcases h0 with h0 | ⟨b, o, rfl, hcl⟩
    · left; omega
    · right
      refine ⟨b, o, rfl, fun i u hu => hcl i u ?_⟩
      rw [List.getElem?_take] at hu
      split at hu
      · exact hu
      · cases hu
/-- 's[j:]' -/
theorem WL.sliceFromSl {t e sz m j : Nat} {x lo : Operand} {v : Value} {xs : List Value} {kd : IntKind} (ht : elemT P t = some e) (hz : sizeT P e = some sz) (hx : ev f x = v) (hlo : ev f lo = .int kd (j : Int)) (hj : j ≤ m) (h : Sl w v sz m xs) (hd : decide (d < n) = true)
    (k : ∀ v', Sl w v' sz (m - j) (xs.drop (j * sz)) → (v'.ownBlock = v.ownBlock) → WL P ops l n (upd f d v') w Q) :
    WL P ops (⟨some d, .slice t x (some lo) none none, ty, pos, aft, none⟩ :: l) n f w Q := by
  obtain ⟨ao, cap, rfl, hc, hl, h0⟩ := h
  have hu := elemT_und ht
  refine WL.val rfl hd (v := .slice (if cap = j then ao else ao.map (·.add (j * sz))) (m - j) (cap - j)) (w' := w) ?_ (k _ ⟨_, _, rfl, by omega, ?_, ?_⟩ ?_)
  · have h1 : (0 : Int) ≤ (j : Int) ∧ (j : Int) ≤ (m : Int) := by omega
    simp [execOp, hx, hlo, Instr.sliceAt, Instr.slice, run_underlying hu, Instr.sliceBounds, Instr.sliceBound, asIntOf, sizeT_run hz, hj, Result.andThen]
  · rw [List.length_drop, hl, Nat.sub_mul]
  · by_cases hjm : j = m
    · left; omega
    · right
      rcases h0 with h0 | ⟨b, o, rfl, hcl⟩
      · omega
      · refine ⟨b, o + j * sz, ?_, fun i u hu => ?_⟩
        · rw [if_neg (by omega)]; simp [addr_add]
        · rw [List.getElem?_drop] at hu
          have := hcl _ _ hu
          rwa [← Nat.add_assoc] at this
  · split
    · cases ao <;> rfl
    · cases ao with
      | none => rfl
      | some a => simp only [Option.map_some, Value.ownBlock, Addr.add]; split <;> rfl
end ops
end Go.Ux
end
section
/- The walking engine: rows of cells, each of which fills one place. -/
namespace Go.Ux
open Go
theorem ones2 {a b : Value} (ha : a.oneCell' = true) (hb : b.oneCell' = true) : (Value.agg #[a, b]).cells.toList.all (fun u => u.oneCell') = true := by simp [Value.cells, ha, hb]
theorem ones3 {a b c : Value} (ha : a.oneCell' = true) (hb : b.oneCell' = true) (hc : c.oneCell' = true) : (Value.agg #[a, b, c]).cells.toList.all (fun u => u.oneCell') = true := by simp [Value.cells, ha, hb, hc]
theorem Sl.slc {w : World} {v : Value} {size n : Nat} {xs : List Value} (h : Sl w v size n xs) : ∃ a l c, v = .slice a l c := by obtain ⟨_, _, rfl, _⟩ := h; exact ⟨_, _, _, rfl⟩
end Go.Ux
end
section
/- Machine code with names, as data: when it is right, which bytes it is. No program in sight. -/
namespace Go.Ux.Image
open Go.Ux
structure Img where
  entry : Int
  syms : List (List UInt8 × Int)
  words : List (BitVec 32)
deriving DecidableEq
/-- A byte out of a number: its i-th, the lowest first. -/
def dig (n : Int) (i : Nat) : UInt8 := UInt8.ofNat ((n / (2 ^ (8 * i) : Nat)) % 256).toNat
/-- The k lowest bytes, the highest first. -/
def be : Nat → Int → List UInt8
  | 0, _ => []
  | k + 1, n => dig n k :: be k n
def symB (s : List UInt8 × Int) : List UInt8 := be 1 (s.1.length : Int) ++ (s.1 ++ be 4 s.2)
def symsB (l : List (List UInt8 × Int)) : List UInt8 := l.flatMap symB
def wordsB (l : List (BitVec 32)) : List UInt8 := l.flatMap fun x => be 4 (x.toNat : Int)
def magic : List UInt8 := [80, 77, 73, 49]
def bytesOf (I : Img) : List UInt8 := magic ++ be 4 I.entry ++ be 2 (I.syms.length : Int) ++ symsB I.syms ++ be 4 (I.words.length : Int) ++ wordsB I.words
/-- One symbol: 'ns': the names ahead of it; 'last': the place of the one ahead of it. -/
def symOk (nw : Nat) (ns : List (List UInt8)) (last : Int) (s : List UInt8 × Int) : Bool :=
  decide (1 ≤ s.1.length) && decide (s.1.length ≤ 64) && !ns.contains s.1 && decide (last < s.2) && (s.2 % 4 == 0) && decide (s.2 < 4 * (nw : Int))
def symsOk (nw : Nat) : List (List UInt8) → Int → List (List UInt8 × Int) → Bool
  | _, _, [] => true
  | ns, last, s :: r => symOk nw ns last s && symsOk nw (s.1 :: ns) s.2 r
def headAt : List (List UInt8 × Int) → Int
  | [] => 0
  | s :: _ => s.2
def right2 (I : Img) : Bool := decide (0 ≤ I.entry) && decide (I.entry ≤ 524288) && (I.entry % 8 == 0)
def right3 (I : Img) : Bool := decide (1 ≤ I.words.length) && decide (I.words.length ≤ 262144)
def right4 (I : Img) : Bool := decide (1 ≤ I.syms.length) && decide (I.syms.length ≤ 65) && (headAt I.syms == 0)
def right5 (I : Img) : Bool := symsOk I.words.length [] (-1) I.syms
def rightB (I : Img) : Bool := right2 I && right3 I && right4 I && right5 I
/-- Cells. -/
def symCells (l : List (List UInt8 × Int)) : List Value := l.flatMap fun s => [St s.1, .int .i64 s.2]
def wordCells (l : List (BitVec 32)) : List Value := l.map U32
theorem symCells_length (l : List (List UInt8 × Int)) : (symCells l).length = l.length * 2 := by
  induction l with
  | nil => rfl
  | cons a r ih => simp only [symCells, List.flatMap_cons, List.length_append, List.length_cons, List.length_nil] at ih ⊢; omega
theorem symCells_get (l : List (List UInt8 × Int)) (i : Nat) (h : i < l.length) : (symCells l)[i * 2]? = some (St l[i].1) ∧ (symCells l)[i * 2 + 1]? = some (.int .i64 l[i].2) := by
  induction l generalizing i with
  | nil => simp at h
  | cons a r ih =>
    cases i with
    | zero => exact ⟨rfl, rfl⟩
    | succ i =>
      have := ih i (by simpa using h)
      simp only [List.getElem_cons_succ]
      rw [show (i + 1) * 2 = i * 2 + 2 by omega, show i * 2 + 2 + 1 = (i * 2 + 1) + 2 by omega]
      exact this
/-- The two slices of an image, of sizes that fit. -/
structure Rep (w : World) (sv wv : Value) (I : Img) : Prop where
  s : Sl w sv 2 I.syms.length (symCells I.syms)
  w : Sl w wv 1 I.words.length (wordCells I.words)
  ls : I.syms.length ≤ 1000000000
  lw : I.words.length ≤ 1000000000
theorem Rep.ext {w w' : World} {sv wv : Value} {I : Img} (h : Rep w sv wv I) (m : Ext w w') : Rep w' sv wv I := ⟨h.s.ext m, h.w.ext m, h.ls, h.lw⟩
theorem Rep.mod {O : Nat → Prop} {w w' : World} {sv wv : Value} {I : Img} (h : Rep w sv wv I) (m : Mod O w w') (hs : 0 < I.syms.length → ∀ b, sv.ownBlock = some b → ¬ O b) (hw : 0 < I.words.length → ∀ b, wv.ownBlock = some b → ¬ O b) : Rep w' sv wv I := ⟨h.s.modp m hs, h.w.modp m hw, h.ls, h.lw⟩
theorem img_beq (I K : Img) : (I == K) = ((I.entry == K.entry) && (I.syms == K.syms) && (I.words == K.words)) := by
  obtain ⟨a, b, c⟩ := I
  obtain ⟨a', b', c'⟩ := K
  rw [Bool.eq_iff_iff]
  simp only [beq_iff_eq, Bool.and_eq_true, Img.mk.injEq, and_assoc]
theorem be_length (k : Nat) (n : Int) : (be k n).length = k := by induction k with
  | zero => rfl
  | succ k ih => simp [be, ih]
end Go.Ux.Image
end
section
/- From a row's arguments to values: slices of bytes, of words, of symbols; images. No program in sight. -/
namespace Go.Ux
open Go Go.ChangeShapes Go.WideShapes Go.RowKit Go.Deep Go.Joins Go.Ux.Image
variable {H : Type} {enc : TypeId × Value → H} {P : Program} {w : World} {base : Nat} {sp : Nat → Bool} {held : Bool}
theorem sl_of_cells {a : Addr} {len cap size : Nat} {xs : List Value} (hl : len ≤ cap) (hx : xs.length = len * size) (hs : 0 < size) (hc : ∀ j u, xs[j]? = some u → w.cell? (a.add j) = some u) : Sl w (.slice (some a) len cap) size len xs := by
  by_cases h0 : len = 0
  · exact ⟨some a, cap, rfl, hl, hx, .inl h0⟩
  · have hp : 0 < xs.length := by rw [hx]; exact Nat.mul_pos (by omega) hs
    have h1 := hc 0 xs[0] (List.getElem?_eq_getElem hp)
    have hspot : a.spot = none := by
      simp only [Addr.add, if_true] at h1
      unfold World.cell? at h1
      split at h1
      · split at h1
        · cases h1
        · rename_i hn; simpa using hn
      · cases h1
    obtain ⟨b, o, s⟩ := a
    obtain rfl : s = none := hspot
    refine ⟨some ⟨b, o, none⟩, cap, rfl, hl, hx, .inr ⟨b, o, rfl, fun j u hj => ?_⟩⟩
    have := hc j u hj
    rwa [addr_add] at this
theorem range_get {α : Type} (n : Nat) (f : Nat → α) (j : Nat) {u : α} (h : ((List.range n).map f)[j]? = some u) : j < n ∧ u = f j := by
  simp only [List.getElem?_map, Option.map_eq_some_iff] at h
  obtain ⟨i, hi, rfl⟩ := h
  obtain ⟨hlt, rfl⟩ := List.getElem?_eq_some_iff.1 hi
  simp at hlt ⊢
  exact hlt
theorem byte_of {z : Int} (h : (Lit.int .u8 z).wf = true) : ∃ b : UInt8, z = (b.toNat : Int) := by
  obtain ⟨m, rfl, hm⟩ := wf_u8 h
  exact ⟨UInt8.ofNat m, by rw [UInt8.toNat_ofNat']; omega⟩
theorem word_of {z : Int} (h : (Lit.int .u32 z).wf = true) : ∃ b : BitVec 32, z = (b.toNat : Int) := by
  simp only [Lit.wf, Bool.and_eq_true, decide_eq_true_eq] at h
  have h' : 0 ≤ z ∧ z ≤ 4294967295 := h
  exact ⟨BitVec.ofNat 32 z.toNat, by rw [BitVec.toNat_ofNat]; omega⟩
theorem int_of {z : Int} (h : (Lit.int .i64 z).wf = true) : z ≤ 9223372036854775807 := by
  simp only [Lit.wf, Bool.and_eq_true, decide_eq_true_eq] at h
  have h' : -9223372036854775808 ≤ z ∧ z ≤ 9223372036854775807 := h
  exact h'.2
/-- []byte -/
theorem open_bytes {t e : TypeId} {fuel : Nat} {cs : List Value} {x : DataW H × List MemPlace} (ht : P.underlying t = some (.slice e)) (he : P.underlying e = some (.int .u8)) (hc : P.cellsOf e = 1)
    (h : DataW.trod enc P w base (fun _ => true) held fuel t cs = some x) : ∃ v l, cs = [v] ∧ Sl w v 1 (List.length l) (bs l) := by
  rcases open_slice1 ht hc h with ⟨rfl, _⟩ | ⟨a, len, cap, m, n, V, D, Pl, rfl, _, hl, _, hm, _, hx⟩
  · exact ⟨_, [], rfl, none, 0, rfl, Nat.le_refl _, rfl, .inl rfl⟩
  have hm : m = cap := by simpa using hm
  subst hm
  obtain ⟨B, hB⟩ := choose_lt (α := UInt8) (n := m) (p := fun i b => V i = .int .u8 (b.toNat : Int)) (fun i hi => by
    obtain ⟨_, h2⟩ := hx i hi
    obtain ⟨z, h3, _, h4⟩ := DataW.trod_int he h2
    obtain ⟨b, rfl⟩ := byte_of h4
    exact ⟨b, by simpa using h3⟩)
  refine ⟨_, (List.range len).map B, rfl, ?_⟩
  have hlen : ((List.range len).map B).length = len := by simp
  rw [hlen]
  refine sl_of_cells hl (by rw [bs_length, hlen, Nat.mul_one]) (by decide) fun j u hj => ?_
  unfold bs at hj
  rw [List.map_map] at hj
  obtain ⟨hj1, rfl⟩ := range_get len _ j hj
  rw [(hx j (by omega)).1, hB j (by omega)]; rfl
/-- []uint32 -/
theorem open_words {t e : TypeId} {fuel : Nat} {cs : List Value} {x : DataW H × List MemPlace} (ht : P.underlying t = some (.slice e)) (he : P.underlying e = some (.int .u32)) (hc : P.cellsOf e = 1)
    (h : DataW.trod enc P w base (fun _ => true) held fuel t cs = some x) : ∃ v l, cs = [v] ∧ Sl w v 1 (List.length l) (wordCells l) := by
  rcases open_slice1 ht hc h with ⟨rfl, _⟩ | ⟨a, len, cap, m, n, V, D, Pl, rfl, _, hl, _, hm, _, hx⟩
  · exact ⟨_, [], rfl, none, 0, rfl, Nat.le_refl _, rfl, .inl rfl⟩
  have hm : m = cap := by simpa using hm
  subst hm
  obtain ⟨B, hB⟩ := choose_lt (α := BitVec 32) (n := m) (p := fun i b => V i = U32 b) (fun i hi => by
    obtain ⟨_, h2⟩ := hx i hi
    obtain ⟨z, h3, _, h4⟩ := DataW.trod_int he h2
    obtain ⟨b, rfl⟩ := word_of h4
    exact ⟨b, by simpa using h3⟩)
  refine ⟨_, (List.range len).map B, rfl, ?_⟩
  have hlen : ((List.range len).map B).length = len := by simp
  rw [hlen]
  refine sl_of_cells hl (by unfold wordCells; rw [List.length_map, hlen, Nat.mul_one]) (by decide) fun j u hj => ?_
  unfold wordCells at hj
  rw [List.map_map] at hj
  obtain ⟨hj1, rfl⟩ := range_get len _ j hj
  rw [(hx j (by omega)).1, hB j (by omega)]; rfl
/-- []Sym -/
theorem open_syms {t e : TypeId} {f0 f1 : Field} {fuel : Nat} {cs : List Value} {x : DataW H × List MemPlace} (ht : P.underlying t = some (.slice e)) (he : P.underlying e = some (.struct #[f0, f1])) (ce : P.cellsOf e = 2) (o0 : f0.offset = 0) (o1 : f1.offset = 1)
    (c0 : P.cellsOf f0.type = 1) (c1 : P.cellsOf f1.type = 1) (h0 : P.underlying f0.type = some .string) (h1 : P.underlying f1.type = some (.int .i64))
    (h : DataW.trod enc P w base (fun _ => true) held fuel t cs = some x) : ∃ v l, cs = [v] ∧ Sl w v 2 (List.length l) (symCells l) ∧ ∀ s ∈ l, s.2 ≤ 9223372036854775807 := by
  rcases open_slice_pairs ht he ce o0 o1 c0 c1 h with ⟨rfl, _⟩ | ⟨a, len, cap, m, n, V0, V1, D0, D1, P0, P1, rfl, _, hl, _, hm, _, hx⟩
  · exact ⟨_, [], rfl, ⟨none, 0, rfl, Nat.le_refl _, rfl, .inl rfl⟩, fun s hs => by cases hs⟩
  have hm : m = cap := by simpa using hm
  subst hm
  obtain ⟨B, hB⟩ := choose_lt (α := List UInt8 × Int) (n := m) (p := fun i b => V0 i = St b.1 ∧ V1 i = .int .i64 b.2 ∧ b.2 ≤ 9223372036854775807) (fun i hi => by
    obtain ⟨_, _, h2, h3⟩ := hx i hi
    obtain ⟨s, h4, _⟩ := DataW.trod_string h0 h2
    obtain ⟨z, h5, _, h6⟩ := DataW.trod_int h1 h3
    refine ⟨(s.data.toList, z), ?_, by simpa using h5, int_of h6⟩
    rw [← St_str]; simpa using h4)
  refine ⟨_, (List.range len).map B, rfl, ?_, fun s hs => ?_⟩
  · have hlen : ((List.range len).map B).length = len := by simp
    rw [hlen]
    refine sl_of_cells hl (by rw [symCells_length, hlen]) (by decide) fun j u hj => ?_
    have hjl : j < len * 2 := by
      have := (List.getElem?_eq_some_iff.1 hj).1
      rwa [symCells_length, hlen] at this
    obtain ⟨g0, g1⟩ := symCells_get ((List.range len).map B) (j / 2) (by rw [hlen]; omega)
    have hge : ((List.range len).map B)[j / 2]'(by rw [hlen]; omega) = B (j / 2) := by simp
    rw [hge] at g0 g1
    obtain ⟨k0, k1, _, _⟩ := hx (j / 2) (by omega)
    obtain ⟨b0, b1, _⟩ := hB (j / 2) (by omega)
    rcases Nat.mod_two_eq_zero_or_one j with hj2 | hj2
    · have e : j / 2 * 2 = j := by omega
      rw [e] at g0 k0
      rw [g0] at hj; cases hj
      rw [k0, b0]
    · have e : j / 2 * 2 + 1 = j := by omega
      rw [e] at g1 k1
      rw [g1] at hj; cases hj
      rw [k1, b1]
  · simp only [List.mem_map, List.mem_range] at hs
    obtain ⟨i, hi, rfl⟩ := hs
    exact (hB i (by omega)).2.2
/-- An image, as a row's argument. -/
theorem open_img {r : Reach} {b0 : Nat} {t t1 t2 te tw : TypeId} {f0 f1 f2 g0 g1 : Field} {v : Value} {d : DataW H} {p : List MemPlace} (hs : P.underlying t = some (.struct #[f0, f1, f2])) (hone : oneCellFields P #[f0, f1, f2] = true) (hC : P.cellsOf t = 3)
    (hf0 : P.underlying f0.type = some (.int .i64)) (hf1 : P.underlying f1.type = some (.slice te)) (he : P.underlying te = some (.struct #[g0, g1])) (ce : P.cellsOf te = 2) (o0 : g0.offset = 0) (o1 : g1.offset = 1)
    (c0 : P.cellsOf g0.type = 1) (c1 : P.cellsOf g1.type = 1) (h0 : P.underlying g0.type = some .string) (h1 : P.underlying g1.type = some (.int .i64)) (hf2 : P.underlying f2.type = some (.slice tw)) (hw : P.underlying tw = some (.int .u32)) (cw : P.cellsOf tw = 1)
    (hv : Value.okWide P w r b0 t v) (h : DataW.Trod enc P w base (fun _ => true) held t v d p) :
    ∃ (I : Img) (sv wv : Value), v = .agg #[.int .i64 I.entry, sv, wv] ∧ Sl w sv 2 I.syms.length (symCells I.syms) ∧ Sl w wv 1 I.words.length (wordCells I.words) ∧ ∀ s ∈ I.syms, s.2 ≤ 9223372036854775807 := by
  obtain ⟨v0, v1, v2, y0, y1, y2, n, rfl, _, _, k0, k1, k2⟩ := open_agg3 hs hone hC hv h
  obtain ⟨z, e0, _, _⟩ := DataW.trod_int hf0 k0
  obtain ⟨sv, l, e1, s1, s2⟩ := open_syms hf1 he ce o0 o1 c0 c1 h0 h1 k1
  obtain ⟨wv, m, e2, s3⟩ := open_words hf2 hw cw k2
  simp only [List.cons.injEq, and_true] at e0 e1 e2
  subst e0 e1 e2
  exact ⟨⟨z, l, m⟩, _, _, rfl, s1, s3, s2⟩
end Go.Ux
namespace Go.Ux
theorem wf_u16 {n : Int} (h : (Lit.int .u16 n).wf = true) : ∃ m : Nat, n = ((m : Nat) : Int) ∧ m < 65536 := by
  simp only [Lit.wf, Bool.and_eq_true, decide_eq_true_eq] at h
  have h' : 0 ≤ n ∧ n ≤ 65535 := h
  exact ⟨n.toNat, by omega, by omega⟩
theorem wf_u8b {n : Int} (h : (Lit.int .u8 n).wf = true) : ∃ x : BitVec 8, n = (x.toNat : Int) := by
  obtain ⟨m, rfl, hm⟩ := wf_u8 h
  exact ⟨BitVec.ofNat 8 m, by rw [BitVec.toNat_ofNat]; omega⟩
end Go.Ux
end
section
/- Bytes out of numbers and back, as the model counts. No program in sight. -/
namespace Go.Ux
open Go Go.Ux.Image
variable {P : Program} {t : TypeId}
theorem BinR.shrI {n : Int} {yk : IntKind} {s : Nat} (hs : s < 64) : BinR P .shr t (.int .i64 n) (.int yk (s : Int)) (.int .i64 (n / (2 ^ s : Nat))) := .of_int fun w => by
  have h0 : ¬ ((s : Int) < 0) := by omega
  have e : n.fdiv (2 ^ min s 64) = n / (2 ^ s : Nat) := by
    rw [Int.fdiv_eq_ediv_of_nonneg _ (Int.pow_nonneg (by decide)), Nat.min_eq_left (by omega)]
    norm_cast
  simp only [binOp, Op.shift, if_neg h0, Int.toNat_natCast, IntKind.bits, Sem.run_pure, e]
theorem dig_val (n : Int) (i : Nat) : ((dig n i).toNat : Int) = (n / (2 ^ (8 * i) : Nat)) % 256 := by
  unfold dig
  have h1 : 0 ≤ (n / (2 ^ (8 * i) : Nat)) % 256 := Int.emod_nonneg _ (by decide)
  have h2 : (n / (2 ^ (8 * i) : Nat)) % 256 < 256 := Int.emod_lt_of_pos _ (by decide)
  rw [UInt8.toNat_ofNat']
  omega
theorem ConvR.byte {s u : TypeId} {td : TypeDesc} (h1 : P.underlying s = some td) (h2 : P.underlying u = some (.int .u8)) {n : Int} {i : Nat} : ConvR P s u (.int .i64 (n / (2 ^ (8 * i) : Nat))) (.int .u8 ((dig n i).toNat : Int)) := by
  have h := ConvR.int (P := P) (k := .i64) (a := n / (2 ^ (8 * i) : Nat)) h1 h2
  rw [wrap_u8_bv, BitVec.toNat_ofInt] at h
  rw [dig_val]
  have e : (((n / (2 ^ (8 * i) : Nat)) % (2 ^ 8 : Nat)).toNat : Int) = (n / (2 ^ (8 * i) : Nat)) % 256 := by
    have h1 : 0 ≤ (n / (2 ^ (8 * i) : Nat)) % 256 := Int.emod_nonneg _ (by decide)
    show (((n / (2 ^ (8 * i) : Nat)) % 256).toNat : Int) = _
    omega
  rwa [e] at h
theorem BinR.subI' {a b c : Int} (e : a - b = c) (h : -9223372036854775808 ≤ c ∧ c ≤ 9223372036854775807) : BinR P .sub t (.int .i64 a) (.int .i64 b) (.int .i64 c) := e ▸ BinR.subI (e ▸ h)
theorem BinR.addI' {a b c : Int} (e : a + b = c) (h : -9223372036854775808 ≤ c ∧ c ≤ 9223372036854775807) : BinR P .add t (.int .i64 a) (.int .i64 b) (.int .i64 c) := e ▸ BinR.addI (e ▸ h)
theorem BinR.mulI' {a b c : Int} (e : a * b = c) (h : -9223372036854775808 ≤ c ∧ c ≤ 9223372036854775807) : BinR P .mul t (.int .i64 a) (.int .i64 b) (.int .i64 c) := e ▸ BinR.mulI (e ▸ h)
namespace Image
theorem be_take (k : Nat) (n : Int) : ∀ m, m < k → (be k n).take (k - (m + 1)) ++ [dig n m] = (be k n).take (k - m) := by
  induction k with
  | zero => intro m h; omega
  | succ k ih =>
    intro m h
    by_cases e : m = k
    · subst e; simp [be, Nat.sub_self]
    · have := ih m (by omega)
      rw [show k + 1 - (m + 1) = (k - (m + 1)) + 1 by omega, show k + 1 - m = (k - m) + 1 by omega, be, List.take_succ_cons, List.take_succ_cons, List.cons_append, this]
theorem be_all (k : Nat) (n : Int) : (be k n).take (k - 0) = be k n := List.take_of_length_le (by rw [be_length]; omega)
end Image
end Go.Ux
end
section
/- Numbers out of bytes, the highest first; there and back. No program in sight. -/
namespace Go.Ux
open Go Go.Ux.Image
namespace Image
def numFrom (a : Nat) (l : List UInt8) : Nat := l.foldl (fun a b => a * 256 + b.toNat) a
def num (l : List UInt8) : Nat := numFrom 0 l
theorem numFrom_append (a : Nat) (x y : List UInt8) : numFrom a (x ++ y) = numFrom (numFrom a x) y := by simp [numFrom]
theorem numFrom_eq (a : Nat) (l : List UInt8) : numFrom a l = a * 256 ^ l.length + num l := by
  induction l generalizing a with
  | nil => simp [numFrom, num]
  | cons b r ih =>
    show numFrom (a * 256 + b.toNat) r = _
    have h2 : num (b :: r) = numFrom (0 * 256 + b.toNat) r := rfl
    rw [h2, ih, ih (0 * 256 + b.toNat), List.length_cons, Nat.pow_succ]
    rw [Nat.add_mul, Nat.zero_mul, Nat.zero_add, Nat.mul_assoc, Nat.mul_comm 256, Nat.add_assoc]
theorem num_lt (l : List UInt8) : num l < 256 ^ l.length := by
  induction l with
  | nil => decide
  | cons b r ih =>
    have h : num (b :: r) = b.toNat * 256 ^ r.length + num r := by
      show numFrom (0 * 256 + b.toNat) r = _
      rw [numFrom_eq, Nat.zero_mul, Nat.zero_add]
    have hb : b.toNat < 256 := b.toNat_lt
    rw [h, List.length_cons, Nat.pow_succ]
    have : (b.toNat + 1) * 256 ^ r.length ≤ 256 * 256 ^ r.length := Nat.mul_le_mul_right _ (by omega)
    rw [Nat.add_mul] at this
    omega
theorem num_take (l : List UInt8) (j : Nat) (h : j < l.length) : num (l.take (j + 1)) = num (l.take j) * 256 + l[j].toNat := by
  rw [List.take_succ_eq_append_getElem h]
  show numFrom 0 _ = _
  rw [numFrom_append]; rfl
theorem num_take_lt (l : List UInt8) (j k : Nat) (hj : j ≤ k) (hk : k ≤ 6) : num (l.take j) < 281474976710656 := by
  have h := num_lt (l.take j)
  have h2 : (l.take j).length ≤ 6 := by rw [List.length_take]; omega
  have : 256 ^ (l.take j).length ≤ 256 ^ 6 := Nat.pow_le_pow_right (by decide) h2
  have e : (256 : Nat) ^ 6 = 281474976710656 := by decide
  omega
theorem num_drop_take (l : List UInt8) (a j : Nat) (h : a + j < l.length) : num ((l.drop a).take (j + 1)) = num ((l.drop a).take j) * 256 + l[a + j].toNat := by
  rw [num_take (l.drop a) j (by rw [List.length_drop]; omega), List.getElem_drop]
end Image
variable {P : Program} {t : TypeId}
theorem IN_I64 (a : Nat) (h : a < 9223372036854775808) : IN a = I64 (BitVec.ofNat 64 a) := by
  show Value.int .i64 (a : Int) = Value.int .i64 (BitVec.ofNat 64 a).toInt
  rw [BitVec.toInt_eq_toNat_cond, BitVec.toNat_ofNat, Nat.mod_eq_of_lt (by omega), if_pos (by omega)]
theorem BinR.shl8 {a : Nat} {yk : IntKind} (h : a < 281474976710656) : BinR P .shl t (IN a) (.int yk 8) (IN (a * 256)) := by
  have h1 := BinR.shl64 (P := P) (t := t) (x := BitVec.ofNat 64 a) (yk := yk) (s := 8)
  rw [← IN_I64 a (by omega)] at h1
  have e : BitVec.ofNat 64 a <<< 8 = BitVec.ofNat 64 (a * 256) := by
    apply BitVec.eq_of_toNat_eq
    rw [BitVec.toNat_shiftLeft, BitVec.toNat_ofNat, BitVec.toNat_ofNat, Nat.mod_eq_of_lt (a := a) (by omega), Nat.shiftLeft_eq]
  rw [e, ← IN_I64 _ (by omega)] at h1
  exact h1
theorem BinR.orN {a b : Nat} (h : a < 281474976710656) (hb : b < 256) : BinR P .or t (IN (a * 256)) (IN b) (IN (a * 256 + b)) := by
  have h1 := BinR.or64 (P := P) (t := t) (x := BitVec.ofNat 64 (a * 256)) (y := BitVec.ofNat 64 b)
  rw [← IN_I64 _ (by omega), ← IN_I64 _ (by omega)] at h1
  have e : BitVec.ofNat 64 (a * 256) ||| BitVec.ofNat 64 b = BitVec.ofNat 64 (a * 256 + b) := by
    apply BitVec.eq_of_toNat_eq
    rw [BitVec.toNat_or, BitVec.toNat_ofNat, BitVec.toNat_ofNat, BitVec.toNat_ofNat, Nat.mod_eq_of_lt (by omega), Nat.mod_eq_of_lt (by omega), Nat.mod_eq_of_lt (by omega)]
    have := Nat.two_pow_add_eq_or_of_lt (i := 8) (b := b) (by simpa using hb) a
    rw [Nat.mul_comm]
    exact this.symm
  rw [e, ← IN_I64 _ (by omega)] at h1
  exact h1
end Go.Ux
end
section
/- When an image is right, symbol by symbol. No program in sight. -/
namespace Go.Ux.Image
open Go.Ux
def namesB (l : List (List UInt8 × Int)) (i : Nat) : List (List UInt8) := ((l.take i).map Prod.fst).reverse
def lastAt (l : List (List UInt8 × Int)) : Nat → Int
  | 0 => -1
  | i + 1 => (l.getD i ([], 0)).2
def restOk (I : Img) (i : Nat) : Bool := symsOk I.words.length (namesB I.syms i) (lastAt I.syms i) (I.syms.drop i)
theorem restOk_step (I : Img) (i : Nat) (h : i < I.syms.length) : restOk I i = (symOk I.words.length (namesB I.syms i) (lastAt I.syms i) I.syms[i] && restOk I (i + 1)) := by
  unfold restOk
  rw [List.drop_eq_getElem_cons h]
  have h1 : namesB I.syms (i + 1) = (I.syms[i]).1 :: namesB I.syms i := by
    unfold namesB; rw [List.take_succ_eq_append_getElem h, List.map_append, List.reverse_append]; rfl
  have h2 : lastAt I.syms (i + 1) = (I.syms[i]).2 := by
    show (I.syms.getD i ([], 0)).2 = _
    rw [List.getD, List.getElem?_eq_getElem h]; rfl
  rw [h1, h2]; rfl
theorem restOk_end (I : Img) (i : Nat) (h : I.syms.length ≤ i) : restOk I i = true := by
  unfold restOk; rw [List.drop_of_length_le h]; rfl
def headBad (I : Img) : Bool := decide (I.entry < 0) || decide (524288 < I.entry) || (I.entry.tmod 8 != 0) || decide ((I.syms.length : Int) < 1) || decide (65 < (I.syms.length : Int)) || decide ((I.words.length : Int) < 1) || decide (262144 < (I.words.length : Int))
theorem tmod8 (a : Int) (h : 0 ≤ a) : a.tmod 8 = a % 8 := Int.tmod_eq_emod_of_nonneg h
theorem headBad_no (I : Img) (h : headBad I = true) : rightB I = false := by
  cases hr : rightB I with
  | false => rfl
  | true =>
    exfalso
    simp only [headBad, rightB, right2, right3, right4, Bool.or_eq_true, Bool.and_eq_true, decide_eq_true_eq, bne_iff_ne, beq_iff_eq, ne_eq] at h hr
    rw [tmod8 _ (by omega)] at h
    omega
theorem headBad_ok (I : Img) (h : headBad I = false) : rightB I = (headAt I.syms == 0 && restOk I 0) := by
  have h5 : right5 I = restOk I 0 := rfl
  simp only [headBad, Bool.or_eq_false_iff, decide_eq_false_iff_not, bne_eq_false_iff_eq] at h
  rw [tmod8 _ (by omega)] at h
  have h2 : right2 I = true := by simp only [right2, Bool.and_eq_true, decide_eq_true_eq, beq_iff_eq]; omega
  have h3 : right3 I = true := by simp only [right3, Bool.and_eq_true, decide_eq_true_eq]; omega
  have h4 : right4 I = (headAt I.syms == 0) := by
    have : (decide (1 ≤ I.syms.length) && decide (I.syms.length ≤ 65)) = true := by simp only [Bool.and_eq_true, decide_eq_true_eq]; omega
    unfold right4; rw [this]; rfl
  rw [rightB, h2, h3, h4, h5]; rfl
def symBad (nw i : Nat) (last : Int) (s : List UInt8 × Int) : Bool :=
  decide ((s.1.length : Int) < 1) || decide (64 < (s.1.length : Int)) || (s.2.tmod 4 != 0) || decide (((4 * nw : Nat) : Int) ≤ s.2) || (((i : Int) == 0) && (s.2 != 0)) || (decide (0 < (i : Int)) && decide (s.2 ≤ last))
theorem tmod4 (a : Int) : (a.tmod 4 != 0) = (a % 4 != 0) := by
  rw [Bool.eq_iff_iff]
  simp only [bne_iff_ne, ne_eq]
  rw [Int.tmod_eq_emod]
  split <;> omega
def todo (I : Img) (i : Nat) : Bool := if i = 0 then headAt I.syms == 0 && restOk I 0 else restOk I i
theorem headAt_get' : ∀ (l : List (List UInt8 × Int)) (h : 0 < l.length), headAt l = (l[0]).2
  | [], h => absurd h (by decide)
  | _ :: _, _ => rfl
theorem headAt_get (I : Img) (h : 0 < I.syms.length) : headAt I.syms = (I.syms[0]).2 := headAt_get' _ h
theorem lastAt_get (l : List (List UInt8 × Int)) (i : Nat) (h : i < l.length) : lastAt l (i + 1) = (l[i]).2 := by
  show (l.getD i ([], 0)).2 = _
  rw [List.getD, List.getElem?_eq_getElem h]; rfl
theorem lastAt_pred (l : List (List UInt8 × Int)) (i : Nat) (h0 : 0 < i) (h : i - 1 < l.length) : lastAt l i = (l[i - 1]).2 := by
  have := lastAt_get l (i - 1) h
  rwa [show i - 1 + 1 = i by omega] at this
theorem symOk_bad {nw i : Nat} {ns : List (List UInt8)} {last : Int} {s : List UInt8 × Int} (hi : 0 < i) (h : symBad nw i last s = true) : symOk nw ns last s = false := by
  cases hr : symOk nw ns last s with
  | false => rfl
  | true =>
    exfalso
    rw [symBad, tmod4] at h
    simp only [symOk, Bool.or_eq_true, Bool.and_eq_true, decide_eq_true_eq, bne_iff_ne, beq_iff_eq, ne_eq] at h hr
    omega
theorem todo_bad {I : Img} {i : Nat} (hi : i < I.syms.length) (h : symBad I.words.length i (lastAt I.syms i) I.syms[i] = true) : todo I i = false := by
  unfold todo
  by_cases h0 : i = 0
  · subst h0
    rw [if_pos rfl, headAt_get I hi, restOk_step I 0 hi]
    by_cases hz : (I.syms[0]).2 = 0
    · have : symOk I.words.length (namesB I.syms 0) (lastAt I.syms 0) I.syms[0] = false := by
        cases hr : symOk I.words.length (namesB I.syms 0) (lastAt I.syms 0) I.syms[0] with
        | false => rfl
        | true =>
          exfalso
          rw [symBad, tmod4] at h
          simp only [symOk, Bool.or_eq_true, Bool.and_eq_true, decide_eq_true_eq, bne_iff_ne, beq_iff_eq, ne_eq] at h hr
          omega
      rw [this]; simp
    · rw [beq_eq_false_iff_ne.2 hz]; rfl
  · rw [if_neg h0, restOk_step I i hi, symOk_bad (by omega) h]; rfl
theorem todo_dup {I : Img} {i : Nat} (hi : i < I.syms.length) (h : (namesB I.syms i).contains (I.syms[i]).1 = true) : todo I i = false := by
  have hs : symOk I.words.length (namesB I.syms i) (lastAt I.syms i) I.syms[i] = false := by unfold symOk; rw [h]; simp
  unfold todo
  by_cases h0 : i = 0
  · subst h0; rw [if_pos rfl, restOk_step I 0 hi, hs]; simp
  · rw [if_neg h0, restOk_step I i hi, hs]; rfl
theorem todo_next {I : Img} {i : Nat} (hi : i < I.syms.length) (hl : 0 < i → 0 ≤ lastAt I.syms i) (h : symBad I.words.length i (lastAt I.syms i) I.syms[i] = false) (hc : (namesB I.syms i).contains (I.syms[i]).1 = false) :
    todo I i = todo I (i + 1) ∧ 0 ≤ lastAt I.syms (i + 1) := by
  have hla : i = 0 → lastAt I.syms i = -1 := fun e => by subst e; rfl
  rw [symBad, tmod4] at h
  simp only [Bool.or_eq_false_iff, Bool.and_eq_false_iff, decide_eq_false_iff_not, bne_eq_false_iff_eq, beq_eq_false_iff_ne, ne_eq] at h
  have hs : symOk I.words.length (namesB I.syms i) (lastAt I.syms i) I.syms[i] = true := by
    unfold symOk
    rw [hc]
    simp only [Bool.and_eq_true, decide_eq_true_eq, beq_iff_eq, Bool.not_false, and_true]
    omega
  refine ⟨?_, by rw [lastAt_get _ _ hi]; omega⟩
  unfold todo
  rw [if_neg (show ¬ i + 1 = 0 by omega)]
  by_cases h0 : i = 0
  · subst h0
    rw [if_pos rfl, restOk_step I 0 hi, hs, headAt_get I hi, show (I.syms[0]).2 = 0 by omega]; rfl
  · rw [if_neg h0, restOk_step I i hi, hs]; rfl
theorem todo_end (I : Img) (i : Nat) (hi : 0 < i) (h : I.syms.length ≤ i) : todo I i = true := by
  unfold todo; rw [if_neg (by omega), restOk_end I i h]
theorem dup_of {I : Img} {i k : Nat} (hi : i < I.syms.length) (hk : k < i) (e : (I.syms[k]).1 = (I.syms[i]).1) : (namesB I.syms i).contains (I.syms[i]).1 = true := by
  rw [List.contains_iff_mem]
  unfold namesB
  rw [List.mem_reverse, List.mem_map]
  exact ⟨I.syms[k], List.mem_take_iff_getElem.2 ⟨k, by omega, rfl⟩, e⟩
theorem nodup_of {I : Img} {i : Nat} (hi : i < I.syms.length) (h : ∀ k (hk : k < i), (I.syms[k]).1 ≠ (I.syms[i]).1) : (namesB I.syms i).contains (I.syms[i]).1 = false := by
  cases hc : (namesB I.syms i).contains (I.syms[i]).1 with
  | false => rfl
  | true =>
    rw [List.contains_iff_mem] at hc
    unfold namesB at hc
    rw [List.mem_reverse, List.mem_map] at hc
    obtain ⟨x, hx, e⟩ := hc
    obtain ⟨k, hk, rfl⟩ := List.mem_take_iff_getElem.1 hx
    exact absurd e (h k (by omega))
end Go.Ux.Image
end
section
/- When an image is large, as the laws count. No program in sight. -/
namespace Go.Ux.Image
open Go.Ux
def largeB (I : Img) : Bool := decide (70 < (I.syms.length : Int)) || decide (500 < (I.words.length : Int)) || I.syms.any fun s => decide (100 < (s.1.length : Int))
theorem largeB_at {I : Img} {i : Nat} (hi : i < I.syms.length) (h : decide (100 < ((I.syms[i]).1.length : Int)) = true) : largeB I = true := by
  have : (I.syms.any fun s => decide (100 < (s.1.length : Int))) = true := List.any_eq_true.2 ⟨_, List.getElem_mem hi, h⟩
  unfold largeB; rw [this]; simp
theorem largeB_none {I : Img} {i : Nat} (hi : I.syms.length ≤ i) (h1 : decide (70 < (I.syms.length : Int)) = false) (h2 : decide (500 < (I.words.length : Int)) = false)
    (h : ∀ m (_ : m < i) (h2 : m < I.syms.length), decide (100 < ((I.syms[m]).1.length : Int)) = false) : largeB I = false := by
  have : (I.syms.any fun s => decide (100 < (s.1.length : Int))) = false := by
    rw [List.any_eq_false]
    intro x hx
    obtain ⟨m, hm, rfl⟩ := List.getElem_of_mem hx
    rw [h m (by omega) hm]; decide
  unfold largeB; rw [h1, h2, this]; rfl
theorem largeB_no {I : Img} (h : largeB I = false) : I.syms.length ≤ 70 ∧ I.words.length ≤ 500 ∧ ∀ s ∈ I.syms, s.1.length ≤ 100 := by
  simp only [largeB, Bool.or_eq_false_iff, decide_eq_false_iff_not, List.any_eq_false, decide_eq_true_eq] at h
  exact ⟨by omega, by omega, fun s hs => by have := h.2 s hs; omega⟩
end Go.Ux.Image
end
section
/- An image's bytes, from front to back. No program in sight. -/
namespace Go.Ux.Image
open Go Go.Ux
def headOf (I : Img) : List UInt8 := magic ++ be 4 I.entry ++ be 2 (I.syms.length : Int)
def bytesTo (I : Img) (i : Nat) : List UInt8 := headOf I ++ symsB (I.syms.take i)
def codeTo (I : Img) (i : Nat) : List UInt8 := bytesTo I I.syms.length ++ be 4 (I.words.length : Int) ++ wordsB (I.words.take i)
theorem headOf_length (I : Img) : (headOf I).length = 10 := by simp [headOf, magic, be_length]
theorem bytesTo_zero (I : Img) : bytesTo I 0 = headOf I := by simp [bytesTo, symsB]
theorem codeTo_zero (I : Img) : codeTo I 0 = bytesTo I I.syms.length ++ be 4 (I.words.length : Int) := by simp [codeTo, wordsB]
theorem bytesTo_step (I : Img) (i : Nat) (h : i < I.syms.length) : bytesTo I (i + 1) = bytesTo I i ++ be 1 ((I.syms[i]).1.length : Int) ++ (I.syms[i]).1 ++ be 4 (I.syms[i]).2 := by
  unfold bytesTo symsB
  rw [List.take_succ_eq_append_getElem h, List.flatMap_append]
  simp only [List.flatMap_cons, List.flatMap_nil, symB, List.append_nil, List.append_assoc]
theorem bytesTo_len (I : Img) (i : Nat) (h : i < I.syms.length) : (bytesTo I (i + 1)).length = (bytesTo I i).length + 1 + (I.syms[i]).1.length + 4 := by
  rw [bytesTo_step I i h]; simp only [List.length_append, be_length]
theorem codeTo_step (I : Img) (i : Nat) (h : i < I.words.length) : codeTo I (i + 1) = codeTo I i ++ be 4 ((I.words[i]).toNat : Int) := by
  unfold codeTo wordsB
  rw [List.take_succ_eq_append_getElem h, List.flatMap_append]
  simp only [List.flatMap_cons, List.flatMap_nil, List.append_nil, List.append_assoc]
theorem codeTo_len (I : Img) (i : Nat) (h : i < I.words.length) : (codeTo I (i + 1)).length = (codeTo I i).length + 4 := by
  rw [codeTo_step I i h]; simp only [List.length_append, be_length]
theorem codeTo_all (I : Img) : codeTo I I.words.length = bytesOf I := by
  simp [codeTo, bytesTo, headOf, bytesOf, List.append_assoc]
theorem bytesTo_le (I : Img) (hn : ∀ s ∈ I.syms, s.1.length ≤ 64) : ∀ i, i ≤ I.syms.length → (bytesTo I i).length ≤ 10 + 69 * i
  | 0, _ => by rw [bytesTo_zero, headOf_length]; omega
  | i + 1, h => by
    rw [bytesTo_len I i (by omega)]
    have := bytesTo_le I hn i (by omega)
    have := hn _ (List.getElem_mem (show i < I.syms.length by omega))
    omega
theorem codeTo_le (I : Img) : ∀ i, i ≤ I.words.length → (codeTo I i).length = (bytesTo I I.syms.length).length + 4 + 4 * i
  | 0, _ => by rw [codeTo_zero, List.length_append, be_length]
  | i + 1, h => by rw [codeTo_len I i (by omega), codeTo_le I i (by omega)]; omega
theorem symsOk_names (nw : Nat) : ∀ (l : List (List UInt8 × Int)) (ns : List (List UInt8)) (last : Int), symsOk nw ns last l = true → ∀ s ∈ l, 1 ≤ s.1.length ∧ s.1.length ≤ 64 ∧ last < s.2 ∧ s.2 < 4 * (nw : Int)
  | [], _, _, _, s, hs => by cases hs
  | a :: r, ns, last, h, s, hs => by
    simp only [symsOk, Bool.and_eq_true] at h
    obtain ⟨h1, h2⟩ := h
    simp only [symOk, Bool.and_eq_true, decide_eq_true_eq] at h1
    rcases List.mem_cons.1 hs with rfl | hs
    · exact ⟨by omega, by omega, by omega, by omega⟩
    · have := symsOk_names nw r _ _ h2 s hs
      exact ⟨by omega, by omega, by omega, by omega⟩
theorem right_bounds {I : Img} (h : rightB I = true) : 1 ≤ I.syms.length ∧ I.syms.length ≤ 65 ∧ (∀ s ∈ I.syms, s.1.length ≤ 64) ∧ 1 ≤ I.words.length ∧ I.words.length ≤ 262144 ∧ 0 ≤ I.entry ∧ I.entry ≤ 524288 ∧ ∀ s ∈ I.syms, 1 ≤ s.1.length ∧ 0 ≤ s.2 ∧ s.2 < 4 * (I.words.length : Int) := by
  simp only [rightB, Bool.and_eq_true] at h
  obtain ⟨⟨⟨h2, h3⟩, h4⟩, h5⟩ := h
  simp only [right2, right3, right4, Bool.and_eq_true, decide_eq_true_eq] at h2 h3 h4
  have := symsOk_names _ _ _ _ h5
  exact ⟨by omega, by omega, fun s hs => by have := this s hs; omega, by omega, by omega, by omega, by omega, fun s hs => by have := this s hs; omega⟩
end Go.Ux.Image
namespace Go.Ux
open Go
theorem srcSt {P : Program} {w : World} {tx : TypeId} (hk : P.underlying tx = some .string) (l : List UInt8) : Src P 1 tx (St l) l.length (bs l) w := by
  have h := Src.ofString (P := P) (w := w) hk ⟨l.toArray⟩
  have e : byteCells ⟨l.toArray⟩ = bs l := by simp [byteCells, bs]
  rw [e] at h
  exact h
theorem conv_u8 {P : Program} {s u : TypeId} {td : TypeDesc} (h1 : P.underlying s = some td) (h2 : P.underlying u = some (.int .u8)) (n : Nat) : ConvR P s u (IN n) (.int .u8 ((Image.dig (n : Int) 0).toNat : Int)) := by
  have h := ConvR.byte (P := P) (n := (n : Int)) (i := 0) h1 h2
  rw [show ((2 ^ (8 * 0) : Nat) : Int) = 1 from rfl, Int.ediv_one] at h
  exact h
theorem From.slice {B g : Nat} {n c : Nat} (h : B ≤ g) : From B (.slice (some ⟨g, 0, none⟩) n c) := fun k hk => by cases hk; exact h
theorem ne_slice {g b : Nat} {n c : Nat} (h : b < g) : (Value.slice (some ⟨g, 0, none⟩) n c).ownBlock ≠ some b := by
  intro e
  have : g = b := by simpa [Value.ownBlock] using e
  omega
end Go.Ux
end
section
/- Bytes there and back: numbers, symbols, words, images. No program in sight. -/
namespace Go.Ux.Image
open Go Go.Ux
theorem num_cons (b : UInt8) (r : List UInt8) : num (b :: r) = b.toNat * 256 ^ r.length + num r := by
  show numFrom (0 * 256 + b.toNat) r = _
  rw [numFrom_eq, Nat.zero_mul, Nat.zero_add]
theorem dig_nat (m i : Nat) : (dig (m : Int) i).toNat = m / 256 ^ i % 256 := by
  have h := dig_val (m : Int) i
  have e : (2 : Nat) ^ (8 * i) = 256 ^ i := by rw [Nat.pow_mul]
  rw [e] at h
  have h2 : ((dig (m : Int) i).toNat : Int) = ((m / 256 ^ i % 256 : Nat) : Int) := by rw [h, Int.natCast_emod, Int.natCast_ediv]; rfl
  omega
theorem num_be (k m : Nat) : num (be k (m : Int)) = m % 256 ^ k := by
  induction k with
  | zero => simp [be, num, numFrom, Nat.mod_one]
  | succ k ih =>
    rw [be, num_cons, be_length, ih, dig_nat, Nat.pow_succ, Nat.mod_mul, Nat.mul_comm (256 ^ k)]
    omega
theorem num_be' (k : Nat) (n : Int) (h0 : 0 ≤ n) (h1 : n < ((256 ^ k : Nat) : Int)) : ((num (be k n) : Nat) : Int) = n := by
  obtain ⟨m, rfl⟩ := Int.eq_ofNat_of_zero_le h0
  rw [num_be, Nat.mod_eq_of_lt (by omega)]
theorem num_inj : ∀ (a b : List UInt8), a.length = b.length → num a = num b → a = b
  | [], [], _, _ => rfl
  | [], _ :: _, h, _ => by cases h
  | _ :: _, [], h, _ => by cases h
  | x :: a, y :: b, h, e => by
    have hl : a.length = b.length := by simpa using h
    rw [num_cons, num_cons, hl] at e
    have ha := num_lt a
    have hb := num_lt b
    rw [hl] at ha
    have hp : 0 < 256 ^ b.length := Nat.pow_pos (by decide)
    have e1 : x.toNat = y.toNat := by
      have h1 : (x.toNat * 256 ^ b.length + num a) / 256 ^ b.length = x.toNat := by rw [Nat.mul_comm, Nat.mul_add_div hp, Nat.div_eq_of_lt ha]; omega
      have h2 : (y.toNat * 256 ^ b.length + num b) / 256 ^ b.length = y.toNat := by rw [Nat.mul_comm, Nat.mul_add_div hp, Nat.div_eq_of_lt hb]; omega
      rw [e, h2] at h1; exact h1.symm
    have e2 : num a = num b := by rw [e1] at e; omega
    rw [UInt8.toNat_inj.1 e1, num_inj a b hl e2]
theorem be_num (l : List UInt8) (k : Nat) (h : l.length = k) : be k ((num l : Nat) : Int) = l := by
  subst h
  refine num_inj _ _ (be_length _ _) ?_
  rw [num_be, Nat.mod_eq_of_lt (num_lt l)]
/-- What is still to be read at symbol j; at word j. -/
def wordsT (I : Img) (j : Nat) : List UInt8 := wordsB (I.words.drop j)
def symsT (I : Img) (j : Nat) : List UInt8 := symsB (I.syms.drop j) ++ (be 4 (I.words.length : Int) ++ wordsT I 0)
theorem bytesOf_T (I : Img) : bytesOf I = magic ++ (be 4 I.entry ++ (be 2 (I.syms.length : Int) ++ symsT I 0)) := by
  simp only [bytesOf, symsT, wordsT, List.drop_zero, List.append_assoc]
theorem symsT_step (I : Img) (j : Nat) (h : j < I.syms.length) : symsT I j = be 1 ((I.syms[j]).1.length : Int) ++ ((I.syms[j]).1 ++ (be 4 (I.syms[j]).2 ++ symsT I (j + 1))) := by
  unfold symsT symsB
  rw [List.drop_eq_getElem_cons h, List.flatMap_cons]
  simp only [symB, List.append_assoc]
theorem symsT_end (I : Img) (j : Nat) (h : I.syms.length ≤ j) : symsT I j = be 4 (I.words.length : Int) ++ wordsT I 0 := by
  unfold symsT; rw [List.drop_of_length_le h]; rfl
theorem wordsT_step (I : Img) (j : Nat) (h : j < I.words.length) : wordsT I j = be 4 ((I.words[j]).toNat : Int) ++ wordsT I (j + 1) := by
  unfold wordsT wordsB
  rw [List.drop_eq_getElem_cons h, List.flatMap_cons]
theorem wordsT_end (I : Img) (j : Nat) (h : I.words.length ≤ j) : wordsT I j = [] := by
  unfold wordsT; rw [List.drop_of_length_le h]; rfl
theorem wordsT_len (I : Img) (j : Nat) (h : j ≤ I.words.length) : (wordsT I j).length = 4 * (I.words.length - j) := by
  unfold wordsT wordsB
  generalize hl : I.words.drop j = l
  have : l.length = I.words.length - j := by rw [← hl, List.length_drop]
  rw [← this]
  clear hl this
  induction l with
  | nil => rfl
  | cons a r ih => rw [List.flatMap_cons, List.length_append, be_length, ih, List.length_cons]; omega
theorem wordsB_append (a : List (BitVec 32)) (x : BitVec 32) : wordsB (a ++ [x]) = wordsB a ++ be 4 (x.toNat : Int) := by simp [wordsB]
theorem symsB_append (a : List (List UInt8 × Int)) (s : List UInt8 × Int) : symsB (a ++ [s]) = symsB a ++ symB s := by simp [symsB]
end Go.Ux.Image
end
section
/- Bytes read so far. No program in sight. -/
namespace Go.Ux.Image
open Go Go.Ux
def Pre (d L : List UInt8) (z : Int) : Prop := z = -1 ∨ ∃ a : Nat, z = (a : Int) ∧ a ≤ d.length ∧ d.take a = L
theorem Pre.range {d L : List UInt8} {z : Int} (h : Pre d L z) : -1 ≤ z ∧ z ≤ d.length := by
  rcases h with rfl | ⟨a, rfl, h, _⟩
  · omega
  · omega
theorem Pre.nat {d L : List UInt8} {z : Int} (h : Pre d L z) (h0 : 0 ≤ z) : ∃ a : Nat, z = (a : Int) ∧ a ≤ d.length ∧ d.take a = L := by
  rcases h with rfl | h
  · omega
  · exact h
theorem take_next {d L : List UInt8} {a k : Nat} (h : d.take a = L) (hk : a + k ≤ d.length) : d.take (a + k) = L ++ be k ((num ((d.drop a).take k) : Nat) : Int) := by
  rw [be_num _ k (by rw [List.length_take, List.length_drop]; omega), List.take_add, h]
theorem drop_next {d x r : List UInt8} {a k : Nat} (h : d.drop a = x ++ r) (hk : x.length = k) : d.drop (a + k) = r := by
  rw [← List.drop_drop, h, List.drop_left' hk]
theorem drop_len {d x r : List UInt8} {a : Nat} (h : d.drop a = x ++ r) (h0 : a ≤ d.length) : a + x.length ≤ d.length := by
  have := congrArg List.length h
  rw [List.length_drop, List.length_append] at this
  omega
theorem take_name {d L : List UInt8} {a m : Nat} (h : d.take a = L) : d.take (a + m) = L ++ (d.drop a).take m := by rw [List.take_add, h]
theorem name_len {d : List UInt8} {a m : Nat} (h : (m : Int) ≤ (d.length : Int) - a) : ((d.drop a).take m).length = m := by rw [List.length_take, List.length_drop]; omega
theorem magic_of {d : List UInt8} (h : 4 ≤ d.length) (e : d.take 4 = magic) : Pre d magic 4 := .inr ⟨4, rfl, h, e⟩
theorem pre_sym {d H NB : List UInt8} {m : Nat} {q z : Int} {ss : List (List UInt8 × Int)} (e : NB.length = m) (h : Pre d (H ++ symsB ss ++ be 1 (m : Int) ++ NB ++ be 4 q) z) : Pre d (H ++ symsB (ss ++ [(NB, q)])) z := by
  subst e
  rw [symsB_append]
  simpa only [symB, List.append_assoc] using h
theorem pre_word {d L : List UInt8} {c : Nat} {ww : List (BitVec 32)} (h : d.take c = L ++ wordsB ww) (hk : c + 4 ≤ d.length) : d.take (c + 4) = L ++ wordsB (ww ++ [BitVec.ofNat 32 (num ((d.drop c).take 4))]) := by
  have hn : num ((d.drop c).take 4) < 4294967296 := by
    have := num_lt ((d.drop c).take 4)
    rwa [List.length_take, List.length_drop, Nat.min_eq_left (by omega)] at this
  rw [take_next h hk, wordsB_append, BitVec.toNat_ofNat, Nat.mod_eq_of_lt (by omega), List.append_assoc]
theorem bytesOf_M (e : Int) (ss : List (List UInt8 × Int)) (ww : List (BitVec 32)) (a b : Nat) (ha : ss.length = a) (hb : ww.length = b) : bytesOf ⟨e, ss, ww⟩ = magic ++ be 4 e ++ be 2 (a : Int) ++ symsB ss ++ be 4 (b : Int) ++ wordsB ww := by
  subst ha hb; rfl
end Go.Ux.Image
namespace Go.Ux
open Go
theorem Own.lt0 {w : World} {size : Nat} {v : Value} {n : Nat} {xs : List Value} (h : Own w size v n xs) (h0 : n = 0 → v = .slice none 0 0) (hs : 0 < size) {g : Nat} (hg : v.ownBlock = some g) : g < w.heap.size := by
  by_cases e : n = 0
  · rw [h0 e] at hg; cases hg
  · exact h.lt (by omega) hs hg
section ops
variable {P : Program} {ops : Array Oper} {l : List Oper} {n : Nat} {f : Fr} {w : World} {Q : Exit → Fr → World → Prop}
variable {d : Nat} {ty : TypeId} {pos : String} {aft : Array Edge}
/-- 's[i:j]' -/
theorem WL.sliceSl {t e sz m i j : Nat} {x lo hi : Operand} {v : Value} {xs : List Value} {kd kd' : IntKind} (ht : elemT P t = some e) (hz : sizeT P e = some sz) (hx : ev f x = v) (hlo : ev f lo = .int kd (i : Int)) (hhi : ev f hi = .int kd' (j : Int)) (hij : i ≤ j) (hj : j ≤ m) (h : Sl w v sz m xs) (hd : decide (d < n) = true)
    (k : ∀ v', Sl w v' sz (j - i) ((xs.drop (i * sz)).take ((j - i) * sz)) → WL P ops l n (upd f d v') w Q) :
    WL P ops (⟨some d, .slice t x (some lo) (some hi) none, ty, pos, aft, none⟩ :: l) n f w Q := by
  obtain ⟨ao, cap, rfl, hc, hl, h0⟩ := h
  refine WL.sliceLH ht hz hx hlo hhi hij (Nat.le_trans hj hc) hd fun ao' hao => k _ ⟨ao', cap - i, rfl, by omega, ?_, ?_⟩
  · rw [List.length_take, List.length_drop, hl, ← Nat.sub_mul]
    exact Nat.min_eq_left (Nat.mul_le_mul_right _ (by omega))
  · by_cases hji : j = i
    · left; omega
    · right
      rcases h0 with h0 | ⟨b, o, rfl, hcl⟩
      · omega
      · refine ⟨b, o + i * sz, ?_, fun q u hu => ?_⟩
        · rw [hao (by omega)]; simp [addr_add]
        · rw [List.getElem?_take] at hu
          split at hu
          · rw [List.getElem?_drop] at hu
            have := hcl _ _ hu
            rwa [← Nat.add_assoc] at this
          · cases hu
end ops
end Go.Ux
end
section
/- Bytes tell the image: what begins with an image's bytes begins with no other's. No program in sight. -/
namespace Go.Ux.Image
open Go Go.Ux
theorem be_inj {k : Nat} {a b : Int} {r s : List UInt8} (h : be k a ++ r = be k b ++ s) (ha : 0 ≤ a ∧ a < ((256 ^ k : Nat) : Int)) (hb : 0 ≤ b ∧ b < ((256 ^ k : Nat) : Int)) : a = b ∧ r = s := by
  obtain ⟨h1, h2⟩ := List.append_inj h (by rw [be_length, be_length])
  refine ⟨?_, h2⟩
  rw [← num_be' k a ha.1 ha.2, ← num_be' k b hb.1 hb.2, h1]
def SymIn (s : List UInt8 × Int) : Prop := s.1.length ≤ 64 ∧ 0 ≤ s.2 ∧ s.2 < 4294967296
theorem symsB_inj : ∀ (l m : List (List UInt8 × Int)) (r s : List UInt8), l.length = m.length → (∀ x ∈ l, SymIn x) → (∀ x ∈ m, SymIn x) → symsB l ++ r = symsB m ++ s → l = m ∧ r = s
  | [], [], r, s, _, _, _, h => ⟨rfl, h⟩
  | [], _ :: _, _, _, h, _, _, _ => by cases h
  | _ :: _, [], _, _, h, _, _, _ => by cases h
  | x :: l, y :: m, r, s, hl, hx, hy, h => by
    have h1 := hx x (by simp)
    have h2 := hy y (by simp)
    obtain ⟨n, a⟩ := x
    obtain ⟨n', a'⟩ := y
    simp only [symsB, List.flatMap_cons, symB, List.append_assoc] at h
    obtain ⟨e1, h⟩ := be_inj h ⟨by omega, by have := h1.1; simp at this; omega⟩ ⟨by omega, by have := h2.1; simp at this; omega⟩
    obtain ⟨e2, h⟩ := List.append_inj h (by omega)
    obtain ⟨e3, h⟩ := be_inj h ⟨h1.2.1, h1.2.2⟩ ⟨h2.2.1, h2.2.2⟩
    obtain ⟨e4, e5⟩ := symsB_inj l m r s (by simpa using hl) (fun x h => hx x (by simp [h])) (fun x h => hy x (by simp [h])) h
    exact ⟨by rw [e2, e3, e4], e5⟩
theorem wordsB_inj : ∀ (l m : List (BitVec 32)) (r s : List UInt8), l.length = m.length → wordsB l ++ r = wordsB m ++ s → l = m ∧ r = s
  | [], [], r, s, _, h => ⟨rfl, h⟩
  | [], _ :: _, _, _, h, _ => by cases h
  | _ :: _, [], _, _, h, _ => by cases h
  | x :: l, y :: m, r, s, hl, h => by
    simp only [wordsB, List.flatMap_cons, List.append_assoc] at h
    have hx := x.isLt
    have hy := y.isLt
    obtain ⟨e1, h⟩ := be_inj h ⟨by omega, by omega⟩ ⟨by omega, by omega⟩
    obtain ⟨e4, e5⟩ := wordsB_inj l m r s (by simpa using hl) h
    have e : x = y := BitVec.eq_of_toNat_eq (by omega)
    exact ⟨by rw [e, e4], e5⟩
theorem bytes_inj {I K : Img} (hI : rightB I = true) (hK : rightB K = true) {r s : List UInt8} (h : bytesOf I ++ r = bytesOf K ++ s) : I = K ∧ r = s := by
  obtain ⟨a1, a2, a3, a4, a5, a6, a7, a8⟩ := right_bounds hI
  obtain ⟨b1, b2, b3, b4, b5, b6, b7, b8⟩ := right_bounds hK
  simp only [bytesOf, List.append_assoc] at h
  have h := List.append_cancel_left h
  obtain ⟨e1, h⟩ := be_inj h ⟨by omega, by omega⟩ ⟨by omega, by omega⟩
  obtain ⟨e2, h⟩ := be_inj h ⟨by omega, by omega⟩ ⟨by omega, by omega⟩
  obtain ⟨e3, h⟩ := symsB_inj _ _ _ _ (by omega) (fun x hx => ⟨a3 x hx, by have := a8 x hx; omega, by have := a8 x hx; omega⟩) (fun x hx => ⟨b3 x hx, by have := b8 x hx; omega, by have := b8 x hx; omega⟩) h
  obtain ⟨e4, h⟩ := be_inj h ⟨by omega, by omega⟩ ⟨by omega, by omega⟩
  obtain ⟨e5, hf⟩ := wordsB_inj _ _ _ _ (by omega) h
  obtain ⟨en, sy, wo⟩ := I
  obtain ⟨en', sy', wo'⟩ := K
  simp only at e1 e3 e5
  exact ⟨by rw [e1, e3, e5], hf⟩
theorem bytes_eq {I K : Img} (hI : rightB I = true) (hK : rightB K = true) : (bytesOf I == bytesOf K) = (I == K) := by
  rw [Bool.eq_iff_iff, beq_iff_eq, beq_iff_eq]
  refine ⟨fun h => ?_, fun h => by rw [h]⟩
  exact (bytes_inj (r := []) (s := []) hI hK (by rw [h])).1
/-- More bytes behind are no image's; fewer neither. -/
theorem bytes_more {I : Img} (hI : rightB I = true) {m : List UInt8} (hm : 0 < m.length) : ∀ K, rightB K = true → bytesOf K ≠ bytesOf I ++ m := fun K hK h => by
  have := (bytes_inj (r := []) (s := m) hK hI (by rw [List.append_nil, h])).2
  rw [← this] at hm; exact absurd hm (by decide)
theorem bytes_less {I : Img} (hI : rightB I = true) {k : Nat} (hk : k < (bytesOf I).length) : ∀ K, rightB K = true → bytesOf K ≠ (bytesOf I).take k := fun K hK h => by
  have e : bytesOf K ++ (bytesOf I).drop k = bytesOf I ++ [] := by rw [h, List.take_append_drop, List.append_nil]
  have := congrArg List.length (bytes_inj hK hI e).2
  rw [List.length_drop] at this
  simp at this; omega
theorem bytesOf_le {I : Img} (h : rightB I = true) : 14 ≤ (bytesOf I).length ∧ (bytesOf I).length ≤ 14 + 69 * I.syms.length + 4 * I.words.length := by
  obtain ⟨_, _, h3, _⟩ := right_bounds h
  have h1 := codeTo_le I I.words.length (Nat.le_refl _)
  have h2 := bytesTo_le I h3 I.syms.length (Nat.le_refl _)
  have h4 : 10 ≤ (bytesTo I I.syms.length).length := by unfold bytesTo; rw [List.length_append, headOf_length]; omega
  rw [← codeTo_all]; omega
end Go.Ux.Image
end
section
/- The walking engine: an element of an owned slice is found, and put. -/
namespace Go.Ux
open Go
theorem Own.isAt {w : World} {size : Nat} {v : Value} {n : Nat} {xs : List Value} (h : Own w size v n xs) (h0 : 0 < n) : ∃ g cap, v = .slice (some ⟨g, 0, none⟩) n cap := by
  rcases h.2 with ⟨_, h1⟩ | ⟨g, cap, h1, _⟩
  · omega
  · exact ⟨g, cap, h1⟩
theorem Own.set {w : World} {g cap n : Nat} {xs : List Value} (h : Own w 1 (.slice (some ⟨g, 0, none⟩) n cap) n xs) (i : Nat) (hi : i < n) (u : Value) :
    Own (w.setCell ⟨g, i, none⟩ u) 1 (.slice (some ⟨g, 0, none⟩) n cap) n (xs.set i u) ∧ Mod (At (.slice (some ⟨g, 0, none⟩) n cap)) w (w.setCell ⟨g, i, none⟩ u) := by
  rcases h.2 with ⟨h1, _⟩ | ⟨g', cap', h1, hn, hc, hf⟩
  · cases h1
  cases h1
  have e : w.setCell ⟨g, i, none⟩ u = w.setCells g i [u] := rfl
  have hx := h.1
  refine ⟨⟨by rw [List.length_set]; exact h.1, .inr ⟨g, cap, rfl, hn, ?_, ?_⟩⟩, (setCell_mod w g i u).imp fun k _ hk => by subst hk; rfl⟩
  · intro j u' hj
    rw [show (0 : Nat) + j = j from Nat.zero_add j]
    rw [List.getElem?_set] at hj
    by_cases hij : i = j
    · subst hij
      rw [if_pos rfl] at hj
      split at hj
      · cases hj
        rw [e]
        exact World.cell?_setCells_in g [u] i w (fun q hq => (hf _ (by simp at hq; omega)).1) 0 (by simp)
      · cases hj
    · rw [if_neg hij] at hj
      rw [e, World.cell?_setCells_out g [u] i w _ (fun _ _ => by simp; omega)]
      have := hc j u' hj
      rwa [Nat.zero_add] at this
  · intro j hj
    obtain ⟨h1, h2⟩ := hf j hj
    rw [e]
    exact ⟨World.isSome_setCells g [u] i w _ h1, by rw [World.frozen?_setCells]; exact h2⟩
theorem bs_set (l : List UInt8) (i : Nat) (b : UInt8) : (bs l).set i (.int .u8 (b.toNat : Int)) = bs (l.set i b) := by simp [bs, List.map_set]
theorem words_set (l : List (BitVec 32)) (i : Nat) (b : BitVec 32) : (Image.wordCells l).set i (U32 b) = Image.wordCells (l.set i b) := by simp [Image.wordCells, List.map_set]
theorem flip_ne (l : List UInt8) (k : Nat) (h : k < l.length) (bb : BitVec 8) : l.set k (UInt8.ofBitVec (l[k].toBitVec ^^^ (bb ||| 1#8))) ≠ l := by
  intro e
  have h1 : (l.set k (UInt8.ofBitVec (l[k].toBitVec ^^^ (bb ||| 1#8))))[k]'(by simpa using h) = l[k] := by simp only [e]
  rw [List.getElem_set_self] at h1
  have h2 := congrArg UInt8.toBitVec h1
  have h3 : l[k].toBitVec ^^^ (bb ||| 1#8) = l[k].toBitVec := h2
  have h4 := congrArg (BitVec.getLsbD · 0) h3
  simp at h4
section
variable {P : Program} {t : TypeId}
theorem ofInt8 (x : BitVec 8) : BitVec.ofInt 8 (x.toNat : Int) = x := by rw [BitVec.ofInt_natCast, BitVec.ofNat_toNat, BitVec.setWidth_eq]
theorem ofInt32 (x : BitVec 32) : BitVec.ofInt 32 (x.toNat : Int) = x := by rw [BitVec.ofInt_natCast, BitVec.ofNat_toNat, BitVec.setWidth_eq]
theorem BinR.orU8 {x y : BitVec 8} : BinR P .or t (U8 x) (U8 y) (U8 (x ||| y)) := .of_int fun w => by
  have e : Op.intBits .or .u8 (x.toNat : Int) (y.toNat : Int) = pure (.int .u8 (IntKind.u8.wrap ((x ||| y).toNat : Int))) := by unfold Op.intBits; simp only [IntKind.bits, ofInt8]; rfl
  simp only [binOp, ne_eq, not_true_eq_false, if_false, e, wrap_u8_bv, ofInt8, Sem.run_pure]
theorem BinR.xorU8 {x y : BitVec 8} : BinR P .xor t (U8 x) (U8 y) (U8 (x ^^^ y)) := .of_int fun w => by
  have e : Op.intBits .xor .u8 (x.toNat : Int) (y.toNat : Int) = pure (.int .u8 (IntKind.u8.wrap ((x ^^^ y).toNat : Int))) := by unfold Op.intBits; simp only [IntKind.bits, ofInt8]; rfl
  simp only [binOp, ne_eq, not_true_eq_false, if_false, e, wrap_u8_bv, ofInt8, Sem.run_pure]
theorem BinR.addU32 {x y : BitVec 32} : BinR P .add t (U32 x) (U32 y) (U32 (x + y)) := by
  have := BinR.add (P := P) (t := t) (k := .u32) (a := x.toNat) (b := y.toNat)
  rwa [wrap_u32_bv, BitVec.ofInt_add, ofInt32, ofInt32] at this
end
theorem Own.cellAt {w : World} {v u : Value} {g cap n i : Nat} {xs : List Value} (h : Own w 1 v n xs) (hv : v = .slice (some ⟨g, 0, none⟩) n cap) (hi : xs[i]? = some u) : w.cell? ⟨g, i, none⟩ = some u := by
  subst hv
  rcases h.2 with ⟨h3, _⟩ | ⟨g', cap', h3, hn, hc, hf⟩
  · cases h3
  cases h3
  have := hc i u hi
  rwa [Nat.zero_add] at this
section ops
variable {P : Program} {ops : Array Oper} {l : List Oper} {n : Nat} {f : Fr} {w : World} {Q : Exit → Fr → World → Prop}
variable {d : Nat} {ty : TypeId} {pos : String} {aft : Array Edge}
theorem WL.indexOwn {t e sz m i : Nat} {x y : Operand} {v : Value} {xs : List Value} {kd : IntKind} (ht : elemT P t = some e) (hz : sizeT P e = some sz) (hx : ev f x = v) (hy : ev f y = .int kd (i : Int)) (hi : i < m) (h : Own w sz v m xs) (hd : decide (d < n) = true)
    (k : ∀ g cap, v = .slice (some ⟨g, 0, none⟩) m cap → WL P ops l n (upd f d (ptr g (i * sz))) w Q) : WL P ops (⟨some d, .indexAddr t x y, ty, pos, aft, none⟩ :: l) n f w Q := by
  obtain ⟨g, cap, rfl⟩ := h.isAt (by omega)
  refine WL.indexAddr ht hz hx hy hi hd ?_
  rw [Nat.zero_add]
  exact k g cap rfl
theorem WL.indexOwn1 {t e m i : Nat} {x y : Operand} {v : Value} {xs : List Value} {kd : IntKind} (ht : elemT P t = some e) (hz : sizeT P e = some 1) (hx : ev f x = v) (hy : ev f y = .int kd (i : Int)) (hi : i < m) (h : Own w 1 v m xs) (hd : decide (d < n) = true)
    (k : ∀ g cap, v = .slice (some ⟨g, 0, none⟩) m cap → WL P ops l n (upd f d (ptr g i)) w Q) : WL P ops (⟨some d, .indexAddr t x y, ty, pos, aft, none⟩ :: l) n f w Q :=
  WL.indexOwn ht hz hx hy hi h hd fun g cap e => by rw [Nat.mul_one]; exact k g cap e
theorem WL.storeOwn {t m i g cap : Nat} {x y : Operand} {v u : Value} {xs : List Value} (hx : ev f x = ptr g i) (hy : ev f y = u) (hu : u.oneCell' = true) (hz : sizeT P t = some 1) (h : Own w 1 v m xs) (hv : v = .slice (some ⟨g, 0, none⟩) m cap) (hi : i < m)
    (k : ∀ w', Own w' 1 v m (xs.set i u) → Mod (At v) w w' → WL P ops l n f w' Q) : WL P ops (⟨none, .store t x y, ty, pos, aft, none⟩ :: l) n f w Q := by
  subst hv
  obtain ⟨h1, h2⟩ := h.set i hi u
  have hxl := h.1
  rcases h.2 with ⟨h3, _⟩ | ⟨g', cap', h3, hn, hc, hf⟩
  · cases h3
  cases h3
  refine WL.store1 hx hy hu hz (u := xs[i]'(by omega)) ?_ (hf i (by omega)).2 (k _ h1 h2)
  have := hc i _ (List.getElem?_eq_getElem (show i < xs.length by omega))
  rwa [Nat.zero_add] at this
end ops
end Go.Ux
namespace Go.Ux.Image
open Go Go.Ux
theorem bump_ne (l : List (BitVec 32)) (h : 0 < l.length) : l.set 0 (l[0] + 1#32) ≠ l := by
  intro e
  have h1 : (l.set 0 (l[0] + 1#32))[0]'(by simpa using h) = l[0] := by simp only [e]
  rw [List.getElem_set_self] at h1
  have h2 := congrArg BitVec.toNat h1
  have h3 := (l[0]).isLt
  rw [BitVec.toNat_add] at h2
  simp at h2
  omega
end Go.Ux.Image
namespace Go.Ux
open Go
section
variable {P : Program} {ops : Array Oper} {l : List Oper} {n : Nat} {f : Fr} {w : World} {Q : Exit → Fr → World → Prop}
variable {d : Nat} {ty : TypeId} {pos : String} {aft : Array Edge}
theorem conv_bytes_lt {s u e : TypeId} (hs : P.underlying s = some .string) (hd : P.underlying u = some (.slice e)) (he : P.underlying e = some (.int .u8)) (w : World) (l : List UInt8) {v' : Value} {w' : World} (h : (convert s u (St l)).run P w = .ok v' w') :
    ∀ g, v'.ownBlock = some g → g < w'.heap.size := by
  have hr := run_bytes_of_string (P := P) w s u e ⟨l.toArray⟩ hs hd he
  have h2 := hr.symm.trans h
  cases h2
  intro g hg
  simp only [Value.ownBlock, Option.some.injEq] at hg
  subst hg
  simp
theorem WL.toBytes2 {s u e : TypeId} {x : Operand} {bl : List UInt8} (hs : P.underlying s = some .string) (hu : P.underlying u = some (.slice e)) (he : P.underlying e = some (.int .u8)) (hx : ev f x = St bl) (hd : decide (d < n) = true)
    (k : ∀ v' w', Own w' 1 v' bl.length (bs bl) → Ext w w' → From w.heap.size v' → (∀ g, v'.ownBlock = some g → g < w'.heap.size) → WL P ops l n (upd f d v') w' Q) : WL P ops (⟨some d, .convert s u x, ty, pos, aft, none⟩ :: l) n f w Q := by
  obtain ⟨v', w', hr, h1, h2, h3, _⟩ := conv_bytes hs hu he w bl
  exact WL.val rfl hd (v := v') (w' := w') (by simp only [execOp, hx]; rw [Sem.run_bind, hr]; simp [Result.andThen]) (k v' w' h1 h2 h3 (conv_bytes_lt hs hu he w bl hr))
end
end Go.Ux
end
section
/- The walking engine: numbers of 32 and of 8 bits; more conversions. No program in sight. -/
namespace Go.Ux
open Go
variable {P : Program} {t : TypeId}
theorem BinR.andU32 {x y : BitVec 32} : BinR P .and t (U32 x) (U32 y) (U32 (x &&& y)) := .of_int fun w => by
  have e : Op.intBits .and .u32 (x.toNat : Int) (y.toNat : Int) = pure (.int .u32 (IntKind.u32.wrap ((x &&& y).toNat : Int))) := by unfold Op.intBits; simp only [IntKind.bits, ofInt32]; rfl
  simp only [binOp, ne_eq, not_true_eq_false, if_false, e, wrap_u32_bv, ofInt32, Sem.run_pure]
theorem BinR.orU32 {x y : BitVec 32} : BinR P .or t (U32 x) (U32 y) (U32 (x ||| y)) := .of_int fun w => by
  have e : Op.intBits .or .u32 (x.toNat : Int) (y.toNat : Int) = pure (.int .u32 (IntKind.u32.wrap ((x ||| y).toNat : Int))) := by unfold Op.intBits; simp only [IntKind.bits, ofInt32]; rfl
  simp only [binOp, ne_eq, not_true_eq_false, if_false, e, wrap_u32_bv, ofInt32, Sem.run_pure]
theorem BinR.subU32 {x y : BitVec 32} : BinR P .sub t (U32 x) (U32 y) (U32 (x - y)) := by
  have := BinR.sub (P := P) (t := t) (k := .u32) (a := x.toNat) (b := y.toNat)
  rw [wrap_u32_bv] at this
  have e : BitVec.ofInt 32 ((x.toNat : Int) - y.toNat) = x - y := by rw [Int.sub_eq_add_neg, BitVec.ofInt_add, BitVec.ofInt_neg, ofInt32, ofInt32, BitVec.sub_eq_add_neg]
  rwa [e] at this
theorem BinR.subU8 {x y : BitVec 8} : BinR P .sub t (U8 x) (U8 y) (U8 (x - y)) := by
  have := BinR.sub (P := P) (t := t) (k := .u8) (a := x.toNat) (b := y.toNat)
  rw [wrap_u8_bv] at this
  have e : BitVec.ofInt 8 ((x.toNat : Int) - y.toNat) = x - y := by rw [Int.sub_eq_add_neg, BitVec.ofInt_add, BitVec.ofInt_neg, ofInt8, ofInt8, BitVec.sub_eq_add_neg]
  rwa [e] at this
theorem BinR.addU8 {x y : BitVec 8} : BinR P .add t (U8 x) (U8 y) (U8 (x + y)) := by
  have := BinR.add (P := P) (t := t) (k := .u8) (a := x.toNat) (b := y.toNat)
  rwa [wrap_u8_bv, BitVec.ofInt_add, ofInt8, ofInt8] at this
theorem shl32_min (x : BitVec 32) (s : Nat) : BitVec.ofInt 32 ((x.toNat : Int) * 2 ^ min s 32) = x <<< s := by
  rw [BitVec.ofInt_mul, ofInt32]
  have e : BitVec.ofInt 32 (2 ^ min s 32 : Int) = BitVec.ofNat 32 (2 ^ min s 32) := by
    have : (2 ^ min s 32 : Int) = ((2 ^ min s 32 : Nat) : Int) := by norm_cast
    rw [this, BitVec.ofInt_natCast]
  rw [e]
  apply BitVec.eq_of_toNat_eq
  simp only [BitVec.toNat_mul, BitVec.toNat_ofNat, BitVec.toNat_shiftLeft, Nat.shiftLeft_eq, Nat.mul_mod_mod]
  by_cases h : s ≤ 32
  · rw [Nat.min_eq_left h]
  · rw [Nat.min_eq_right (by omega)]
    have : x.toNat * 2 ^ s = x.toNat * 2 ^ (s - 32) * 2 ^ 32 := by rw [Nat.mul_assoc, ← Nat.pow_add]; congr 2; omega
    rw [this]; simp
theorem BinR.shlU32 {x : BitVec 32} {yk : IntKind} {s : Nat} : BinR P .shl t (U32 x) (.int yk (s : Int)) (U32 (x <<< s)) := .of_int fun w => by
  have h0 : ¬ ((s : Int) < 0) := by omega
  simp only [binOp, Op.shift, if_neg h0, Int.toNat_natCast, IntKind.bits, Sem.run_pure, wrap_u32_bv, shl32_min]
theorem BinR.shrU32 {x : BitVec 32} {yk : IntKind} {s : Nat} : BinR P .shr t (U32 x) (.int yk (s : Int)) (U32 (x >>> s)) := .of_int fun w => by
  have h0 : ¬ ((s : Int) < 0) := by omega
  have e : (x.toNat : Int).fdiv (2 ^ min s 32) = ((x >>> s).toNat : Int) := by
    rw [Int.fdiv_eq_ediv_of_nonneg _ (Int.pow_nonneg (by decide)), BitVec.toNat_ushiftRight, Nat.shiftRight_eq_div_pow]
    by_cases h : s ≤ 32
    · rw [Nat.min_eq_left h]; norm_cast
    · rw [Nat.min_eq_right (by omega)]
      have h1 : x.toNat / 2 ^ s = 0 := Nat.div_eq_of_lt (Nat.lt_of_lt_of_le x.isLt (Nat.pow_le_pow_right (by decide) (by omega)))
      rw [h1]
      have := x.isLt
      omega
  simp only [binOp, Op.shift, if_neg h0, Int.toNat_natCast, IntKind.bits, Sem.run_pure, e]
theorem beqNat {n : Nat} (x y : BitVec n) : (((x.toNat : Nat) : Int) == ((y.toNat : Nat) : Int)) = (x == y) := by
  rw [Bool.eq_iff_iff, beq_iff_eq, beq_iff_eq]
  exact ⟨fun h => BitVec.eq_of_toNat_eq (by omega), fun h => by rw [h]⟩
theorem BinR.eqlU32 {x y : BitVec 32} : BinR P .eql t (U32 x) (U32 y) (.bool (x == y)) := by have := BinR.eql (P := P) (t := t) (k := .u32) (a := x.toNat) (b := y.toNat); rwa [beqNat] at this
theorem BinR.neqU32 {x y : BitVec 32} : BinR P .neq t (U32 x) (U32 y) (.bool (x != y)) := by have := BinR.neq (P := P) (t := t) (k := .u32) (a := x.toNat) (b := y.toNat); rwa [bne, beqNat] at this
theorem BinR.eqlU8 {x y : BitVec 8} : BinR P .eql t (U8 x) (U8 y) (.bool (x == y)) := by have := BinR.eql (P := P) (t := t) (k := .u8) (a := x.toNat) (b := y.toNat); rwa [beqNat] at this
theorem BinR.neqU8 {x y : BitVec 8} : BinR P .neq t (U8 x) (U8 y) (.bool (x != y)) := by have := BinR.neq (P := P) (t := t) (k := .u8) (a := x.toNat) (b := y.toNat); rwa [bne, beqNat] at this
theorem ultNat {n : Nat} (x y : BitVec n) : decide ((x.toNat : Int) < (y.toNat : Int)) = BitVec.ult x y := by
  rw [Bool.eq_iff_iff, decide_eq_true_eq, BitVec.ult_eq_decide, decide_eq_true_eq]; omega
theorem uleNat {n : Nat} (x y : BitVec n) : decide ((x.toNat : Int) ≤ (y.toNat : Int)) = BitVec.ule x y := by
  rw [Bool.eq_iff_iff, decide_eq_true_eq, BitVec.ule_eq_decide, decide_eq_true_eq]; omega
theorem BinR.lssU8 {x y : BitVec 8} : BinR P .lss t (U8 x) (U8 y) (.bool (BitVec.ult x y)) := by have := BinR.lss (P := P) (t := t) (k := .u8) (a := x.toNat) (b := y.toNat); rwa [ultNat] at this
theorem BinR.gtrU8 {x y : BitVec 8} : BinR P .gtr t (U8 x) (U8 y) (.bool (BitVec.ult y x)) := by have := BinR.gtr (P := P) (t := t) (k := .u8) (a := x.toNat) (b := y.toNat); rwa [ultNat] at this
theorem BinR.leqU8 {x y : BitVec 8} : BinR P .leq t (U8 x) (U8 y) (.bool (BitVec.ule x y)) := by have := BinR.leq (P := P) (t := t) (k := .u8) (a := x.toNat) (b := y.toNat); rwa [uleNat] at this
theorem BinR.geqU8 {x y : BitVec 8} : BinR P .geq t (U8 x) (U8 y) (.bool (BitVec.ule y x)) := by have := BinR.geq (P := P) (t := t) (k := .u8) (a := x.toNat) (b := y.toNat); rwa [uleNat] at this
theorem BinR.leqU64 {x y : BitVec 64} : BinR P .leq t (U64 x) (U64 y) (.bool (BitVec.ule x y)) := by have := BinR.leq (P := P) (t := t) (k := .u64) (a := x.toNat) (b := y.toNat); rwa [uleNat] at this
theorem BinR.geqU64 {x y : BitVec 64} : BinR P .geq t (U64 x) (U64 y) (.bool (BitVec.ule y x)) := by have := BinR.geq (P := P) (t := t) (k := .u64) (a := x.toNat) (b := y.toNat); rwa [uleNat] at this
/-! ### conversions -/
theorem wrap_u64_bv' (n : Int) : IntKind.u64.wrap n = ((BitVec.ofInt 64 n).toNat : Int) := wrap_u64_bv n
theorem toInt_setWidth (x : BitVec 32) : (x.setWidth 64).toInt = (x.toNat : Int) := by
  have := x.isLt
  rw [BitVec.toInt_eq_toNat_cond, BitVec.toNat_setWidth, Nat.mod_eq_of_lt (by omega), if_pos (by omega)]
section
variable {s u : TypeId} {td : TypeDesc} (h1 : P.underlying s = some td)
include h1
theorem ConvR.u8u32 (h2 : P.underlying u = some (.int .u32)) {x : BitVec 8} : ConvR P s u (U8 x) (U32 (x.setWidth 32)) := by
  have h := ConvR.int (P := P) (k := .u8) (a := x.toNat) h1 h2
  rwa [wrap_u32_bv, BitVec.ofInt_natCast, BitVec.ofNat_toNat] at h
theorem ConvR.u32u8 (h2 : P.underlying u = some (.int .u8)) {x : BitVec 32} : ConvR P s u (U32 x) (U8 (x.setWidth 8)) := by
  have h := ConvR.int (P := P) (k := .u32) (a := x.toNat) h1 h2
  rwa [wrap_u8_bv, BitVec.ofInt_natCast, BitVec.ofNat_toNat] at h
theorem ConvR.u64u8 (h2 : P.underlying u = some (.int .u8)) {x : BitVec 64} : ConvR P s u (U64 x) (U8 (x.setWidth 8)) := by
  have h := ConvR.int (P := P) (k := .u64) (a := x.toNat) h1 h2
  rwa [wrap_u8_bv, BitVec.ofInt_natCast, BitVec.ofNat_toNat] at h
theorem ConvR.u8u64 (h2 : P.underlying u = some (.int .u64)) {x : BitVec 8} : ConvR P s u (U8 x) (U64 (x.setWidth 64)) := by
  have h := ConvR.int (P := P) (k := .u8) (a := x.toNat) h1 h2
  rwa [wrap_u64_bv, BitVec.ofInt_natCast, BitVec.ofNat_toNat] at h
theorem ConvR.nu8 (h2 : P.underlying u = some (.int .u8)) {n : Nat} : ConvR P s u (IN n) (U8 (BitVec.ofNat 8 n)) := by
  have h := ConvR.int (P := P) (k := .i64) (a := n) h1 h2
  rwa [wrap_u8_bv, BitVec.ofInt_natCast] at h
theorem ConvR.nu64 (h2 : P.underlying u = some (.int .u64)) {n : Nat} : ConvR P s u (IN n) (U64 (BitVec.ofNat 64 n)) := by
  have h := ConvR.int (P := P) (k := .i64) (a := n) h1 h2
  rwa [wrap_u64_bv, BitVec.ofInt_natCast] at h
theorem ConvR.i64u32 (h2 : P.underlying u = some (.int .u32)) {x : BitVec 64} : ConvR P s u (I64 x) (U32 (x.signExtend 32)) := by
  have h := ConvR.int (P := P) (k := .i64) (a := x.toInt) h1 h2
  rwa [wrap_u32_bv] at h
theorem ConvR.u32i64 (h2 : P.underlying u = some (.int .i64)) {x : BitVec 32} : ConvR P s u (U32 x) (I64 (x.setWidth 64)) := by
  have h := ConvR.toI (P := P) (k := .u32) (a := x.toNat) h1 h2 (by have := x.isLt; omega)
  have e : Value.int .i64 (x.toNat : Int) = I64 (x.setWidth 64) := congrArg (Value.int .i64) (toInt_setWidth x).symm
  exact e ▸ h
theorem ConvR.u8n (h2 : P.underlying u = some (.int .i64)) {x : BitVec 8} : ConvR P s u (U8 x) (IN x.toNat) := ConvR.toI h1 h2 (by have := x.isLt; omega)
end
end Go.Ux
end
section
/- Instructions of RV64IM as the program has them: the table, a word's instruction, an instruction's word. No program in sight. -/
namespace Go.Ux.Mach
open Go Go.Ux
structure RvForm where
  rd : Bool
  rs1 : Bool
  rs2 : Bool
  imm : List (Nat × Nat)
  noughts : Nat
  signed : Bool
  mask : BitVec 32
deriving DecidableEq
structure RvInst where
  op : BitVec 8
  rd : BitVec 8
  rs1 : BitVec 8
  rs2 : BitVec 8
  imm : BitVec 64
deriving DecidableEq
def bitsOf (b : Nat × Nat) (w : BitVec 32) : BitVec 32 := (w >>> b.1) &&& ((1#32 <<< b.2) - 1#32)
def widthL (n : Nat) (l : List (Nat × Nat)) : Nat := l.foldl (fun n b => n + b.2) n
def width (f : RvForm) : Nat := widthL f.noughts f.imm
def numberL (n : BitVec 64) (l : List (Nat × Nat)) (w : BitVec 32) : BitVec 64 := l.foldl (fun n b => (n <<< b.2) ||| (bitsOf b w).setWidth 64) n
def number (f : RvForm) (w : BitVec 32) : BitVec 64 :=
  let n := numberL 0#64 f.imm w <<< f.noughts
  if f.signed then BitVec.sshiftRight (n <<< (64 - width f)) (64 - width f) else n
def tog (l : List (BitVec 32)) : BitVec 32 := l.foldl (· ||| ·) 0#32
def zeroForm : RvForm := ⟨false, false, false, [], 0, false, 0⟩
inductive FK where | R | I | H | W | S | B | U | J | E | Z
deriving DecidableEq
def formOf : FK → RvForm
  | .R => ⟨true, true, true, [], 0, false, 4261441663⟩
  | .I => ⟨true, true, false, [(20, 12)], 0, true, 28799⟩
  | .H => ⟨true, true, false, [(20, 6)], 0, false, 4227887231⟩
  | .W => ⟨true, true, false, [(20, 5)], 0, false, 4261441663⟩
  | .S => ⟨false, true, true, [(25, 7), (7, 5)], 0, true, 28799⟩
  | .B => ⟨false, true, true, [(31, 1), (7, 1), (25, 6), (8, 4)], 1, true, 28799⟩
  | .U => ⟨true, false, false, [(12, 20)], 12, true, 127⟩
  | .J => ⟨true, false, false, [(31, 1), (12, 8), (20, 1), (21, 10)], 1, true, 127⟩
  | .E => ⟨false, false, false, [], 0, false, 4294967295⟩
  | .Z => zeroForm
structure RvRow where
  k : FK
  name : List UInt8
  mtch : BitVec 32
deriving DecidableEq
def RvRow.form (r : RvRow) : RvForm := formOf r.k
def tellsD (k : FK) (name : List UInt8) (a b c : BitVec 32) : RvRow := ⟨k, name, tog [a, b <<< 12, c <<< 25]⟩
def zeroRow : RvRow := ⟨.Z, [], 0⟩
def tableD : List RvRow := [zeroRow,
  tellsD .U [108, 117, 105] 55 0 0,
  tellsD .U [97, 117, 105, 112, 99] 23 0 0,
  tellsD .J [106, 97, 108] 111 0 0,
  tellsD .I [106, 97, 108, 114] 103 0 0,
  tellsD .B [98, 101, 113] 99 0 0,
  tellsD .B [98, 110, 101] 99 1 0,
  tellsD .B [98, 108, 116] 99 4 0,
  tellsD .B [98, 103, 101] 99 5 0,
  tellsD .B [98, 108, 116, 117] 99 6 0,
  tellsD .B [98, 103, 101, 117] 99 7 0,
  tellsD .I [108, 98] 3 0 0,
  tellsD .I [108, 104] 3 1 0,
  tellsD .I [108, 119] 3 2 0,
  tellsD .I [108, 100] 3 3 0,
  tellsD .I [108, 98, 117] 3 4 0,
  tellsD .I [108, 104, 117] 3 5 0,
  tellsD .I [108, 119, 117] 3 6 0,
  tellsD .S [115, 98] 35 0 0,
  tellsD .S [115, 104] 35 1 0,
  tellsD .S [115, 119] 35 2 0,
  tellsD .S [115, 100] 35 3 0,
  tellsD .I [97, 100, 100, 105] 19 0 0,
  tellsD .I [115, 108, 116, 105] 19 2 0,
  tellsD .I [115, 108, 116, 105, 117] 19 3 0,
  tellsD .I [120, 111, 114, 105] 19 4 0,
  tellsD .I [111, 114, 105] 19 6 0,
  tellsD .I [97, 110, 100, 105] 19 7 0,
  tellsD .H [115, 108, 108, 105] 19 1 0,
  tellsD .H [115, 114, 108, 105] 19 5 0,
  tellsD .H [115, 114, 97, 105] 19 5 32,
  tellsD .R [97, 100, 100] 51 0 0,
  tellsD .R [115, 117, 98] 51 0 32,
  tellsD .R [115, 108, 108] 51 1 0,
  tellsD .R [115, 108, 116] 51 2 0,
  tellsD .R [115, 108, 116, 117] 51 3 0,
  tellsD .R [120, 111, 114] 51 4 0,
  tellsD .R [115, 114, 108] 51 5 0,
  tellsD .R [115, 114, 97] 51 5 32,
  tellsD .R [111, 114] 51 6 0,
  tellsD .R [97, 110, 100] 51 7 0,
  tellsD .I [97, 100, 100, 105, 119] 27 0 0,
  tellsD .W [115, 108, 108, 105, 119] 27 1 0,
  tellsD .W [115, 114, 108, 105, 119] 27 5 0,
  tellsD .W [115, 114, 97, 105, 119] 27 5 32,
  tellsD .R [97, 100, 100, 119] 59 0 0,
  tellsD .R [115, 117, 98, 119] 59 0 32,
  tellsD .R [115, 108, 108, 119] 59 1 0,
  tellsD .R [115, 114, 108, 119] 59 5 0,
  tellsD .R [115, 114, 97, 119] 59 5 32,
  tellsD .R [109, 117, 108] 51 0 1,
  tellsD .R [109, 117, 108, 104] 51 1 1,
  tellsD .R [109, 117, 108, 104, 115, 117] 51 2 1,
  tellsD .R [109, 117, 108, 104, 117] 51 3 1,
  tellsD .R [100, 105, 118] 51 4 1,
  tellsD .R [100, 105, 118, 117] 51 5 1,
  tellsD .R [114, 101, 109] 51 6 1,
  tellsD .R [114, 101, 109, 117] 51 7 1,
  tellsD .R [109, 117, 108, 119] 59 0 1,
  tellsD .R [100, 105, 118, 119] 59 4 1,
  tellsD .R [100, 105, 118, 117, 119] 59 5 1,
  tellsD .R [114, 101, 109, 119] 59 6 1,
  tellsD .R [114, 101, 109, 117, 119] 59 7 1,
  tellsD .I [102, 101, 110, 99, 101] 15 0 0,
  tellsD .E [101, 99, 97, 108, 108] 115 0 0,
  tellsD .E [101, 98, 114, 101, 97, 107] 1048691 0 0]
/-- Cells. -/
def bitsCells (l : List (Nat × Nat)) : List Value := l.flatMap fun p => [IN p.1, IN p.2]
def formCells (v : Value) (f : RvForm) : List Value := [.bool f.rd, .bool f.rs1, .bool f.rs2, v, IN f.noughts, .bool f.signed, U32 f.mask]
def rowCells (iv : FK → Value) (r : RvRow) : List Value := formCells (iv r.k) (formOf r.k) ++ [St r.name, U32 r.mtch]
def rowVal (iv : Value) (r : RvRow) : Value := .agg (rowCells (fun _ => iv) r).toArray
theorem bitsCells_length (l : List (Nat × Nat)) : (bitsCells l).length = l.length * 2 := by
  induction l with
  | nil => rfl
  | cons a r ih => simp only [bitsCells, List.flatMap_cons, List.length_append, List.length_cons, List.length_nil] at ih ⊢; omega
theorem bitsCells_get (l : List (Nat × Nat)) (i : Nat) (h : i < l.length) : (bitsCells l)[i * 2]? = some (IN l[i].1) ∧ (bitsCells l)[i * 2 + 1]? = some (IN l[i].2) := by
  induction l generalizing i with
  | nil => simp at h
  | cons a r ih =>
    cases i with
    | zero => exact ⟨rfl, rfl⟩
    | succ i =>
      have := ih i (by simpa using h)
      simp only [List.getElem_cons_succ]
      rw [show (i + 1) * 2 = i * 2 + 2 by omega, show i * 2 + 2 + 1 = (i * 2 + 1) + 2 by omega]
      exact this
/-- A form whose shifts are small. -/
def Fine (f : RvForm) : Prop := f.imm.length ≤ 4 ∧ (∀ b ∈ f.imm, b.1 ≤ 31 ∧ b.2 ≤ 20) ∧ f.noughts ≤ 12 ∧ width f ≤ 32
instance (f : RvForm) : Decidable (Fine f) := by unfold Fine; infer_instance
theorem formOf_fine (k : FK) : Fine (formOf k) := by cases k <;> decide
theorem widthL_le (n : Nat) (l : List (Nat × Nat)) : n ≤ widthL n l := by
  induction l generalizing n with
  | nil => exact Nat.le_refl _
  | cons a r ih => exact Nat.le_trans (by omega) (ih (n + a.2))
theorem width_take (f : RvForm) (j : Nat) (h : j < f.imm.length) : widthL f.noughts (f.imm.take (j + 1)) = widthL f.noughts (f.imm.take j) + (f.imm[j]).2 := by
  unfold widthL
  rw [List.take_succ_eq_append_getElem h, List.foldl_append]; rfl
theorem width_take_le (f : RvForm) (j : Nat) : widthL f.noughts (f.imm.take j) ≤ width f := by
  have e : width f = widthL (widthL f.noughts (f.imm.take j)) (f.imm.drop j) := by
    unfold width widthL; rw [← List.foldl_append, List.take_append_drop]
  rw [e]; exact widthL_le _ _
theorem number_take (f : RvForm) (w : BitVec 32) (j : Nat) (h : j < f.imm.length) : numberL 0#64 (f.imm.take (j + 1)) w = (numberL 0#64 (f.imm.take j) w <<< (f.imm[j]).2) ||| (bitsOf f.imm[j] w).setWidth 64 := by
  unfold numberL
  rw [List.take_succ_eq_append_getElem h, List.foldl_append]; rfl
theorem tog_take (l : List (BitVec 32)) (j : Nat) (h : j < l.length) : tog (l.take (j + 1)) = tog (l.take j) ||| l[j] := by
  unfold tog
  rw [List.take_succ_eq_append_getElem h, List.foldl_append]; rfl
theorem ones_row {iv : Value} (h : iv.oneCell' = true) (p q r : Bool) (n : Nat) (g : Bool) (m : BitVec 32) (nm : List UInt8) (t : BitVec 32) :
    (Value.agg #[.bool p, .bool q, .bool r, iv, IN n, .bool g, U32 m, St nm, U32 t]).cells.toList.all (fun u => u.oneCell') = true := by simp only [Value.cells, List.all_cons, List.all_nil, h]; rfl
theorem ones_form {iv : Value} (h : iv.oneCell' = true) (p q r : Bool) (n : Nat) (g : Bool) (m : BitVec 32) :
    (Value.agg #[.bool p, .bool q, .bool r, iv, IN n, .bool g, U32 m]).cells.toList.all (fun u => u.oneCell') = true := by simp only [Value.cells, List.all_cons, List.all_nil, h]; rfl
theorem tableD_length : tableD.length = 66 := rfl
def rvAt (i : Nat) : RvRow := tableD.getD i zeroRow
theorem rvAt_eq (i : Nat) (h : i < tableD.length) : tableD[i] = rvAt i := by unfold rvAt; rw [List.getD, List.getElem?_eq_getElem h]; rfl
end Go.Ux.Mach
namespace Go.Ux
open Go
section
variable {P : Program} {ops : Array Oper} {l : List Oper} {n : Nat} {f : Fr} {w : World} {Q : Exit → Fr → World → Prop}
variable {d : Nat} {ty : TypeId} {pos : String} {aft : Array Edge}
/-- 'a[:]' of an array that lies at a pointer. -/
theorem WL.sliceArr {t e sz m : Nat} {x : Operand} {b : Nat} (ht : arrT P t = some (m, e)) (hz : sizeT P e = some sz) (hx : ev f x = ptr b 0) (hd : decide (d < n) = true)
    (k : WL P ops l n (upd f d (.slice (some ⟨b, 0, none⟩) m m)) w Q) : WL P ops (⟨some d, .slice t x none none none, ty, pos, aft, none⟩ :: l) n f w Q := by
  refine WL.val rfl hd (v := .slice (some ⟨b, 0, none⟩) m m) (w' := w) ?_ k
  unfold arrT at ht
  split at ht <;> try cases ht
  rename_i hu
  have e : ((⟨b, 0, none⟩ : Addr).add 0) = ⟨b, 0, none⟩ := by simp [Addr.add]
  simp [execOp, hx, Instr.sliceAt, run_underlying hu, Instr.sureAddr, Instr.sliceBounds, Instr.sliceBound, sizeT_run hz, Result.andThen, e]
end
/-- A region's operations, by its number. -/
def findRegion (id : Nat) : Code → List Oper
  | .region i ops _ => if i = id then ops.toList else []
  | .seq a b => findRegion id a ++ findRegion id b
  | .cond _ a b => findRegion id a ++ findRegion id b
  | .block _ a => findRegion id a
  | .loop a => findRegion id a
  | _ => []
def regionIn (fn : Func) (id : Nat) : List Oper := match fn.body with
  | some c => findRegion id c
  | none => []
end Go.Ux
end
