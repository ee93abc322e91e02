/- The walking engine: strings and bytes; tests of strings and of structs; maps from strings to counts; pointers that are not nil. -/
import Derived.Laws.IdiomStrings
import Derived.Lib.BufferRead
import Derived.Lib.SlBytesConst
import Derived.WideMake
import Derived.Test.YtljcijdkoncodaaUxApp
namespace Go.Ux
open Go

/-- Bytes as cells; bytes as a string. -/
def bs (l : List UInt8) : List Value := l.map fun b => Value.int .u8 (b.toNat : Int)
def St (l : List UInt8) : Value := .string ⟨l.toArray⟩
theorem bs_length (l : List UInt8) : (bs l).length = l.length := by simp [bs]
theorem bs_append (a b : List UInt8) : bs (a ++ b) = bs a ++ bs b := by simp [bs]
theorem bs_one (l : List UInt8) : ∀ u ∈ bs l, u.oneCell' = true := by
  intro u hu; simp only [bs, List.mem_map] at hu; obtain ⟨b, _, rfl⟩ := hu; rfl
theorem bs_inj {a b : List UInt8} (h : bs a = bs b) : a = b := by
  induction a generalizing b with
  | nil => cases b with
    | nil => rfl
    | cons y t => simp [bs] at h
  | cons x s ih => cases b with
    | nil => simp [bs] at h
    | cons y t =>
      simp only [bs, List.map_cons, List.cons.injEq, Value.int.injEq, true_and] at h
      have h1 : x = y := UInt8.toNat_inj.1 (by omega)
      rw [h1, ih h.2]
theorem bs_get (l : List UInt8) (j : Nat) (h : j < l.length) : (bs l)[j]? = some (.int .u8 (l[j].toNat : Int)) := by simp [bs, h]
theorem St_str (s : ByteArray) : (.string s : Value) = St s.data.toList := by simp [St]

section
variable {P : Program} {t : TypeId}

theorem bytesEq (a b : List UInt8) : ((⟨a.toArray⟩ : ByteArray) == ⟨b.toArray⟩) = (a == b) := by
  show (a.toArray == b.toArray) = (a == b)
  simp
theorem BinR.eqlS {a b : List UInt8} : BinR P .eql t (St a) (St b) (.bool (a == b)) := fun x y w => by
  simp [eqGuard, binOp, St, Op.stringOp, ByteArray.toList_eq]
theorem BinR.neqS {a b : List UInt8} : BinR P .neq t (St a) (St b) (.bool (a != b)) := fun x y w => by
  simp [eqGuard, binOp, St, Op.stringOp, bne, ByteArray.toList_eq]

/-- string(b) -/
theorem ConvR.toString {s u e : TypeId} (hs : P.underlying s = some (.slice e)) (he : P.underlying e = some (.int .u8)) (hd : P.underlying u = some .string) {w : World} {v : Value} {n : Nat} {l : List UInt8} (h : Sl w v 1 n (bs l)) :
    (convert s u v).run P w = .ok (St l) w := by
  obtain ⟨ao, cap, rfl, hn, hl, h0⟩ := h
  have hl' : l.length = n := by rw [bs_length] at hl; omega
  subst hl'
  cases ao with
  | none =>
    have hn0 : l.length = 0 := by
      rcases h0 with h0 | ⟨b, o, h, _⟩
      · exact h0
      · cases h
    have : l = [] := List.eq_nil_of_length_eq_zero hn0
    subst this
    exact Go.Lib.run_convert_nil_bytes w s u e cap hs he hd
  | some a =>
    refine run_convert_bytes_back w s u e a cap l hs he hd fun j hj => ?_
    rcases h0 with h0 | ⟨b, o, h, hc⟩
    · omega
    · cases h
      rw [addr_add]
      exact hc j _ (bs_get l j hj)

theorem bytesRow_bs (l : List UInt8) (cap : Nat) : bytesRow ⟨l.toArray⟩ cap = ((bs l).toArray ++ Array.replicate (cap - l.length) (.int .u8 0)) := by
  simp only [bytesRow, bs]
  congr 1
  apply Array.ext'
  simp

theorem frozen_alloc_mark (w : World) (C : Array Value) (t : TypeId) (fr : Nat × Nat) (j : Nat) : (w.alloc (.cells C t fr)).frozen? ⟨w.heap.size, j, none⟩ = (decide (fr.1 ≤ j) && decide (j < fr.2)) := by
  have : (w.alloc (.cells C t fr)).heap[w.heap.size]? = some (.cells C t fr) := heap_alloc_new w _
  unfold World.frozen?
  rw [this]
/-- []byte(s) -/
theorem conv_bytes {s u e : TypeId} (hs : P.underlying s = some .string) (hd : P.underlying u = some (.slice e)) (he : P.underlying e = some (.int .u8)) (w : World) (l : List UInt8) :
    ∃ v' w', (convert s u (St l)).run P w = .ok v' w' ∧ Own w' 1 v' l.length (bs l) ∧ Ext w w' ∧ From w.heap.size v' ∧ w'.heap.size = w.heap.size + 1 := by
  have hr := run_bytes_of_string (P := P) w s u e ⟨l.toArray⟩ hs hd he
  have hge := grownCap_ge w l.length 0 e
  have hsz : (⟨l.toArray⟩ : ByteArray).size = l.length := by simp [ByteArray.size]
  rw [bytesRow_bs, hsz] at hr
  have hcs : ((bs l).toArray ++ Array.replicate (grownCap w l.length 0 e - l.length) (Value.int .u8 0)).size = grownCap w l.length 0 e := by
    rw [Array.size_append]; simp [bs_length]; omega
  refine ⟨_, _, hr, ⟨by rw [bs_length, Nat.mul_one], .inr ⟨w.heap.size, _, rfl, hge, ?_, ?_⟩⟩, (Mod.drew _ w).trans (alloc_ext w.drew _), ?_, by simp⟩
  · intro j u hj
    rw [show (0 : Nat) + j = j from Nat.zero_add j]
    have hlt : j < (bs l).length := (List.getElem?_eq_some_iff.1 hj).1
    have := World.cell?_alloc_mark w.drew ((bs l).toArray ++ Array.replicate (grownCap w l.length 0 e - l.length) (Value.int .u8 0)) e
    refine (this _ j).trans ?_
    rw [Array.getElem?_append_left (by simpa using hlt)]
    simpa using hj
  · intro j hj
    rw [Nat.mul_one] at hj
    have := World.cell?_alloc_mark w.drew ((bs l).toArray ++ Array.replicate (grownCap w l.length 0 e - l.length) (Value.int .u8 0)) e
    refine ⟨?_, ?_⟩
    · rw [show (w.drew.alloc _).cell? ⟨w.heap.size, j, none⟩ = _ from this _ j]
      rw [Array.getElem?_eq_getElem (by rw [hcs]; exact hj)]; rfl
    · refine (frozen_alloc_mark w.drew _ e _ j).trans ?_
      rw [hcs]
      simp only [Bool.and_eq_false_iff, decide_eq_false_iff_not]
      left; omega
  · intro g hg; simp only [Value.ownBlock, Option.some.injEq] at hg; omega
end

section ops
variable {P : Program} {ops : Array Oper} {l : List Oper} {n : Nat} {f : Fr} {w : World} {Q : Exit → Fr → World → Prop}
variable {d : Nat} {ty : TypeId} {pos : String} {aft : Array Edge}

theorem WL.toString {s u e : TypeId} {x : Operand} {v : Value} {m : Nat} {bl : List UInt8} (hs : P.underlying s = some (.slice e)) (he : P.underlying e = some (.int .u8)) (hu : P.underlying u = some .string) (hx : ev f x = v) (h : Sl w v 1 m (bs bl)) (hd : decide (d < n) = true)
    (k : WL P ops l n (upd f d (St bl)) w Q) : WL P ops (⟨some d, .convert s u x, ty, pos, aft, none⟩ :: l) n f w Q :=
  WL.val rfl hd (v := St bl) (w' := w) (by simp only [execOp, hx]; rw [Sem.run_bind, ConvR.toString hs he hu h]; simp [Result.andThen]) k
theorem WL.toBytes {s u e : TypeId} {x : Operand} {bl : List UInt8} (hs : P.underlying s = some .string) (hu : P.underlying u = some (.slice e)) (he : P.underlying e = some (.int .u8)) (hx : ev f x = St bl) (hd : decide (d < n) = true)
    (k : ∀ v' w', Own w' 1 v' bl.length (bs bl) → Ext w w' → From w.heap.size v' → WL P ops l n (upd f d v') w' Q) : WL P ops (⟨some d, .convert s u x, ty, pos, aft, none⟩ :: l) n f w Q := by
  obtain ⟨v', w', hr, h1, h2, h3, _⟩ := conv_bytes hs hu he w bl
  exact WL.val rfl hd (v := v') (w' := w') (by simp only [execOp, hx]; rw [Sem.run_bind, hr]; simp [Result.andThen]) (k v' w' h1 h2 h3)
theorem WL.lenSt {t : Nat} {x : Operand} {bl : List UInt8} (ht : P.underlying t = some .string) (hx : ev f x = St bl) (hd : decide (d < n) = true) (k : WL P ops l n (upd f d (IN bl.length)) w Q) :
    WL P ops (⟨some d, .call { callee := .builtin .len, args := #[x], argTypes := #[t] }, ty, pos, aft, none⟩ :: l) n f w Q :=
  WL.lenStr ht hx hd (by simpa [ByteArray.size] using k)
theorem WL.nilCheck {x : Operand} {a : Addr} (hx : ev f x = .pointer (some a)) (hd : decide (d < n) = true) (k : WL P ops l n (upd f d (.pointer (some a))) w Q) :
    WL P ops (⟨some d, .nilCheck x, ty, pos, aft, none⟩ :: l) n f w Q :=
  WL.val rfl hd (v := .pointer (some a)) (w' := w) (by simp [execOp, hx]) k
/-- A literal row of bytes, turned into a slice of bytes: it gets the mark of a string. -/
theorem WL.bytesConst {t e : Nat} {x : Operand} {g m : Nat} {bl : List UInt8} (ht : P.underlying t = some (.slice e)) (he : P.underlying e = some (.int .u8)) (hx : ev f x = .slice (some ⟨g, 0, none⟩) m m) (hm : bl.length = m) (hB : Blk w g (bs bl).toArray e) (hd : decide (d < n) = true)
    (k : ∀ w', Own w' 1 (.slice (some ⟨g, 0, none⟩) m m) m (bs bl) → Mod (· = g) w w' → WL P ops l n (upd f d (.slice (some ⟨g, 0, none⟩) m m)) w' Q) : WL P ops (⟨some d, .convert t t x, ty, pos, aft, none⟩ :: l) n f w Q := by
  have hg : w.heap[g]? = some (.cells (bs bl).toArray e (0, 0)) := hB
  have hsh : w.shape? g = some (e, m) := by unfold World.shape?; rw [hg]; simp [bs_length, hm]
  have hnew : (w.freeze ⟨g, m, none⟩ 1).heap[g]? = some (.cells (bs bl).toArray e (m, m + 1)) := by
    unfold World.freeze
    rw [if_neg (by decide)]
    simp only [Array.getElem?_modify, if_true, hg, Option.map_some]
    rfl
  have hother : ∀ k, k ≠ g → (w.freeze ⟨g, m, none⟩ 1).heap[k]? = w.heap[k]? := fun k hk => by
    unfold World.freeze
    rw [if_neg (by decide)]
    simp [Array.getElem?_modify, Ne.symm hk]
  have hsize : (w.freeze ⟨g, m, none⟩ 1).heap.size = w.heap.size := by unfold World.freeze; rw [if_neg (by decide)]; simp
  refine WL.val rfl hd (v := .slice (some ⟨g, 0, none⟩) m m) (w' := w.freeze ⟨g, m, none⟩ 1) ?_ (k _ ⟨by rw [bs_length, hm, Nat.mul_one], .inr ⟨g, m, rfl, Nat.le_refl _, ?_, ?_⟩⟩ ?_)
  · have : (convert t t (.slice (some ⟨g, 0, none⟩) m m)).run P w = .ok (.slice (some ⟨g, 0, none⟩) m m) (w.freeze ⟨g, m, none⟩ 1) := by
      simp [convert, run_underlying ht, run_underlying he, markStringish, hsh]
    simp only [execOp, hx]; rw [Sem.run_bind, this]; simp [Result.andThen]
  · intro j u hj
    rw [show (0 : Nat) + j = j from Nat.zero_add j]
    unfold World.cell?
    rw [hnew]; simpa using hj
  · intro j hj
    rw [Nat.mul_one] at hj
    refine ⟨?_, ?_⟩
    · unfold World.cell?; rw [hnew]; simp [bs_length, hm, hj]
    · unfold World.frozen?; rw [hnew]; simp only [Bool.and_eq_false_iff, decide_eq_false_iff_not]; left; omega
  · have h1 : (w.freeze ⟨g, m, none⟩ 1).os = w.os ∧ (w.freeze ⟨g, m, none⟩ 1).tape = w.tape ∧ (w.freeze ⟨g, m, none⟩ 1).output = w.output := by unfold World.freeze; rw [if_neg (by decide)]; exact ⟨rfl, rfl, rfl⟩
    exact ⟨h1.1, h1.2.1, h1.2.2, by omega, fun k _ hk => hother k hk⟩
/-- max(a, b) of two ints -/
theorem WL.max2 {x y : Operand} {a b : Int} {t t' : Nat} (hx : ev f x = .int .i64 a) (hy : ev f y = .int .i64 b) (hd : decide (d < n) = true) (k : WL P ops l n (upd f d (.int .i64 (max a b))) w Q) :
    WL P ops (⟨some d, .call { callee := .builtin .max, args := #[x, y], argTypes := #[t, t'] }, ty, pos, aft, none⟩ :: l) n f w Q := by
  refine WL.val rfl hd (v := .int .i64 (max a b)) (w' := w) ?_ k
  simp [execOp, resolve, invoke, builtin, hx, hy, Builtin.max_, Builtin.max2]
  split <;> omega
end ops
end Go.Ux
