/- The walking engine: an element of an owned slice is found, and put. -/
import Derived.Test.YtljcijdkoncodaaImgInj
namespace Go.Ux
open Go
theorem Own.isAt {w : World} {size : Nat} {v : Value} {n : Nat} {xs : List Value} (h : Own w size v n xs) (h0 : 0 < n) : ∃ g cap, v = .slice (some ⟨g, 0, none⟩) n cap := by
  rcases h.2 with ⟨_, h1⟩ | ⟨g, cap, h1, _⟩
  · omega
  · exact ⟨g, cap, h1⟩
theorem Own.set {w : World} {g cap n : Nat} {xs : List Value} (h : Own w 1 (.slice (some ⟨g, 0, none⟩) n cap) n xs) (i : Nat) (hi : i < n) (u : Value) :
    Own (w.setCell ⟨g, i, none⟩ u) 1 (.slice (some ⟨g, 0, none⟩) n cap) n (xs.set i u) ∧ Mod (At (.slice (some ⟨g, 0, none⟩) n cap)) w (w.setCell ⟨g, i, none⟩ u) := by
  rcases h.2 with ⟨h1, _⟩ | ⟨g', cap', h1, hn, hc, hf⟩
  · cases h1
  cases h1
  have e : w.setCell ⟨g, i, none⟩ u = w.setCells g i [u] := rfl
  have hx := h.1
  refine ⟨⟨by rw [List.length_set]; exact h.1, .inr ⟨g, cap, rfl, hn, ?_, ?_⟩⟩, (setCell_mod w g i u).imp fun k _ hk => by subst hk; rfl⟩
  · intro j u' hj
    rw [show (0 : Nat) + j = j from Nat.zero_add j]
    rw [List.getElem?_set] at hj
    by_cases hij : i = j
    · subst hij
      rw [if_pos rfl] at hj
      split at hj
      · cases hj
        rw [e]
        exact World.cell?_setCells_in g [u] i w (fun q hq => (hf _ (by simp at hq; omega)).1) 0 (by simp)
      · cases hj
    · rw [if_neg hij] at hj
      rw [e, World.cell?_setCells_out g [u] i w _ (fun _ _ => by simp; omega)]
      have := hc j u' hj
      rwa [Nat.zero_add] at this
  · intro j hj
    obtain ⟨h1, h2⟩ := hf j hj
    rw [e]
    exact ⟨World.isSome_setCells g [u] i w _ h1, by rw [World.frozen?_setCells]; exact h2⟩
theorem bs_set (l : List UInt8) (i : Nat) (b : UInt8) : (bs l).set i (.int .u8 (b.toNat : Int)) = bs (l.set i b) := by simp [bs, List.map_set]
theorem words_set (l : List (BitVec 32)) (i : Nat) (b : BitVec 32) : (Image.wordCells l).set i (U32 b) = Image.wordCells (l.set i b) := by simp [Image.wordCells, List.map_set]
theorem flip_ne (l : List UInt8) (k : Nat) (h : k < l.length) (bb : BitVec 8) : l.set k (UInt8.ofBitVec (l[k].toBitVec ^^^ (bb ||| 1#8))) ≠ l := by
  intro e
  have h1 : (l.set k (UInt8.ofBitVec (l[k].toBitVec ^^^ (bb ||| 1#8))))[k]'(by simpa using h) = l[k] := by simp only [e]
  rw [List.getElem_set_self] at h1
  have h2 := congrArg UInt8.toBitVec h1
  have h3 : l[k].toBitVec ^^^ (bb ||| 1#8) = l[k].toBitVec := h2
  have h4 := congrArg (BitVec.getLsbD · 0) h3
  simp at h4
section
variable {P : Program} {t : TypeId}
theorem ofInt8 (x : BitVec 8) : BitVec.ofInt 8 (x.toNat : Int) = x := by rw [BitVec.ofInt_natCast, BitVec.ofNat_toNat, BitVec.setWidth_eq]
theorem ofInt32 (x : BitVec 32) : BitVec.ofInt 32 (x.toNat : Int) = x := by rw [BitVec.ofInt_natCast, BitVec.ofNat_toNat, BitVec.setWidth_eq]
theorem BinR.orU8 {x y : BitVec 8} : BinR P .or t (U8 x) (U8 y) (U8 (x ||| y)) := .of_int fun w => by
  have e : Op.intBits .or .u8 (x.toNat : Int) (y.toNat : Int) = pure (.int .u8 (IntKind.u8.wrap ((x ||| y).toNat : Int))) := by unfold Op.intBits; simp only [IntKind.bits, ofInt8]; rfl
  simp only [binOp, ne_eq, not_true_eq_false, if_false, e, wrap_u8_bv, ofInt8, Sem.run_pure]
theorem BinR.xorU8 {x y : BitVec 8} : BinR P .xor t (U8 x) (U8 y) (U8 (x ^^^ y)) := .of_int fun w => by
  have e : Op.intBits .xor .u8 (x.toNat : Int) (y.toNat : Int) = pure (.int .u8 (IntKind.u8.wrap ((x ^^^ y).toNat : Int))) := by unfold Op.intBits; simp only [IntKind.bits, ofInt8]; rfl
  simp only [binOp, ne_eq, not_true_eq_false, if_false, e, wrap_u8_bv, ofInt8, Sem.run_pure]
theorem BinR.addU32 {x y : BitVec 32} : BinR P .add t (U32 x) (U32 y) (U32 (x + y)) := by
  have := BinR.add (P := P) (t := t) (k := .u32) (a := x.toNat) (b := y.toNat)
  rwa [wrap_u32_bv, BitVec.ofInt_add, ofInt32, ofInt32] at this
end
theorem Own.cellAt {w : World} {v u : Value} {g cap n i : Nat} {xs : List Value} (h : Own w 1 v n xs) (hv : v = .slice (some ⟨g, 0, none⟩) n cap) (hi : xs[i]? = some u) : w.cell? ⟨g, i, none⟩ = some u := by
  subst hv
  rcases h.2 with ⟨h3, _⟩ | ⟨g', cap', h3, hn, hc, hf⟩
  · cases h3
  cases h3
  have := hc i u hi
  rwa [Nat.zero_add] at this
section ops
variable {P : Program} {ops : Array Oper} {l : List Oper} {n : Nat} {f : Fr} {w : World} {Q : Exit → Fr → World → Prop}
variable {d : Nat} {ty : TypeId} {pos : String} {aft : Array Edge}
theorem WL.indexOwn {t e sz m i : Nat} {x y : Operand} {v : Value} {xs : List Value} {kd : IntKind} (ht : elemT P t = some e) (hz : sizeT P e = some sz) (hx : ev f x = v) (hy : ev f y = .int kd (i : Int)) (hi : i < m) (h : Own w sz v m xs) (hd : decide (d < n) = true)
    (k : ∀ g cap, v = .slice (some ⟨g, 0, none⟩) m cap → WL P ops l n (upd f d (ptr g (i * sz))) w Q) : WL P ops (⟨some d, .indexAddr t x y, ty, pos, aft, none⟩ :: l) n f w Q := by
  obtain ⟨g, cap, rfl⟩ := h.isAt (by omega)
  refine WL.indexAddr ht hz hx hy hi hd ?_
  rw [Nat.zero_add]
  exact k g cap rfl
theorem WL.indexOwn1 {t e m i : Nat} {x y : Operand} {v : Value} {xs : List Value} {kd : IntKind} (ht : elemT P t = some e) (hz : sizeT P e = some 1) (hx : ev f x = v) (hy : ev f y = .int kd (i : Int)) (hi : i < m) (h : Own w 1 v m xs) (hd : decide (d < n) = true)
    (k : ∀ g cap, v = .slice (some ⟨g, 0, none⟩) m cap → WL P ops l n (upd f d (ptr g i)) w Q) : WL P ops (⟨some d, .indexAddr t x y, ty, pos, aft, none⟩ :: l) n f w Q :=
  WL.indexOwn ht hz hx hy hi h hd fun g cap e => by rw [Nat.mul_one]; exact k g cap e
theorem WL.storeOwn {t m i g cap : Nat} {x y : Operand} {v u : Value} {xs : List Value} (hx : ev f x = ptr g i) (hy : ev f y = u) (hu : u.oneCell' = true) (hz : sizeT P t = some 1) (h : Own w 1 v m xs) (hv : v = .slice (some ⟨g, 0, none⟩) m cap) (hi : i < m)
    (k : ∀ w', Own w' 1 v m (xs.set i u) → Mod (At v) w w' → WL P ops l n f w' Q) : WL P ops (⟨none, .store t x y, ty, pos, aft, none⟩ :: l) n f w Q := by
  subst hv
  obtain ⟨h1, h2⟩ := h.set i hi u
  have hxl := h.1
  rcases h.2 with ⟨h3, _⟩ | ⟨g', cap', h3, hn, hc, hf⟩
  · cases h3
  cases h3
  refine WL.store1 hx hy hu hz (u := xs[i]'(by omega)) ?_ (hf i (by omega)).2 (k _ h1 h2)
  have := hc i _ (List.getElem?_eq_getElem (show i < xs.length by omega))
  rwa [Nat.zero_add] at this
end ops
end Go.Ux
namespace Go.Ux.Image
open Go Go.Ux
theorem bump_ne (l : List (BitVec 32)) (h : 0 < l.length) : l.set 0 (l[0] + 1#32) ≠ l := by
  intro e
  have h1 : (l.set 0 (l[0] + 1#32))[0]'(by simpa using h) = l[0] := by simp only [e]
  rw [List.getElem_set_self] at h1
  have h2 := congrArg BitVec.toNat h1
  have h3 := (l[0]).isLt
  rw [BitVec.toNat_add] at h2
  simp at h2
  omega
end Go.Ux.Image
namespace Go.Ux
open Go
section
variable {P : Program} {ops : Array Oper} {l : List Oper} {n : Nat} {f : Fr} {w : World} {Q : Exit → Fr → World → Prop}
variable {d : Nat} {ty : TypeId} {pos : String} {aft : Array Edge}
theorem conv_bytes_lt {s u e : TypeId} (hs : P.underlying s = some .string) (hd : P.underlying u = some (.slice e)) (he : P.underlying e = some (.int .u8)) (w : World) (l : List UInt8) {v' : Value} {w' : World} (h : (convert s u (St l)).run P w = .ok v' w') :
    ∀ g, v'.ownBlock = some g → g < w'.heap.size := by
  have hr := run_bytes_of_string (P := P) w s u e ⟨l.toArray⟩ hs hd he
  have h2 := hr.symm.trans h
  cases h2
  intro g hg
  simp only [Value.ownBlock, Option.some.injEq] at hg
  subst hg
  simp
theorem WL.toBytes2 {s u e : TypeId} {x : Operand} {bl : List UInt8} (hs : P.underlying s = some .string) (hu : P.underlying u = some (.slice e)) (he : P.underlying e = some (.int .u8)) (hx : ev f x = St bl) (hd : decide (d < n) = true)
    (k : ∀ v' w', Own w' 1 v' bl.length (bs bl) → Ext w w' → From w.heap.size v' → (∀ g, v'.ownBlock = some g → g < w'.heap.size) → WL P ops l n (upd f d v') w' Q) : WL P ops (⟨some d, .convert s u x, ty, pos, aft, none⟩ :: l) n f w Q := by
  obtain ⟨v', w', hr, h1, h2, h3, _⟩ := conv_bytes hs hu he w bl
  exact WL.val rfl hd (v := v') (w' := w') (by simp only [execOp, hx]; rw [Sem.run_bind, hr]; simp [Result.andThen]) (k v' w' h1 h2 h3 (conv_bytes_lt hs hu he w bl hr))
end
end Go.Ux
