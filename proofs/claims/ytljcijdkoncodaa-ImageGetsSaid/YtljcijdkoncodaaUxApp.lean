/- The walking engine: a slice that the call owns, and what is appended to it. -/
import Derived.Deep.AppendSrc
import Derived.Deep.Upon
import Derived.Deep.MidRow
import Derived.Test.YtljcijdkoncodaaUxMore
namespace Go.Ux
open Go

/-- The slice v, of n elements of this many cells, may be written on, spare places too; its elements are xs. -/
def Own (w : World) (size : Nat) (v : Value) (n : Nat) (xs : List Value) : Prop :=
  xs.length = n * size ∧ ((v = .slice none 0 0 ∧ n = 0) ∨
    ∃ g cap, v = .slice (some ⟨g, 0, none⟩) n cap ∧ n ≤ cap ∧ Cells w g 0 xs ∧ ∀ j, j < cap * size → (w.cell? ⟨g, j, none⟩).isSome = true ∧ w.frozen? ⟨g, j, none⟩ = false)

theorem Own.nil (w : World) (size : Nat) : Own w size (.slice none 0 0) 0 [] := ⟨by simp, .inl ⟨rfl, rfl⟩⟩

theorem Own.lt {w : World} {size : Nat} {v : Value} {n : Nat} {xs : List Value} (h : Own w size v n xs) (h0 : 0 < n) (hs : 0 < size) {g : Nat} (hg : v.ownBlock = some g) : g < w.heap.size := by
  rcases h.2 with ⟨rfl, h1⟩ | ⟨g', cap, rfl, hn, hc, hf⟩
  · omega
  · simp [Value.ownBlock] at hg
    subst hg
    have := (hf 0 (Nat.mul_pos (by omega) hs)).1
    exact World.block_lt_of_cell? w _ (Option.isSome_iff_exists.1 this).choose_spec

/-- The world turned in block v's alone; v' lies where v lay, or in a new block. -/
def LocV (w : World) (v v' : Value) : Prop := v'.ownBlock = v.ownBlock ∨ ∃ g, v'.ownBlock = some g ∧ w.heap.size ≤ g
theorem LocV.refl (w : World) (v : Value) : LocV w v v := .inl rfl
theorem LocV.trans {w w' : World} {v v' v'' : Value} (h : LocV w v v') (k : LocV w' v' v'') (hs : w.heap.size ≤ w'.heap.size) : LocV w v v'' := by
  rcases k with k | ⟨g, k, hg⟩
  · rcases h with h | ⟨g, h, hg⟩
    · exact .inl (k.trans h)
    · exact .inr ⟨g, k.trans h, hg⟩
  · exact .inr ⟨g, k, Nat.le_trans hs hg⟩
theorem LocV.ne {w : World} {v v' : Value} (h : LocV w v v') {b : Nat} (hb : b < w.heap.size) (hv : v.ownBlock ≠ some b) : v'.ownBlock ≠ some b := by
  rcases h with h | ⟨g, h, hg⟩
  · rw [h]; exact hv
  · rw [h]; intro e; cases e; omega
/-- v lies in no block below B. -/
def From (B : Nat) (v : Value) : Prop := ∀ g, v.ownBlock = some g → B ≤ g
theorem LocV.from {w : World} {v v' : Value} {B : Nat} (h : LocV w v v') (hB : B ≤ w.heap.size) (hv : From B v) : From B v' := by
  intro g hg
  rcases h with h | ⟨g', h, hg'⟩
  · exact hv g (h ▸ hg)
  · rw [h] at hg; cases hg; omega
theorem From.ne {B b : Nat} {v : Value} (h : From B v) (hb : b < B) : v.ownBlock ≠ some b := fun e => by have := h b e; omega
abbrev At (v : Value) : Nat → Prop := fun k => v.ownBlock = some k
theorem Mod.at {w w' w'' : World} {v v' : Value} (h : Mod (At v) w w') (k : Mod (At v') w' w'') (l : LocV w v v') : Mod (At v) w w'' :=
  h.then k fun i hi e => by
    rcases l with l | ⟨g, l, hg⟩
    · exact l.symm.trans e
    · have e' : v'.ownBlock = some i := e
      rw [l] at e'; cases e'; omega
/-- Of a slice that is new to w the world may be turned freely. -/
theorem Mod.from {w w' w'' : World} {v : Value} (h : Ext w w') (k : Mod (At v) w' w'') (hv : From w.heap.size v) : Ext w w'' :=
  h.then k fun i hi e => by have := hv i e; omega

theorem Own.mod {O : Nat → Prop} {w w' : World} {size : Nat} {v : Value} {n : Nat} {xs : List Value} (h : Own w size v n xs) (m : Mod O w w') (hO : ∀ g, v.ownBlock = some g → ¬ O g) : Own w' size v n xs := by
  refine ⟨h.1, ?_⟩
  rcases h.2 with h | ⟨g, cap, rfl, hn, hc, hf⟩
  · exact .inl h
  · refine .inr ⟨g, cap, rfl, hn, hc.mod m (hO g rfl), fun j hj => ?_⟩
    obtain ⟨h1, h2⟩ := hf j hj
    obtain ⟨u, hu⟩ := Option.isSome_iff_exists.1 h1
    refine ⟨by rw [m.cell hu (hO g rfl)]; rfl, ?_⟩
    rw [World.frozen?_of_block (w := w) (a := ⟨g, j, none⟩) (m.block g (World.block_lt_of_cell? w _ hu) (hO g rfl))]
    exact h2
theorem Own.ext {w w' : World} {size : Nat} {v : Value} {n : Nat} {xs : List Value} (h : Own w size v n xs) (m : Ext w w') : Own w' size v n xs := h.mod m fun _ _ x => x
theorem Own.sl {w : World} {size : Nat} {v : Value} {n : Nat} {xs : List Value} (h : Own w size v n xs) : Sl w v size n xs := by
  rcases h.2 with ⟨rfl, rfl⟩ | ⟨g, cap, rfl, hn, hc, _⟩
  · exact ⟨none, 0, rfl, Nat.le_refl _, h.1, .inl rfl⟩
  · exact ⟨_, cap, rfl, hn, h.1, .inr ⟨g, 0, rfl, hc⟩⟩

/-! ### worlds where cells are stored in a row -/
theorem setCells_mod (b : Nat) : ∀ (vs : List Value) (o : Nat) (w : World), Mod (· = b) w (w.setCells b o vs)
  | [], _, w => Mod.refl _ w
  | v :: r, o, w => (setCell_mod w b o v).trans (setCells_mod b r (o + 1) _)

/-! ### append -/
/-- Of a slice type: the element's type, its cells, its bytes, its zero value. -/
def appT (P : Program) (t : Nat) : Option (Nat × Nat × Nat × Array Value) :=
  match P.underlying t with
  | some (.slice e) => match P.info? e with
    | some i => match i.zero with
      | some z => some (e, i.size, i.bytes, z.cells)
      | none => none
    | none => none
  | _ => none

theorem append_own {P : Program} {t tx ty e size bytes : Nat} {zs : Array Value} (ha : appT P t = some (e, size, bytes, zs)) (hzs : zs.size = size) {w : World} {v x : Value} {n m : Nat} {xs news : List Value}
    (ho : Own w size v n xs) (hsrc : Src P size tx x m news w) (h63 : n + m ≤ 9223372036854775807) (hb : (n + m) * bytes ≤ 140737488355328) :
    ∃ v' w', (Builtin.append_ #[t, tx] ty #[v, x]).run P w = .ok v' w' ∧ Own w' size v' (n + m) (xs ++ news) ∧ Mod (At v) w w' ∧ LocV w v v' := by
  unfold appT at ha
  split at ha <;> try cases ha
  rename_i e' ht
  split at ha <;> try cases ha
  rename_i i hi
  split at ha <;> try cases ha
  rename_i z hz
  have hlen : (xs ++ news).length = (n + m) * i.size := by rw [List.length_append, ho.1, hsrc.newsLen, Nat.add_mul]
  have grown : ∀ (old : Nat) (base : Option Addr), (v = .slice base n old) → old < n + m → (Builtin.firstCells i.size n (.slice base n old)).run P w.drew = .ok xs.toArray w.drew →
      ∃ v' w', (Builtin.append_ #[t, tx] ty #[v, x]).run P w = .ok v' w' ∧ Own w' i.size v' (n + m) (xs ++ news) ∧ Mod (At v) w w' ∧ LocV w v v' := by
    intro old base hv hlt hold
    subst hv
    have hr := run_append_grow_src (P := P) w t tx ty e i z ht hi hz base n old xs hold x m news hsrc hlt (by omega) (growslice_fits hlt hb)
    have hge := grownCap_ge w (n + m) old e
    refine ⟨_, _, hr, ⟨hlen, .inr ⟨w.heap.size, _, rfl, hge, ?_, ?_⟩⟩, ?_, .inr ⟨w.heap.size, rfl, Nat.le_refl _⟩⟩
    · intro j u hj
      rw [Nat.zero_add]
      have hB : Blk (w.drew.alloc (.cells ((xs ++ news).toArray ++ Builtin.zeroCells z.cells (grownCap w (n + m) old e - (n + m))) e)) w.heap.size ((xs ++ news).toArray ++ Builtin.zeroCells z.cells (grownCap w (n + m) old e - (n + m))) e := alloc_blk w.drew _ e
      refine hB.cell ?_
      have hj' : j < (xs ++ news).length := (List.getElem?_eq_some_iff.1 hj).1
      rw [Array.getElem?_append_left (by simpa using hj')]
      simpa using hj
    · intro j hj
      have hB : Blk (w.drew.alloc (.cells ((xs ++ news).toArray ++ Builtin.zeroCells z.cells (grownCap w (n + m) old e - (n + m))) e)) w.heap.size ((xs ++ news).toArray ++ Builtin.zeroCells z.cells (grownCap w (n + m) old e - (n + m))) e := alloc_blk w.drew _ e
      have hsz : ((xs ++ news).toArray ++ Builtin.zeroCells z.cells (grownCap w (n + m) old e - (n + m))).size = grownCap w (n + m) old e * i.size := by
        rw [Array.size_append, size_zeroCells, hzs]
        simp only [List.size_toArray, hlen, ← Nat.add_mul]
        congr 1; omega
      refine ⟨?_, hB.frozen j⟩
      rw [hB.cell (Array.getElem?_eq_getElem (by rw [hsz]; exact hj))]
      rfl
    · exact (Mod.drew _ w).trans (Mod.ext (alloc_ext w.drew _))
  rcases ho.2 with ⟨rfl, rfl⟩ | ⟨g, cap, rfl, hn, hc, hf⟩
  · have hx : xs = [] := List.eq_nil_of_length_eq_zero (by simpa using ho.1)
    subst hx
    by_cases hm : m = 0
    · subst hm
      have hnn : news = [] := List.eq_nil_of_length_eq_zero (by simpa using hsrc.newsLen)
      subst hnn
      refine ⟨.slice none 0 0, w, ?_, Own.nil _ _, Mod.refl _ _, LocV.refl _ _⟩
      exact run_append_nothing (P := P) w t tx ty e i ht hi none 0 0 (Nat.le_refl _) x hsrc
    · exact grown 0 none rfl (by omega) (run_firstCells_none w.drew i.size 0 0 0)
  · have holds : ∀ j u, xs[j]? = some u → w.cell? ((⟨g, 0, none⟩ : Addr).add j) = some u := fun j u hj => by
      rw [addr_add]; exact hc j u hj
    by_cases hroom : n + m ≤ cap
    · have hfit : ∀ j, j < news.length → 0 + n * i.size + j < cap * i.size := fun j hj => by
        rw [hsrc.newsLen] at hj
        have := Nat.mul_le_mul_right i.size hroom
        rw [Nat.add_mul] at this; omega
      have hr := run_append_room_src (P := P) w t tx ty e i ht hi g 0 n cap x m news hsrc hroom (fun j hj => (hf _ (hfit j hj)).1) (fun j hj => (hf _ (hfit j hj)).2)
      refine ⟨_, _, hr, ⟨hlen, .inr ⟨g, cap, rfl, hroom, ?_, ?_⟩⟩, (setCells_mod g news _ w).imp fun k _ h => ?_, .inl rfl⟩
      · intro j u hj
        rw [show (0 : Nat) + j = j from Nat.zero_add j]
        by_cases h : j < xs.length
        · rw [List.getElem?_append_left h] at hj
          rw [World.cell?_setCells_out g news _ w _ (fun _ _ => .inl (by rw [ho.1] at h; show j < 0 + n * i.size; omega))]
          have := hc j u hj
          rwa [Nat.zero_add] at this
        · rw [List.getElem?_append_right (by omega)] at hj
          obtain ⟨hlt, rfl⟩ := List.getElem?_eq_some_iff.1 hj
          have := World.cell?_setCells_in g news (0 + n * i.size) w (fun j hj => (hf _ (hfit j hj)).1) (j - xs.length) hlt
          rwa [show 0 + n * i.size + (j - xs.length) = j by rw [← ho.1]; omega] at this
      · intro j hj
        obtain ⟨h1, h2⟩ := hf j hj
        exact ⟨World.isSome_setCells g news _ w _ h1, by rw [World.frozen?_setCells]; exact h2⟩
      · subst h; rfl
    · exact grown cap (some ⟨g, 0, none⟩) rfl (by omega) (run_firstCells_some w.drew i.size n ⟨g, 0, none⟩ n cap xs ho.1 (by simpa using holds))

section ops
variable {P : Program} {ops : Array Oper} {l : List Oper} {n : Nat} {f : Fr} {w : World} {Q : Exit → Fr → World → Prop}
variable {d : Nat} {ty : TypeId} {pos : String} {aft : Array Edge}

theorem WL.append {t tx e size bytes : Nat} {zs : Array Value} {a x : Operand} {v vx : Value} {k m : Nat} {xs news : List Value} (ha : appT P t = some (e, size, bytes, zs)) (hzs : zs.size = size) (hv : ev f a = v) (hx : ev f x = vx)
    (ho : Own w size v k xs) (hsrc : Src P size tx vx m news w) (h63 : k + m ≤ 9223372036854775807) (hb : (k + m) * bytes ≤ 140737488355328) (hd : decide (d < n) = true)
    (kk : ∀ v' w', Own w' size v' (k + m) (xs ++ news) → Mod (At v) w w' → LocV w v v' → WL P ops l n (upd f d v') w' Q) :
    WL P ops (⟨some d, .call { callee := .builtin .append, args := #[a, x], argTypes := #[t, tx] }, ty, pos, aft, none⟩ :: l) n f w Q := by
  obtain ⟨v', w', hr, h1, h2, h3⟩ := append_own (ty := ty) ha hzs ho hsrc h63 hb
  refine WL.val rfl hd (v := v') (w' := w') ?_ (kk v' w' h1 h2 h3)
  simp only [execOp, resolve, invoke, builtin, Sem.run_bind, Sem.run_pure, Result.andThen_ok, List.map_toArray, List.map_cons, List.map_nil, hv, hx, hr]
end ops

/-- What a slice that may be read yields to an append. -/
theorem Sl.src {P : Program} {w : World} {size : Nat} {v : Value} {n : Nat} {xs : List Value} {tx e' : TypeId} (h : Sl w v size n xs) (hk : P.underlying tx = some (.slice e')) (h1 : ∀ u ∈ xs, u.oneCell' = true) : Src P size tx v n xs w := by
  obtain ⟨ao, cap, rfl, hn, hl, h0⟩ := h
  cases ao with
  | none =>
    have hn0 : n = 0 := by
      rcases h0 with h0 | ⟨b, o, h, _⟩
      · exact h0
      · cases h
    subst hn0
    have : xs = [] := List.eq_nil_of_length_eq_zero (by simpa using hl)
    subst this
    exact Src.ofNil w hk cap
  | some a =>
    refine Src.ofSlice w hk a n cap xs hl ?_ h1
    rcases h0 with rfl | ⟨b, o, h, hc⟩
    · have : xs = [] := List.eq_nil_of_length_eq_zero (by simpa using hl)
      subst this
      intro j u hj; simp at hj
    · cases h
      intro j u hj
      rw [addr_add]; exact hc j u hj
end Go.Ux
