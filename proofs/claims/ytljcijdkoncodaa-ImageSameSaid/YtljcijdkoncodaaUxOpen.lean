/- From a row's arguments to values: slices of bytes, of words, of symbols; images. No program in sight. -/
import Derived.Lib.SmallJoins
import Derived.Deep.SlicePairs
import Derived.Test.YtljcijdkoncodaaUxRow
import Derived.Test.YtljcijdkoncodaaImgPure
namespace Go.Ux
open Go Go.ChangeShapes Go.WideShapes Go.RowKit Go.Deep Go.Joins Go.Ux.Image
variable {H : Type} {enc : TypeId × Value → H} {P : Program} {w : World} {base : Nat} {sp : Nat → Bool} {held : Bool}

theorem sl_of_cells {a : Addr} {len cap size : Nat} {xs : List Value} (hl : len ≤ cap) (hx : xs.length = len * size) (hs : 0 < size) (hc : ∀ j u, xs[j]? = some u → w.cell? (a.add j) = some u) : Sl w (.slice (some a) len cap) size len xs := by
  by_cases h0 : len = 0
  · exact ⟨some a, cap, rfl, hl, hx, .inl h0⟩
  · have hp : 0 < xs.length := by rw [hx]; exact Nat.mul_pos (by omega) hs
    have h1 := hc 0 xs[0] (List.getElem?_eq_getElem hp)
    have hspot : a.spot = none := by
      simp only [Addr.add, if_true] at h1
      unfold World.cell? at h1
      split at h1
      · split at h1
        · cases h1
        · rename_i hn; simpa using hn
      · cases h1
    obtain ⟨b, o, s⟩ := a
    obtain rfl : s = none := hspot
    refine ⟨some ⟨b, o, none⟩, cap, rfl, hl, hx, .inr ⟨b, o, rfl, fun j u hj => ?_⟩⟩
    have := hc j u hj
    rwa [addr_add] at this

theorem range_get {α : Type} (n : Nat) (f : Nat → α) (j : Nat) {u : α} (h : ((List.range n).map f)[j]? = some u) : j < n ∧ u = f j := by
  simp only [List.getElem?_map, Option.map_eq_some_iff] at h
  obtain ⟨i, hi, rfl⟩ := h
  obtain ⟨hlt, rfl⟩ := List.getElem?_eq_some_iff.1 hi
  simp at hlt ⊢
  exact hlt

theorem byte_of {z : Int} (h : (Lit.int .u8 z).wf = true) : ∃ b : UInt8, z = (b.toNat : Int) := by
  obtain ⟨m, rfl, hm⟩ := wf_u8 h
  exact ⟨UInt8.ofNat m, by rw [UInt8.toNat_ofNat']; omega⟩
theorem word_of {z : Int} (h : (Lit.int .u32 z).wf = true) : ∃ b : BitVec 32, z = (b.toNat : Int) := by
  simp only [Lit.wf, Bool.and_eq_true, decide_eq_true_eq] at h
  have h' : 0 ≤ z ∧ z ≤ 4294967295 := h
  exact ⟨BitVec.ofNat 32 z.toNat, by rw [BitVec.toNat_ofNat]; omega⟩
theorem int_of {z : Int} (h : (Lit.int .i64 z).wf = true) : z ≤ 9223372036854775807 := by
  simp only [Lit.wf, Bool.and_eq_true, decide_eq_true_eq] at h
  have h' : -9223372036854775808 ≤ z ∧ z ≤ 9223372036854775807 := h
  exact h'.2

/-- []byte -/
theorem open_bytes {t e : TypeId} {fuel : Nat} {cs : List Value} {x : DataW H × List MemPlace} (ht : P.underlying t = some (.slice e)) (he : P.underlying e = some (.int .u8)) (hc : P.cellsOf e = 1)
    (h : DataW.trod enc P w base (fun _ => true) held fuel t cs = some x) : ∃ v l, cs = [v] ∧ Sl w v 1 (List.length l) (bs l) := by
  rcases open_slice1 ht hc h with ⟨rfl, _⟩ | ⟨a, len, cap, m, n, V, D, Pl, rfl, _, hl, _, hm, _, hx⟩
  · exact ⟨_, [], rfl, none, 0, rfl, Nat.le_refl _, rfl, .inl rfl⟩
  have hm : m = cap := by simpa using hm
  subst hm
  obtain ⟨B, hB⟩ := choose_lt (α := UInt8) (n := m) (p := fun i b => V i = .int .u8 (b.toNat : Int)) (fun i hi => by
    obtain ⟨_, h2⟩ := hx i hi
    obtain ⟨z, h3, _, h4⟩ := DataW.trod_int he h2
    obtain ⟨b, rfl⟩ := byte_of h4
    exact ⟨b, by simpa using h3⟩)
  refine ⟨_, (List.range len).map B, rfl, ?_⟩
  have hlen : ((List.range len).map B).length = len := by simp
  rw [hlen]
  refine sl_of_cells hl (by rw [bs_length, hlen, Nat.mul_one]) (by decide) fun j u hj => ?_
  unfold bs at hj
  rw [List.map_map] at hj
  obtain ⟨hj1, rfl⟩ := range_get len _ j hj
  rw [(hx j (by omega)).1, hB j (by omega)]; rfl

/-- []uint32 -/
theorem open_words {t e : TypeId} {fuel : Nat} {cs : List Value} {x : DataW H × List MemPlace} (ht : P.underlying t = some (.slice e)) (he : P.underlying e = some (.int .u32)) (hc : P.cellsOf e = 1)
    (h : DataW.trod enc P w base (fun _ => true) held fuel t cs = some x) : ∃ v l, cs = [v] ∧ Sl w v 1 (List.length l) (wordCells l) := by
  rcases open_slice1 ht hc h with ⟨rfl, _⟩ | ⟨a, len, cap, m, n, V, D, Pl, rfl, _, hl, _, hm, _, hx⟩
  · exact ⟨_, [], rfl, none, 0, rfl, Nat.le_refl _, rfl, .inl rfl⟩
  have hm : m = cap := by simpa using hm
  subst hm
  obtain ⟨B, hB⟩ := choose_lt (α := BitVec 32) (n := m) (p := fun i b => V i = U32 b) (fun i hi => by
    obtain ⟨_, h2⟩ := hx i hi
    obtain ⟨z, h3, _, h4⟩ := DataW.trod_int he h2
    obtain ⟨b, rfl⟩ := word_of h4
    exact ⟨b, by simpa using h3⟩)
  refine ⟨_, (List.range len).map B, rfl, ?_⟩
  have hlen : ((List.range len).map B).length = len := by simp
  rw [hlen]
  refine sl_of_cells hl (by unfold wordCells; rw [List.length_map, hlen, Nat.mul_one]) (by decide) fun j u hj => ?_
  unfold wordCells at hj
  rw [List.map_map] at hj
  obtain ⟨hj1, rfl⟩ := range_get len _ j hj
  rw [(hx j (by omega)).1, hB j (by omega)]; rfl

/-- []Sym -/
theorem open_syms {t e : TypeId} {f0 f1 : Field} {fuel : Nat} {cs : List Value} {x : DataW H × List MemPlace} (ht : P.underlying t = some (.slice e)) (he : P.underlying e = some (.struct #[f0, f1])) (ce : P.cellsOf e = 2) (o0 : f0.offset = 0) (o1 : f1.offset = 1)
    (c0 : P.cellsOf f0.type = 1) (c1 : P.cellsOf f1.type = 1) (h0 : P.underlying f0.type = some .string) (h1 : P.underlying f1.type = some (.int .i64))
    (h : DataW.trod enc P w base (fun _ => true) held fuel t cs = some x) : ∃ v l, cs = [v] ∧ Sl w v 2 (List.length l) (symCells l) ∧ ∀ s ∈ l, s.2 ≤ 9223372036854775807 := by
  rcases open_slice_pairs ht he ce o0 o1 c0 c1 h with ⟨rfl, _⟩ | ⟨a, len, cap, m, n, V0, V1, D0, D1, P0, P1, rfl, _, hl, _, hm, _, hx⟩
  · exact ⟨_, [], rfl, ⟨none, 0, rfl, Nat.le_refl _, rfl, .inl rfl⟩, fun s hs => by cases hs⟩
  have hm : m = cap := by simpa using hm
  subst hm
  obtain ⟨B, hB⟩ := choose_lt (α := List UInt8 × Int) (n := m) (p := fun i b => V0 i = St b.1 ∧ V1 i = .int .i64 b.2 ∧ b.2 ≤ 9223372036854775807) (fun i hi => by
    obtain ⟨_, _, h2, h3⟩ := hx i hi
    obtain ⟨s, h4, _⟩ := DataW.trod_string h0 h2
    obtain ⟨z, h5, _, h6⟩ := DataW.trod_int h1 h3
    refine ⟨(s.data.toList, z), ?_, by simpa using h5, int_of h6⟩
    rw [← St_str]; simpa using h4)
  refine ⟨_, (List.range len).map B, rfl, ?_, fun s hs => ?_⟩
  · have hlen : ((List.range len).map B).length = len := by simp
    rw [hlen]
    refine sl_of_cells hl (by rw [symCells_length, hlen]) (by decide) fun j u hj => ?_
    have hjl : j < len * 2 := by
      have := (List.getElem?_eq_some_iff.1 hj).1
      rwa [symCells_length, hlen] at this
    obtain ⟨g0, g1⟩ := symCells_get ((List.range len).map B) (j / 2) (by rw [hlen]; omega)
    have hge : ((List.range len).map B)[j / 2]'(by rw [hlen]; omega) = B (j / 2) := by simp
    rw [hge] at g0 g1
    obtain ⟨k0, k1, _, _⟩ := hx (j / 2) (by omega)
    obtain ⟨b0, b1, _⟩ := hB (j / 2) (by omega)
    rcases Nat.mod_two_eq_zero_or_one j with hj2 | hj2
    · have e : j / 2 * 2 = j := by omega
      rw [e] at g0 k0
      rw [g0] at hj; cases hj
      rw [k0, b0]
    · have e : j / 2 * 2 + 1 = j := by omega
      rw [e] at g1 k1
      rw [g1] at hj; cases hj
      rw [k1, b1]
  · simp only [List.mem_map, List.mem_range] at hs
    obtain ⟨i, hi, rfl⟩ := hs
    exact (hB i (by omega)).2.2
/-- An image, as a row's argument. -/
theorem open_img {r : Reach} {b0 : Nat} {t t1 t2 te tw : TypeId} {f0 f1 f2 g0 g1 : Field} {v : Value} {d : DataW H} {p : List MemPlace} (hs : P.underlying t = some (.struct #[f0, f1, f2])) (hone : oneCellFields P #[f0, f1, f2] = true) (hC : P.cellsOf t = 3)
    (hf0 : P.underlying f0.type = some (.int .i64)) (hf1 : P.underlying f1.type = some (.slice te)) (he : P.underlying te = some (.struct #[g0, g1])) (ce : P.cellsOf te = 2) (o0 : g0.offset = 0) (o1 : g1.offset = 1)
    (c0 : P.cellsOf g0.type = 1) (c1 : P.cellsOf g1.type = 1) (h0 : P.underlying g0.type = some .string) (h1 : P.underlying g1.type = some (.int .i64)) (hf2 : P.underlying f2.type = some (.slice tw)) (hw : P.underlying tw = some (.int .u32)) (cw : P.cellsOf tw = 1)
    (hv : Value.okWide P w r b0 t v) (h : DataW.Trod enc P w base (fun _ => true) held t v d p) :
    ∃ (I : Img) (sv wv : Value), v = .agg #[.int .i64 I.entry, sv, wv] ∧ Sl w sv 2 I.syms.length (symCells I.syms) ∧ Sl w wv 1 I.words.length (wordCells I.words) ∧ ∀ s ∈ I.syms, s.2 ≤ 9223372036854775807 := by
  obtain ⟨v0, v1, v2, y0, y1, y2, n, rfl, _, _, k0, k1, k2⟩ := open_agg3 hs hone hC hv h
  obtain ⟨z, e0, _, _⟩ := DataW.trod_int hf0 k0
  obtain ⟨sv, l, e1, s1, s2⟩ := open_syms hf1 he ce o0 o1 c0 c1 h0 h1 k1
  obtain ⟨wv, m, e2, s3⟩ := open_words hf2 hw cw k2
  simp only [List.cons.injEq, and_true] at e0 e1 e2
  subst e0 e1 e2
  exact ⟨⟨z, l, m⟩, _, _, rfl, s1, s3, s2⟩
end Go.Ux
namespace Go.Ux
theorem wf_u16 {n : Int} (h : (Lit.int .u16 n).wf = true) : ∃ m : Nat, n = ((m : Nat) : Int) ∧ m < 65536 := by
  simp only [Lit.wf, Bool.and_eq_true, decide_eq_true_eq] at h
  have h' : 0 ≤ n ∧ n ≤ 65535 := h
  exact ⟨n.toNat, by omega, by omega⟩
theorem wf_u8b {n : Int} (h : (Lit.int .u8 n).wf = true) : ∃ x : BitVec 8, n = (x.toNat : Int) := by
  obtain ⟨m, rfl, hm⟩ := wf_u8 h
  exact ⟨BitVec.ofNat 8 m, by rw [BitVec.toNat_ofNat]; omega⟩
end Go.Ux
