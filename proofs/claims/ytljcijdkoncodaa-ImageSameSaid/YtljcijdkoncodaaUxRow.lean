/- From a law's contract to its row: what the call leaves alone reads as it did. No program in sight. -/
import Derived.WalkKit
import Derived.ProofKit
import Derived.OpenShut
import Derived.Test.YtljcijdkoncodaaUxMem
namespace Go.Ux
open Go.ChangeShapes Go.WideShapes Go.ChangeAt Go.RowKit
variable {H : Type} {enc : TypeId × Value → H} {P : Program}

theorem trodAll_below (hl : laidOutB P = true) {W W' : World} (hb : Below W.heap.size W W') {sp : Nat → Bool} :
    ∀ {ts : List TypeId} {vs : List Value} {ds : List (DataW H)} {ps : List MemPlace}, (∀ t ∈ ts, P.readableRec t = true ∧ t < P.types.size) →
      (∀ x ∈ ps, x.block < W.heap.size) → (∀ x ∈ ps, sp x.block = true) →
      DataW.TrodAll enc P W 0 (fun _ => true) true ts vs ds ps → DataW.TrodAll enc P W' 0 sp true ts vs ds ps
  | [], vs, ds, ps, _, _, _, h => by
    cases vs <;> cases ds <;> simp [DataW.TrodAll] at h ⊢
    exact h
  | t :: ts, vs, ds, ps, ht, hlt, hsp, h => by
    obtain ⟨v, vs', d, ds', p, q, rfl, rfl, rfl, h1, h2⟩ := trodAll_cons h
    have h3 := trodAll_below hl hb (fun t' h' => ht t' (List.mem_cons_of_mem _ h')) (fun x hx => hlt x (List.mem_append_right _ hx)) (fun x hx => hsp x (List.mem_append_right _ hx)) h2
    exact ⟨p, q, WideElems.Trod_stays hl (ht t (by simp)).1 (ht t (by simp)).2 h1 (fun x hx => hb.same (hlt x (List.mem_append_left _ hx))) (fun x hx => hsp x (List.mem_append_left _ hx)), h3, rfl⟩

/-- What a law's row asks of the call's end, of a law that leaves all that was there alone. -/
theorem post_law {f : Func} {s : ChangeSpec} {apart fresh handsOn again : Bool} {W W' : World} {args : Array Value} {ds gs : List (DataW H)} {before : List MemPlace} {t : TypeId}
    (hl : laidOutB P = true) (hrow : ∀ t ∈ f.params.toList, P.readableRec t = true ∧ t < P.types.size) (hrt : f.resultTypes = #[t]) (ht : P.underlying t = some .bool) (hvars : s.vars = [])
    (hs : s.fn H ds = { results := [.lit (.bool true)], args := ds })
    (hW : DataW.Whole enc P f.params.toList s.vars apart W args.toList ds gs before) (hb : Below W.heap.size W W') :
    s.post enc P f apart fresh handsOn again W args (.bool true) W' := by
  have hW' := hW
  have hlt : ∀ p ∈ before, p.block < W.heap.size := fun p hp => hW.lt p hp
  obtain ⟨pa, pv, hA, hV, rfl, hz, hn⟩ := hW
  rw [hvars] at hV
  obtain ⟨rfl, rfl⟩ := trodVars_none hV
  rw [List.append_nil] at hW' hlt hz hn
  have hs' : s.fn H (ds ++ []) = { results := [.lit (.bool true)], args := ds } := by rw [List.append_nil]; exact hs
  have hres : ∀ (b : Nat) (sp : Nat → Bool) (hd : Bool), DataW.TrodAll enc P W' b sp hd f.resultTypes.toList ((Value.bool true).resultList f.resultTypes.size) [.lit (.bool true)] [] := by
    intro b sp hd
    rw [hrt]
    exact trodAll_mk1 (shut_bool ht true)
  have hargs : ∀ sp : Nat → Bool, (∀ p ∈ pa, sp p.block = true) → DataW.TrodAll enc P W' 0 sp true f.params.toList args.toList ds pa := fun sp h => trodAll_below hl hb hrow hlt h hA
  have hold : ∀ p ∈ pa, (fun b => decide (b < W.heap.size)) p.block = true := fun p hp => by simpa using hlt p hp
  refine ⟨ds, [], pa, [], pa, [], hW', ?_, ?_, ?_, hb.frame _, fun _ => ?_⟩
  · rw [hs']; exact hres _ _ _
  · rw [hs']; exact hargs _ hold
  · rw [hvars, hs']; rfl
  · refine ⟨ok_one hrt rfl (okWide_bool_mk ht true), _, [], ([] ++ pa) ++ [], ⟨[] ++ pa, [], trodAll_append (hargs _ (fun _ _ => rfl)) (hres _ _ _), by rw [hvars]; rfl, rfl, ?_, ?_⟩, ?_⟩
    · intro b off hp
      have hp' : MemPlace.cell b off ∈ pa := by simpa using hp
      rw [hb.frozen (p := ⟨b, off, none⟩) (hlt _ hp')]
      exact hz b off hp'
    · intro ha
      simpa using hn ha
    · intro p hp _
      simpa using hp
theorem wf_i64 {n : Int} (h : (Lit.int .i64 n).wf = true) : Value.int .i64 n = I64 (BitVec.ofInt 64 n) := by
  simp only [Lit.wf, Bool.and_eq_true, IntKind.min, IntKind.max] at h
  exact cI64 n (by simpa [IntKind.min, IntKind.max, IntKind.signed, IntKind.bits] using h)
theorem wf_u8 {n : Int} (h : (Lit.int .u8 n).wf = true) : ∃ m : Nat, n = ((m : Nat) : Int) ∧ m < 256 := by
  simp only [Lit.wf, Bool.and_eq_true, decide_eq_true_eq] at h
  have h' : 0 ≤ n ∧ n ≤ 255 := h
  exact ⟨n.toNat, by omega, by omega⟩
theorem cells_of_ints {W : World} {a : Addr} {zs : List Int} (hc : ∀ i, i < zs.length → W.cell? (a.add i) = some (.int .i64 (zs.getD i 0))) (hw : ∀ n ∈ zs, (Lit.int .i64 n).wf = true) (l : Nat) (hl : l ≤ zs.length) (h0 : 0 < l) :
    a.spot = none ∧ Cells W a.block a.off (((zs.take l).map (BitVec.ofInt 64)).map I64) := by
  have h1 := hc 0 (by omega)
  have hs : a.spot = none := by
    simp only [Addr.add, if_true] at h1
    unfold World.cell? at h1
    split at h1
    · split at h1
      · cases h1
      · rename_i hn; simpa using hn
    · cases h1
  refine ⟨hs, fun j u hj => ?_⟩
  simp only [List.map_map, List.getElem?_map, Option.map_eq_some_iff] at hj
  obtain ⟨z, hz, rfl⟩ := hj
  obtain ⟨hj, rfl⟩ := List.getElem?_eq_some_iff.1 hz
  simp only [List.length_take] at hj
  have h2 := hc j (by omega)
  have e : a.add j = ⟨a.block, a.off + j, none⟩ := by
    unfold Addr.add
    split
    · rename_i h; subst h; rw [← hs]; rfl
    · rfl
  rw [e, List.getD_eq_getElem?_getD, List.getElem?_eq_getElem (show j < zs.length by omega), Option.getD_some] at h2
  rw [h2, List.getElem_take]
  exact congrArg some (wf_i64 (hw _ (List.getElem_mem _)))
theorem mem_params {f : Func} {p : TypeId → Bool} (h : f.params.toList.all p = true) {j : Nat} {t : TypeId} (ht : f.params[j]? = some t) : p t = true :=
  List.all_eq_true.1 h t (by have := Array.mem_of_getElem? ht; simpa using this)
end Go.Ux
