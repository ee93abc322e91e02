/- Proved: for every input the law WordAll returns true, and each argument reads behind the call as it read before. Condition: the package-level variable deBruijn64tab of math bits starts as the program's text lays it; the card ties it to that text (the given tie; over the pruned copy of the project). Printed by gen_rows.py. -/
import Derived.Test.YtgjhmdnbpnpkaaaDoorCards
import Derived.Test.YtgjhmdnbpnpkaaaDoorTie
import Derived.Deep.DeepHandedRow
import Derived.Lib.LaidTab
import Derived.Test.YtgjhmdnbpnpkaaaDoorUxRow
import Derived.Test.YtgjhmdnbpnpkaaaDoorWtX6
namespace Go.Proofs.YtgjhmdnbpnpkaaaDoor.wordAll
open Go.ChangeShapes Go.WideShapes Go.ChangeAt Go.RowKit Go.Ux Go.Ux.Word Go.Proofs.W

theorem own : ownKnob Tryd.prog.godebug = none := by kernel_rfl
theorem laidOut : laidOutB Tryd.prog = true := by kernel_rfl
theorem gTab : Tryd.prog.globalNamed (Rows.wordAllRow.named.headD "") = some 0 := by kernel_rfl
theorem gTabType : (Tryd.prog.globals[0]?).map (·.type) = some 56 := by kernel_rfl
theorem cellsTab : Tryd.prog.cellsOf 56 = 64 := by kernel_rfl
theorem cellsElem : Tryd.prog.cellsOf 5 = 1 := by kernel_rfl
theorem rowed : (Tryd.f8.params.toList.all fun t => Tryd.prog.readableRec t && decide (t < Tryd.prog.types.size)) = true := by kernel_rfl

/-- WHAT THE ROW's LIST GIVES: the table's cells hold its numbers. -/
theorem table {W : World} (h : laidMetH Tryd.prog Rows.wordAllRow.laid W) : Tab W := by
  have h1 : Lib.TabIs Tryd.prog W (Rows.wordAllRow.named.headD "") .u8 tab := Lib.tabIs_of_head (rest := []) gTab gTabType Tryd.underlying56 Tryd.underlying5 cellsElem cellsTab h
  intro j u hj
  rw [Nat.zero_add]
  exact World.var?_cell gTab h1 j |>.trans (by rw [List.getElem?_toArray]; exact hj)

set_option maxRecDepth 100000 in
/-- WHAT THE CONTRACT GIVES, FOR EVERY ARGUMENT AND EVERY WORLD THAT HOLDS THE TABLE. -/
theorem contract (H : Type) (enc : TypeId × Value → H) (W : World) (base : Nat) (args : Array Value) (ds gs : List (DataW H)) (before : List MemPlace)
    (hval : ∀ (j : Nat) t v, Tryd.f8.params[j]? = some t → args[j]? = some v → Value.okWide Tryd.prog W .any base t v)
    (hW : DataW.Whole enc Tryd.prog Tryd.f8.params.toList Rows.wordAllSpec.vars false W args.toList ds gs before) (hL : laidMetH Tryd.prog Rows.wordAllRow.laid W) :
    CallsR Tryd.prog 8 args W fun v W' => Rows.wordAllSpec.post enc Tryd.prog Tryd.f8 false true false false W args v W' := by
  have hW' := hW
  obtain ⟨p, q, hA0, hV, rfl, hfz, hnd⟩ := hW
  have hA : DataW.TrodAll enc Tryd.prog W 0 (fun _ => true) true Tryd.f8.params.toList args.toList ds p := hA0
  rw [Tryd.params8] at hA hval
  obtain ⟨v0, vs0, d0, ds0, p0, q0, hargs, rfl, rfl, h0, r0⟩ := trodAll_cons hA
  obtain ⟨v1, vs1, d1, ds1, p1, q1, rfl, rfl, rfl, h1, r1⟩ := trodAll_cons r0
  obtain ⟨rfl, rfl, rfl⟩ := trodAll_nil r1
  obtain rfl : args = #[v0, v1] := by cases args; simp_all
  have ht := table hL
  have fin : ∀ v W', v = .bool true ∧ Ext W W' → Rows.wordAllSpec.post enc Tryd.prog Tryd.f8 false true false false W #[v0, v1] v W' := by
    rintro v W' ⟨rfl, he⟩
    exact post_law laidOut (fun t ht => by have := List.all_eq_true.1 rowed t ht; simpa using this) (by kernel_rfl) Tryd.underlying4 rfl rfl hW' he.below
  obtain ⟨a0, rfl, rfl, rfl, w0⟩ := open_int Tryd.underlying22 (hval 0 22 v0 rfl rfl) h0
  obtain ⟨n0, rfl, hn0⟩ := wf_u8 w0
  obtain ⟨fuel, hf⟩ := h1
  rcases open_ints Tryd.underlying35 Tryd.underlying2 (show Tryd.prog.cellsOf 2 = 1 by kernel_rfl) hf with ⟨hcs, -⟩ | ⟨a, len, cap, zs, hcs, -, hl, -, hzl, -, hc, hw⟩
  · obtain ⟨a0, l0, c0, rfl⟩ := okWide_slice Tryd.underlying35 (hval 1 35 v1 rfl rfl)
    simp only [Value.cells, List.cons.injEq, Value.slice.injEq, and_true] at hcs
    obtain ⟨rfl, rfl, rfl⟩ := hcs
    exact (wordAll_nil n0 none 0 W ht).mono fin
  · obtain ⟨a0, l0, c0, rfl⟩ := okWide_slice Tryd.underlying35 (hval 1 35 v1 rfl rfl)
    simp only [Value.cells, List.cons.injEq, Value.slice.injEq, and_true] at hcs
    obtain ⟨rfl, rfl, rfl⟩ := hcs
    have hzl' : zs.length = c0 := hzl
    by_cases h60 : 60 < l0
    · exact (wordAll_long n0 _ l0 c0 W ht h60).mono fin
    by_cases h0 : l0 = 0
    · subst h0; exact (wordAll_nil n0 _ c0 W ht).mono fin
    obtain ⟨hs, hC⟩ := cells_of_ints hc hw l0 (by omega) (by omega)
    have hlen : (zs.take l0).length = l0 := by rw [List.length_take]; omega
    cases hz : zs.take l0 with
    | nil => rw [hz] at hlen; simp at hlen; omega
    | cons z r =>
      rw [hz, List.map_cons] at hC
      have hr : r.length + 1 = l0 := by rw [hz] at hlen; simpa using hlen
      obtain ⟨b, o, s⟩ := a
      obtain rfl : s = none := hs
      have := wordAll_cons n0 (BitVec.ofInt 64 z) (r.map (BitVec.ofInt 64)) b o c0 W hn0 (by rw [List.length_map]; omega) (by rw [List.length_map]; omega) hC ht (by rw [List.length_map]; omega)
      rw [List.length_map, hr] at this
      exact this.mono fin

/-- A WORLD FOR THE WITNESS: the settled one, the table (block 0) holding what its initialiser lays. -/
noncomputable def laidWorld (os : Os) : World :=
  { World.holding Tryd.prog os ⟨#[], #[], []⟩ with heap := (World.holding Tryd.prog os ⟨#[], #[], []⟩).heap.modify 0 fun
      | .cells _ t frozen => .cells (tab.map (Value.int .u8)).toArray t frozen
      | o => o }
theorem laid_met (os : Os) : laidMet Tryd.prog Rows.wordAllRow.laid ((laidWorld os).forCall (fun _ _ => 0) ⟨#[], #[Value.int .u8 0, Value.slice none 0 0], []⟩).memory :=
  laidMet_of_run' 8 (by kernel_rfl) (by kernel_rfl)
theorem reads (os : Os) {H : Type} (enc : TypeId × Value → H) : ∃ places, DataW.whole enc Tryd.prog ((laidWorld os).forCall (fun _ _ => 0) ⟨#[], #[Value.int .u8 0, Value.slice none 0 0], []⟩).memory Tryd.f8.params.toList Rows.wordAllSpec.vars false (#[Value.int .u8 0, Value.slice none 0 0] : Array Value).toList 8 = some ([.lit (.int .u8 0), .nil], [], places) :=
  ⟨[], by kernel_rfl⟩

set_option maxRecDepth 100000 in
theorem lifted (os : Os) (started : os.Started) (H : Type) (enc : TypeId × Value → H) (F : Stop.Interp) :
    ReturnsInHanded {} Tryd.checked os 8 .any ((OpenSpec.ofChange Rows.wordAllSpec).preRow enc Tryd.prog Tryd.f8 Rows.wordAllRow.domain false Rows.wordAllRow.laid) (((OpenSpec.ofChange Rows.wordAllSpec).at F).post enc Tryd.prog Tryd.f8 false true false false) := by
  obtain ⟨places, hx⟩ := reads os enc
  refine returnsInHanded_of_row (C := Tryd.checked) (s := OpenSpec.ofChange Rows.wordAllSpec) own started (by kernel_rfl) Tryd.func8
    (witness_row_at (enc := enc) (C := Tryd.checked) false (laidWorld os) #[Value.int .u8 0, Value.slice none 0 0] rfl (by kernel_rfl) (by kernel_rfl) (by kernel_rfl)
      (OpenSpec.preRow_of_cond 8 hx (by kernel_rfl) (fun k hk => by cases hk) (by kernel_rfl) (laid_met os))) ?_
  intro W base args ds gs before hval hW _ _ _ hL _ _
  exact contract H enc W base args ds gs before hval hW hL

theorem said : Rows.WordAllSaid :=
  OpenClaim.holds_of_cond 8 Tryd.f8 rfl rfl rfl rfl rfl rfl rfl ⟨rfl, rfl, rfl, rfl, rfl⟩ rfl rfl rfl rfl rfl (by kernel_rfl) Tryd.func8 (by kernel_rfl)
    (of_decide_eq_true (by kernel_rfl)) (by unfold Func.isWrapper; first | (rw [if_pos (by decide +kernel)]; kernel_rfl) | (rw [if_neg (by decide +kernel)]; exact ⟨rfl, rfl⟩))
    (fun os started H enc _ F => by rw [OpenClaim.pre_eq_preRow]; exact lifted os started H enc F)

theorem noStand : (Tryd.f8.params.toList.all fun t => !Tryd.prog.wantsStandIn t) = true := by kernel_rfl
/-- No parameter wants a stand-in; the program's own looks are off: what the card asks. -/
theorem plain (f : FuncId) (fn : Func) (hf : Tryd.pinned.checked.prog.funcNamed Rows.wordAllRow.func = some f) (hfn : Tryd.pinned.checked.prog.funcs[f]? = some fn) :
    false = Tryd.pinned.checked.prog.looks [] ∧ ∀ (j : Nat) t, fn.params[j]? = some t → Tryd.pinned.checked.prog.wantsStandIn t = false := by
  obtain rfl : f = 8 := Option.some.inj ((show Tryd.prog.funcNamed Rows.wordAllRow.func = some 8 by kernel_rfl).symm.trans hf) |>.symm
  obtain rfl : fn = Tryd.f8 := (Option.some.inj (Tryd.func8.symm.trans hfn)).symm
  exact ⟨by kernel_rfl, fun j t ht => by have h : (!Tryd.prog.wantsStandIn t) = true := mem_params noStand ht; exact (by simpa using h : Tryd.prog.wantsStandIn t = false)⟩

/-- THE CARD. -/
theorem card : Rows.WordAllCardSaid :=
  Claim7.holds_tied_plain_at .later [] _ _ _ _ said (fun _ h => by cases h) (by kernel_rfl) (fun _ h => by cases h) wordAll_row_tie rfl ⟨rfl, rfl⟩ (by kernel_rfl) rfl plain (by kernel_rfl)
end Go.Proofs.YtgjhmdnbpnpkaaaDoor.wordAll
