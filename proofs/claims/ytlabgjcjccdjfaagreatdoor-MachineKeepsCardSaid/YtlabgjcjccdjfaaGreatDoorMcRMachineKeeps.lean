/- Proved: for every input the law MachineKeeps returns true, and each argument reads behind the call as it read before. Condition: the listed package-level variables (five shapes of words of proofmark rv; errors.errorType) start as the program's text lays them; the card ties them to that text (the given tie). Printed by gen_mrows.py. -/
import Derived.Test.YtlabgjcjccdjfaaGreatDoorMpackQ02
import Derived.Test.YtlabgjcjccdjfaaGreatDoorMpackQ13
namespace Go.Proofs.YtlabgjcjccdjfaaGreatDoor.machineKeeps
open Go.ChangeShapes Go.WideShapes Go.ChangeAt Go.RowKit Go.Ux Go.Ux.Image Go.Proofs.M Go.Proofs.S Condition
set_option linter.unusedVariables false
theorem rowed : (Tryz.f5.params.toList.all fun t => Tryz.prog.readableRec t && decide (t < Tryz.prog.types.size)) = true := by kernel_rfl
set_option maxRecDepth 100000 in
theorem openB {H : Type} {enc : TypeId × Value → H} {W : World} {base : Nat} {held : Bool} {v : Value} {d : DataW H} {p : List MemPlace} (hv : Value.okWide Tryz.prog W .any base 45 v) (h : DataW.Trod enc Tryz.prog W 0 (fun _ => true) held 45 v d p) :
    ∃ l, Sl W v 1 (List.length l) (l.map U8) := by
  obtain ⟨fuel, hf⟩ := h
  obtain ⟨b, l0, c, rfl⟩ := okWide_slice Tryz.underlying45 hv
  obtain ⟨u, l, hc, hs⟩ := open_bytes Tryz.underlying45 Tryz.underlying5 (by kernel_rfl) hf
  simp only [Value.cells, List.cons.injEq, and_true] at hc
  subst hc
  rw [bs_U8] at hs
  exact ⟨l.map UInt8.toBitVec, by rw [List.length_map]; exact hs⟩
set_option maxRecDepth 100000 in
theorem openW {H : Type} {enc : TypeId × Value → H} {W : World} {base : Nat} {held : Bool} {v : Value} {d : DataW H} {p : List MemPlace} (hv : Value.okWide Tryz.prog W .any base 23 v) (h : DataW.Trod enc Tryz.prog W 0 (fun _ => true) held 23 v d p) :
    ∃ l, Sl W v 1 (List.length l) (wordCells l) := by
  obtain ⟨fuel, hf⟩ := h
  obtain ⟨b, l0, c, rfl⟩ := okWide_slice Tryz.underlying23 hv
  obtain ⟨u, l, hc, hs⟩ := open_words Tryz.underlying23 Tryz.underlying50 (by kernel_rfl) hf
  simp only [Value.cells, List.cons.injEq, and_true] at hc
  subst hc
  exact ⟨l, hs⟩
set_option maxRecDepth 100000 in
/-- WHAT THE CONTRACT GIVES, FOR EVERY ARGUMENT AND EVERY WORLD THAT MEETS THE CONDITION. -/
theorem contract (H : Type) (enc : TypeId × Value → H) (W : World) (base : Nat) (args : Array Value) (ds gs : List (DataW H)) (before : List MemPlace)
    (hval : ∀ (j : Nat) t v, Tryz.f5.params[j]? = some t → args[j]? = some v → Value.okWide Tryz.prog W .any base t v)
    (hW : DataW.Whole enc Tryz.prog Tryz.f5.params.toList Rows.machineKeepsSpec.vars false W args.toList ds gs before) (hL : laidMetH Tryz.prog Rows.machineKeepsRow.laid W) :
    CallsR Tryz.prog 5 args W fun v W' => Rows.machineKeepsSpec.post enc Tryz.prog Tryz.f5 false true false false W args v W' := by
  have hW' := hW
  obtain ⟨p, q, hA0, hV, rfl, hfz, hnd⟩ := hW
  have hA : DataW.TrodAll enc Tryz.prog W 0 (fun _ => true) true Tryz.f5.params.toList args.toList ds p := hA0
  rw [Tryz.params5] at hA hval
  obtain ⟨v0, vs0, d0, ds0, p0, q0, hargs, rfl, rfl, h0, r0⟩ := trodAll_cons hA
  obtain ⟨v1, vs1, d1, ds1, p1, q1, rfl, rfl, rfl, h1, r1⟩ := trodAll_cons r0
  obtain ⟨v2, vs2, d2, ds2, p2, q2, rfl, rfl, rfl, h2, r2⟩ := trodAll_cons r1
  obtain ⟨rfl, rfl, rfl⟩ := trodAll_nil r2
  obtain rfl : args = #[v0, v1, v2] := by cases args; simp_all
  obtain ⟨hG, hX⟩ := opened hL
  have fin : ∀ v W', v = .bool true ∧ Ext W W' → Rows.machineKeepsSpec.post enc Tryz.prog Tryz.f5 false true false false W #[v0, v1, v2] v W' := by
    rintro v W' ⟨rfl, he⟩
    exact post_law laidOut (fun t ht => by have := List.all_eq_true.1 rowed t ht; simpa using this) (by kernel_rfl) Tryz.underlying4 rfl rfl hW' he.below
  clear hA0 hW'
  obtain ⟨l0, hI0⟩ := openB (hval 0 45 v0 rfl rfl) h0
  obtain ⟨l1, hI1⟩ := openB (hval 1 45 v1 rfl rfl) h1
  obtain ⟨l2, hI2⟩ := openW (hval 2 23 v2 rfl rfl) h2
  exact (keeps_spec v0 v1 v2 l0 l1 l2 W hG hX hI0 hI1 hI2).mono fin
theorem reads (os : Os) {H : Type} (enc : TypeId × Value → H) : ∃ places, DataW.whole enc Tryz.prog ((laidWorld os).forCall (fun _ _ => 0) ⟨#[], #[Value.slice none 0 0, Value.slice none 0 0, Value.slice none 0 0], []⟩).memory Tryz.f5.params.toList Rows.machineKeepsSpec.vars false (#[Value.slice none 0 0, Value.slice none 0 0, Value.slice none 0 0] : Array Value).toList 8 = some ([.nil, .nil, .nil], [], places) :=
  ⟨[], by kernel_rfl⟩
set_option maxRecDepth 100000 in
theorem lifted (os : Os) (started : os.Started) (H : Type) (enc : TypeId × Value → H) :
    ReturnsInHanded {} Tryz.checked os 5 .any (fun w args => (Rows.machineKeepsSpec.pre enc Tryz.prog Tryz.f5 [] false w args ∧ laidMetH Tryz.prog Rows.machineKeepsRow.laid w) ∧ sizedMet enc Tryz.prog Tryz.f5 (OpenSpec.ofChange Rows.machineKeepsSpec) false w args)
      (Rows.machineKeepsSpec.post enc Tryz.prog Tryz.f5 false true false false) := by
  refine returnsInHanded_of_change_and (C := Tryz.checked) (X := fun w _ => laidMetH Tryz.prog Rows.machineKeepsRow.laid w) (fun _ _ _ hh h => h.of_heap hh) own started (by kernel_rfl) Tryz.func5
    (ChangeSpec.witness_at (enc := enc) (C := Tryz.checked) (os := os) (X := fun w _ => laidMetH Tryz.prog Rows.machineKeepsRow.laid w) false (laidWorld os) #[Value.slice none 0 0, Value.slice none 0 0, Value.slice none 0 0] 8 rfl (by kernel_rfl) (by kernel_rfl) (by kernel_rfl) (by kernel_rfl) (by kernel_rfl) (laid_met os _)) ?_
  intro W base args ds gs before hval hW _ _ hL _
  exact contract H enc W base args ds gs before hval hW hL
theorem said : Rows.MachineKeepsSaid :=
  OpenClaim.holds_of_wide 5 Tryz.f5 rfl rfl rfl rfl rfl rfl rfl ⟨rfl, rfl, rfl, rfl, rfl⟩ rfl rfl rfl rfl rfl (by kernel_rfl) Tryz.func5 (by kernel_rfl)
    (of_decide_eq_true (by kernel_rfl)) (by unfold Func.isWrapper; first | (rw [if_pos (by decide +kernel)]; kernel_rfl) | (rw [if_neg (by decide +kernel)]; exact ⟨rfl, rfl⟩))
    (fun os started H enc _ => lifted os started H enc)
theorem noStand : (Tryz.f5.params.toList.all fun t => !Tryz.prog.wantsStandIn t) = true := by kernel_rfl
/-- No parameter wants a stand-in; the program's own looks are off: what the card asks. -/
theorem plain (f : FuncId) (fn : Func) (hf : Tryz.pinned.checked.prog.funcNamed Rows.machineKeepsRow.func = some f) (hfn : Tryz.pinned.checked.prog.funcs[f]? = some fn) :
    true = Tryz.pinned.checked.prog.looks [] ∧ ∀ (j : Nat) t, fn.params[j]? = some t → Tryz.pinned.checked.prog.wantsStandIn t = false := by
  obtain rfl : f = 5 := Option.some.inj ((show Tryz.prog.funcNamed Rows.machineKeepsRow.func = some 5 by kernel_rfl).symm.trans hf) |>.symm
  obtain rfl : fn = Tryz.f5 := (Option.some.inj (Tryz.func5.symm.trans hfn)).symm
  exact ⟨by kernel_rfl, fun j t ht => by have h : (!Tryz.prog.wantsStandIn t) = true := mem_params noStand ht; exact (by simpa using h : Tryz.prog.wantsStandIn t = false)⟩
/-- THE CARD. -/
theorem card : Rows.MachineKeepsCardSaid :=
  Claim7.holds_tied_plain_at .later [] _ _ _ _ said (fun _ h => by cases h) (by kernel_rfl) (fun _ h => by cases h) machineKeeps_row_tie rfl ⟨rfl, rfl⟩ (by kernel_rfl) rfl plain (by kernel_rfl)
end Go.Proofs.YtlabgjcjccdjfaaGreatDoor.machineKeeps
