/- Proved: for every input the law MachineRuns returns true, and each argument reads behind the call as it read before. Condition: the listed package-level variables (five shapes of words of proofmark rv; errors.errorType) start as the program's text lays them; the card ties them to that text (the given tie). Printed by gen_mrows.py. -/
import Derived.Test.YtlabgjcjccdjfaaGreatDoorMpackQ02
import Derived.Test.YtlabgjcjccdjfaaGreatDoorMpackQ14
namespace Go.Proofs.YtlabgjcjccdjfaaGreatDoor.machineRuns
open Go.ChangeShapes Go.WideShapes Go.ChangeAt Go.RowKit Go.Ux Go.Ux.Image Go.Proofs.M Go.Proofs.S Condition
set_option linter.unusedVariables false
set_option maxRecDepth 100000
theorem rowed : (Tryz.f7.params.toList.all fun t => Tryz.prog.readableRec t && decide (t < Tryz.prog.types.size)) = true := by kernel_rfl
theorem openI {H : Type} {enc : TypeId × Value → H} {W : World} {r : Reach} {b0 base : Nat} {held : Bool} {v : Value} {d : DataW H} {p : List MemPlace} (hv : Value.okWide Tryz.prog W r b0 25 v) (h : DataW.Trod enc Tryz.prog W base (fun _ => true) held 25 v d p) :
  ∃ (I : Img) (sv wv : Value), v = .agg #[.int .i64 I.entry, sv, wv] ∧ Sl W sv 2 I.syms.length (symCells I.syms) ∧ Sl W wv 1 I.words.length (wordCells I.words) ∧ ∀ s ∈ I.syms, s.2 ≤ 9223372036854775807 :=
 open_img (t1 := 22) (t2 := 23) Tryz.underlying25 (by kernel_rfl) (by kernel_rfl) Tryz.underlying3 Tryz.underlying22 Tryz.underlying98 (by kernel_rfl) rfl rfl (by kernel_rfl) (by kernel_rfl) Tryz.underlying9 Tryz.underlying3 Tryz.underlying23 Tryz.underlying50 (by kernel_rfl) hv h
theorem openL {H : Type} {enc : TypeId × Value → H} {W : World} {base : Nat} {held : Bool} {v : Value} {d : DataW H} {p : List MemPlace} (hv : Value.okWide Tryz.prog W .any base 26 v) (h : DataW.Trod enc Tryz.prog W 0 (fun _ => true) held 26 v d p) :
  ∃ l : List (BitVec 64), Sl W v 1 l.length (l.map I64) ∧ (v = .slice none 0 0 ∨ ∃ a c, v = .slice (some a) l.length c) := by
 obtain ⟨fuel, hf⟩ := h
 obtain ⟨b, l0, c, rfl⟩ := okWide_slice Tryz.underlying26 hv
 obtain ⟨u, l, hc, hs, hif⟩ := open_i64s Tryz.underlying26 Tryz.underlying2 (by kernel_rfl) hf
 simp only [Value.cells, List.cons.injEq, and_true] at hc
 subst hc
 exact ⟨l, hs, hif⟩
theorem openU {H : Type} {enc : TypeId × Value → H} {W : World} {base : Nat} {held : Bool} {v : Value} {d : DataW H} {p : List MemPlace} (hv : Value.okWide Tryz.prog W .any base 66 v) (h : DataW.Trod enc Tryz.prog W 0 (fun _ => true) held 66 v d p) :
  ∃ l, Sl W v 1 (List.length l) (l.map U64) := by
 obtain ⟨fuel, hf⟩ := h
 obtain ⟨b, l0, c, rfl⟩ := okWide_slice Tryz.underlying66 hv
 obtain ⟨u, l, hc, hs⟩ := open_u64s Tryz.underlying66 Tryz.underlying39 (by kernel_rfl) hf
 simp only [Value.cells, List.cons.injEq, and_true] at hc
 subst hc
 exact ⟨l, hs⟩
/-- WHAT THE CONTRACT GIVES, FOR EVERY ARGUMENT AND EVERY WORLD THAT MEETS THE CONDITION. -/
theorem contract (H : Type) (enc : TypeId × Value → H) (W : World) (base : Nat) (args : Array Value) (ds gs : List (DataW H)) (before : List MemPlace)
  (hval : ∀ (j : Nat) t v, Tryz.f7.params[j]? = some t → args[j]? = some v → Value.okWide Tryz.prog W .any base t v)
  (hW : DataW.Whole enc Tryz.prog Tryz.f7.params.toList Rows.machineRunsSpec.vars false W args.toList ds gs before) (hL : laidMetH Tryz.prog Rows.machineRunsRow.laid W) :
  CallsR Tryz.prog 7 args W fun v W' => Rows.machineRunsSpec.post enc Tryz.prog Tryz.f7 false true false false W args v W' := by
 have hW' := hW
 obtain ⟨p, q, hA0, hV, rfl, hfz, hnd⟩ := hW
 have hA : DataW.TrodAll enc Tryz.prog W 0 (fun _ => true) true Tryz.f7.params.toList args.toList ds p := hA0
 rw [Tryz.params7] at hA hval
 obtain ⟨v0, vs0, d0, ds0, p0, q0, hargs, rfl, rfl, h0, r0⟩ := trodAll_cons hA
 obtain ⟨v1, vs1, d1, ds1, p1, q1, rfl, rfl, rfl, h1, r1⟩ := trodAll_cons r0
 obtain ⟨v2, vs2, d2, ds2, p2, q2, rfl, rfl, rfl, h2, r2⟩ := trodAll_cons r1
 obtain ⟨v3, vs3, d3, ds3, p3, q3, rfl, rfl, rfl, h3, r3⟩ := trodAll_cons r2
 obtain ⟨rfl, rfl, rfl⟩ := trodAll_nil r3
 obtain rfl : args = #[v0, v1, v2, v3] := by cases args; simp_all
 obtain ⟨hG, hX⟩ := opened hL
 have fin : ∀ v W', v = .bool true ∧ Ext W W' → Rows.machineRunsSpec.post enc Tryz.prog Tryz.f7 false true false false W #[v0, v1, v2, v3] v W' := by
  rintro v W' ⟨rfl, he⟩
  exact post_law laidOut (fun t ht => by have := List.all_eq_true.1 rowed t ht; simpa using this) (by kernel_rfl) Tryz.underlying4 G G hW' he.below
 clear hA0 hW'
 obtain ⟨I0, sv0, wv0, rfl, hs0, hw0, ha0⟩ := openI (hval 0 25 v0 rfl rfl) h0
 obtain ⟨l1, hI1, hf1⟩ := openL (hval 1 26 v1 rfl rfl) h1
 obtain ⟨a2, rfl, rfl, rfl, w2⟩ := open_int Tryz.underlying5 (hval 2 5 v2 rfl rfl) h2
 obtain ⟨x2, rfl⟩ := wf_u8b w2
 obtain ⟨l3, hI3⟩ := openU (hval 3 66 v3 rfl rfl) h3
 exact (runs_spec I0 sv0 wv0 v1 l1 x2 v3 l3 W hG hX hs0 hw0 (fun s hs => ⟨trivial, ha0 s hs⟩) hI1 hf1 hI3).mono fin
theorem reads (os : Os) {H : Type} (enc : TypeId × Value → H) : ∃ places, DataW.whole enc Tryz.prog ((laidWorld os).forCall (fun _ _ => 0) ⟨#[], #[Value.agg #[.int .i64 0, .slice none 0 0, .slice none 0 0], Value.slice none 0 0, Value.int .u8 0, Value.slice none 0 0], []⟩).memory Tryz.f7.params.toList Rows.machineRunsSpec.vars false (#[Value.agg #[.int .i64 0, .slice none 0 0, .slice none 0 0], Value.slice none 0 0, Value.int .u8 0, Value.slice none 0 0] : Array Value).toList 8 = some ([.agg [.lit (.int .i64 0), .nil, .nil], .nil, .lit (.int .u8 0), .nil], [], places) :=
 ⟨[], by kernel_rfl⟩
theorem lifted (os : Os) (started : os.Started) (H : Type) (enc : TypeId × Value → H) :
  ReturnsInHanded {} Tryz.checked os 7 .any (fun w args => (Rows.machineRunsSpec.pre enc Tryz.prog Tryz.f7 [] false w args ∧ laidMetH Tryz.prog Rows.machineRunsRow.laid w) ∧ sizedMet enc Tryz.prog Tryz.f7 (OpenSpec.ofChange Rows.machineRunsSpec) false w args)
   (Rows.machineRunsSpec.post enc Tryz.prog Tryz.f7 false true false false) := by
 refine returnsInHanded_of_change_and (C := Tryz.checked) (X := fun w _ => laidMetH Tryz.prog Rows.machineRunsRow.laid w) (fun _ _ _ hh h => h.of_heap hh) own started (by kernel_rfl) Tryz.func7
  (ChangeSpec.witness_at (enc := enc) (C := Tryz.checked) (os := os) (X := fun w _ => laidMetH Tryz.prog Rows.machineRunsRow.laid w) false (laidWorld os) #[Value.agg #[.int .i64 0, .slice none 0 0, .slice none 0 0], Value.slice none 0 0, Value.int .u8 0, Value.slice none 0 0] 8 rfl (by kernel_rfl) (by kernel_rfl) (by kernel_rfl) (by kernel_rfl) (by kernel_rfl) (laid_met os _)) ?_
 intro W base args ds gs before hval hW _ _ hL _
 exact contract H enc W base args ds gs before hval hW hL
theorem said : Rows.MachineRunsSaid :=
 OpenClaim.holds_of_wide 7 Tryz.f7 rfl rfl rfl rfl rfl rfl rfl ⟨rfl, rfl, rfl, rfl, rfl⟩ rfl rfl rfl rfl rfl (by kernel_rfl) Tryz.func7 (by kernel_rfl)
  (of_decide_eq_true (by kernel_rfl)) (by unfold Func.isWrapper; first | (rw [if_pos (by decide +kernel)]; kernel_rfl) | (rw [if_neg (by decide +kernel)]; exact ⟨rfl, rfl⟩))
  (fun os started H enc _ => lifted os started H enc)
theorem noStand : (Tryz.f7.params.toList.all fun t => !Tryz.prog.wantsStandIn t) = true := by kernel_rfl
/-- No parameter wants a stand-in; the program's own looks are off: what the card asks. -/
theorem plain (f : FuncId) (fn : Func) (hf : Tryz.pinned.checked.prog.funcNamed Rows.machineRunsRow.func = some f) (hfn : Tryz.pinned.checked.prog.funcs[f]? = some fn) :
  true = Tryz.pinned.checked.prog.looks [] ∧ ∀ (j : Nat) t, fn.params[j]? = some t → Tryz.pinned.checked.prog.wantsStandIn t = false := by
 obtain rfl : f = 7 := Option.some.inj ((show Tryz.prog.funcNamed Rows.machineRunsRow.func = some 7 by kernel_rfl).symm.trans hf) |>.symm
 obtain rfl : fn = Tryz.f7 := (Option.some.inj (Tryz.func7.symm.trans hfn)).symm
 exact ⟨by kernel_rfl, fun j t ht => by have h : (!Tryz.prog.wantsStandIn t) = true := mem_params noStand ht; exact (by simpa using h : Tryz.prog.wantsStandIn t = false)⟩
/-- THE CARD. -/
theorem card : Rows.MachineRunsCardSaid :=
 Claim7.holds_tied_plain_at .later [] _ _ _ _ said (fun _ h => by cases h) (by kernel_rfl) (fun _ h => by cases h) machineRuns_row_tie rfl ⟨rfl, rfl⟩ (by kernel_rfl) rfl plain (by kernel_rfl)
end Go.Proofs.YtlabgjcjccdjfaaGreatDoor.machineRuns
