/- Proved: for every input the law ImageSame returns true, and each argument reads behind the call as it read before. No condition. Printed by gen_irows.py. -/
import Derived.Test.YtljcijdkoncodaaUxOpen
import Derived.Test.YtljcijdkoncodaaImZ8
namespace Go.Proofs.Ytljcijdkoncodaa.imageSame
open Go.ChangeShapes Go.WideShapes Go.ChangeAt Go.RowKit Go.Ux Go.Ux.Image Go.Proofs.I
set_option linter.unusedVariables false

theorem own : ownKnob Try.prog.godebug = none := by kernel_rfl
theorem laidOut : laidOutB Try.prog = true := by kernel_rfl
theorem rowed : (Try.f5.params.toList.all fun t => Try.prog.readableRec t && decide (t < Try.prog.types.size)) = true := by kernel_rfl
theorem openI {H : Type} {enc : TypeId × Value → H} {W : World} {r : Reach} {b0 base : Nat} {held : Bool} {v : Value} {d : DataW H} {p : List MemPlace} (hv : Value.okWide Try.prog W r b0 25 v) (h : DataW.Trod enc Try.prog W base (fun _ => true) held 25 v d p) :
    ∃ (I : Img) (sv wv : Value), v = .agg #[.int .i64 I.entry, sv, wv] ∧ Sl W sv 2 I.syms.length (symCells I.syms) ∧ Sl W wv 1 I.words.length (wordCells I.words) ∧ ∀ s ∈ I.syms, s.2 ≤ 9223372036854775807 :=
  open_img (t1 := 22) (t2 := 23) Try.underlying25 (by kernel_rfl) (by kernel_rfl) Try.underlying3 Try.underlying22 Try.underlying49 (by kernel_rfl) rfl rfl (by kernel_rfl) (by kernel_rfl) Try.underlying9 Try.underlying3 Try.underlying23 Try.underlying42 (by kernel_rfl) hv h

set_option maxRecDepth 100000 in
/-- WHAT THE CONTRACT GIVES, FOR EVERY ARGUMENT AND EVERY WORLD. -/
theorem contract (H : Type) (enc : TypeId × Value → H) (W : World) (base : Nat) (args : Array Value) (ds gs : List (DataW H)) (before : List MemPlace)
    (hval : ∀ (j : Nat) t v, Try.f5.params[j]? = some t → args[j]? = some v → Value.okWide Try.prog W .any base t v)
    (hW : DataW.Whole enc Try.prog Try.f5.params.toList Rows.imageSameSpec.vars false W args.toList ds gs before) :
    CallsR Try.prog 5 args W fun v W' => Rows.imageSameSpec.post enc Try.prog Try.f5 false true false false W args v W' := by
  have hW' := hW
  obtain ⟨p, q, hA0, hV, rfl, hfz, hnd⟩ := hW
  have hA : DataW.TrodAll enc Try.prog W 0 (fun _ => true) true Try.f5.params.toList args.toList ds p := hA0
  rw [Try.params5] at hA hval
  obtain ⟨v0, vs0, d0, ds0, p0, q0, hargs, rfl, rfl, h0, r0⟩ := trodAll_cons hA
  obtain ⟨v1, vs1, d1, ds1, p1, q1, rfl, rfl, rfl, h1, r1⟩ := trodAll_cons r0
  obtain ⟨rfl, rfl, rfl⟩ := trodAll_nil r1
  obtain rfl : args = #[v0, v1] := by cases args; simp_all
  have fin : ∀ v W', v = .bool true ∧ Ext W W' → Rows.imageSameSpec.post enc Try.prog Try.f5 false true false false W #[v0, v1] v W' := by
    rintro v W' ⟨rfl, he⟩
    exact post_law laidOut (fun t ht => by have := List.all_eq_true.1 rowed t ht; simpa using this) (by kernel_rfl) Try.underlying4 rfl rfl hW' he.below
  clear hA0 hW'
  obtain ⟨I0, sv0, wv0, rfl, hs0, hw0, ha0⟩ := openI (hval 0 25 v0 rfl rfl) h0
  obtain ⟨I1, sv1, wv1, rfl, hs1, hw1, ha1⟩ := openI (hval 1 25 v1 rfl rfl) h1
  exact (imageSame_spec sv0 wv0 I0 sv1 wv1 I1 W hs0 hw0 hs1 hw1).mono fin

set_option maxRecDepth 100000 in
theorem lifted (os : Os) (started : os.Started) (H : Type) (enc : TypeId × Value → H) :
    ReturnsInHanded {} Try.checked os 5 .any (Rows.imageSameSpec.pre6 enc Try.prog Try.f5 Rows.imageSameRow.domain false) (Rows.imageSameSpec.post enc Try.prog Try.f5 false true false false) := by
  refine returnsInHanded_of_change (C := Try.checked) own started (by kernel_rfl) Try.func5
    (ChangeSpec.witness6 (enc := enc) (C := Try.checked) false ⟨#[], #[Value.agg #[.int .i64 0, .slice none 0 0, .slice none 0 0], Value.agg #[.int .i64 0, .slice none 0 0, .slice none 0 0]], []⟩ 8 (by kernel_rfl) (by kernel_rfl) (by kernel_rfl) (by kernel_rfl)) ?_
  intro W base args ds gs before hval hW _ _
  exact contract H enc W base args ds gs before hval hW

theorem said : Rows.ImageSameSaid :=
  OpenClaim.holds_of_wide 5 Try.f5 rfl rfl rfl rfl rfl rfl rfl ⟨rfl, rfl, rfl, rfl, rfl⟩ rfl rfl rfl rfl rfl (by kernel_rfl) Try.func5 (by kernel_rfl)
    (of_decide_eq_true (by kernel_rfl)) (by unfold Func.isWrapper; first | (rw [if_pos (by decide +kernel)]; kernel_rfl) | (rw [if_neg (by decide +kernel)]; exact ⟨rfl, rfl⟩))
    (fun os started H enc _ => lifted os started H enc)
end Go.Proofs.Ytljcijdkoncodaa.imageSame
