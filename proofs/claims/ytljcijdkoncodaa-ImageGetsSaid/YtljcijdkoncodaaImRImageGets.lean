/- Proved: for every input the law ImageGets returns true, and each argument reads behind the call as it read before. No condition. Printed by gen_irows.py. -/
import Derived.Test.YtljcijdkoncodaaUxOpen
import Derived.Test.YtljcijdkoncodaaImZ8
namespace Go.Proofs.Ytljcijdkoncodaa.imageGets
open Go.ChangeShapes Go.WideShapes Go.ChangeAt Go.RowKit Go.Ux Go.Ux.Image Go.Proofs.I
set_option linter.unusedVariables false

theorem own : ownKnob Try.prog.godebug = none := by kernel_rfl
theorem laidOut : laidOutB Try.prog = true := by kernel_rfl
theorem rowed : (Try.f4.params.toList.all fun t => Try.prog.readableRec t && decide (t < Try.prog.types.size)) = true := by kernel_rfl

set_option maxRecDepth 100000 in
/-- WHAT THE CONTRACT GIVES, FOR EVERY ARGUMENT AND EVERY WORLD. -/
theorem contract (H : Type) (enc : TypeId × Value → H) (W : World) (base : Nat) (args : Array Value) (ds gs : List (DataW H)) (before : List MemPlace)
    (hval : ∀ (j : Nat) t v, Try.f4.params[j]? = some t → args[j]? = some v → Value.okWide Try.prog W .any base t v)
    (hW : DataW.Whole enc Try.prog Try.f4.params.toList Rows.imageGetsSpec.vars false W args.toList ds gs before) :
    CallsR Try.prog 4 args W fun v W' => Rows.imageGetsSpec.post enc Try.prog Try.f4 false true false false W args v W' := by
  have hW' := hW
  obtain ⟨p, q, hA0, hV, rfl, hfz, hnd⟩ := hW
  have hA : DataW.TrodAll enc Try.prog W 0 (fun _ => true) true Try.f4.params.toList args.toList ds p := hA0
  rw [Try.params4] at hA hval
  obtain ⟨v0, vs0, d0, ds0, p0, q0, hargs, rfl, rfl, h0, r0⟩ := trodAll_cons hA
  obtain ⟨v1, vs1, d1, ds1, p1, q1, rfl, rfl, rfl, h1, r1⟩ := trodAll_cons r0
  obtain ⟨v2, vs2, d2, ds2, p2, q2, rfl, rfl, rfl, h2, r2⟩ := trodAll_cons r1
  obtain ⟨rfl, rfl, rfl⟩ := trodAll_nil r2
  obtain rfl : args = #[v0, v1, v2] := by cases args; simp_all
  have fin : ∀ v W', v = .bool true ∧ Ext W W' → Rows.imageGetsSpec.post enc Try.prog Try.f4 false true false false W #[v0, v1, v2] v W' := by
    rintro v W' ⟨rfl, he⟩
    exact post_law laidOut (fun t ht => by have := List.all_eq_true.1 rowed t ht; simpa using this) (by kernel_rfl) Try.underlying4 rfl rfl hW' he.below
  clear hA0 hW'
  obtain ⟨fuel0, hf0⟩ := h0
  obtain ⟨b0, l0, c0, rfl⟩ := okWide_slice Try.underlying28 (hval 0 28 v0 rfl rfl)
  obtain ⟨u0, m0, hc0, hb0⟩ := open_bytes Try.underlying28 Try.underlying5 (by kernel_rfl) hf0
  simp only [Value.cells, List.cons.injEq, and_true] at hc0
  subst hc0
  obtain ⟨a1, rfl, rfl, rfl, w1⟩ := open_int Try.underlying43 (hval 1 43 v1 rfl rfl) h1
  obtain ⟨n1, rfl, hn1⟩ := wf_u16 w1
  obtain ⟨fuel2, hf2⟩ := h2
  obtain ⟨b2, l2, c2, rfl⟩ := okWide_slice Try.underlying28 (hval 2 28 v2 rfl rfl)
  obtain ⟨u2, m2, hc2, hb2⟩ := open_bytes Try.underlying28 Try.underlying5 (by kernel_rfl) hf2
  simp only [Value.cells, List.cons.injEq, and_true] at hc2
  subst hc2
  exact (imageGets_spec _ _ m0 m2 n1 W hb0 hb2 hn1).mono fin

set_option maxRecDepth 100000 in
theorem lifted (os : Os) (started : os.Started) (H : Type) (enc : TypeId × Value → H) :
    ReturnsInHanded {} Try.checked os 4 .any (Rows.imageGetsSpec.pre6 enc Try.prog Try.f4 Rows.imageGetsRow.domain false) (Rows.imageGetsSpec.post enc Try.prog Try.f4 false true false false) := by
  refine returnsInHanded_of_change (C := Try.checked) own started (by kernel_rfl) Try.func4
    (ChangeSpec.witness6 (enc := enc) (C := Try.checked) false ⟨#[], #[Value.slice none 0 0, Value.int .u16 0, Value.slice none 0 0], []⟩ 8 (by kernel_rfl) (by kernel_rfl) (by kernel_rfl) (by kernel_rfl)) ?_
  intro W base args ds gs before hval hW _ _
  exact contract H enc W base args ds gs before hval hW

theorem said : Rows.ImageGetsSaid :=
  OpenClaim.holds_of_wide 4 Try.f4 rfl rfl rfl rfl rfl rfl rfl ⟨rfl, rfl, rfl, rfl, rfl⟩ rfl rfl rfl rfl rfl (by kernel_rfl) Try.func4 (by kernel_rfl)
    (of_decide_eq_true (by kernel_rfl)) (by unfold Func.isWrapper; first | (rw [if_pos (by decide +kernel)]; kernel_rfl) | (rw [if_neg (by decide +kernel)]; exact ⟨rfl, rfl⟩))
    (fun os started H enc _ => lifted os started H enc)
end Go.Proofs.Ytljcijdkoncodaa.imageGets
