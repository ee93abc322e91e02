/- Proved: for every input the law ImageUnlike returns true, and each argument reads behind the call as it read before. No condition. Printed by gen_irows.py. -/
import Derived.Test.YtljcijdkoncodaaUxOpen
import Derived.Test.YtljcijdkoncodaaImZ8
namespace Go.Proofs.Ytljcijdkoncodaa.imageUnlike
open Go.ChangeShapes Go.WideShapes Go.ChangeAt Go.RowKit Go.Ux Go.Ux.Image Go.Proofs.I
set_option linter.unusedVariables false

theorem own : ownKnob Try.prog.godebug = none := by kernel_rfl
theorem laidOut : laidOutB Try.prog = true := by kernel_rfl
theorem rowed : (Try.f6.params.toList.all fun t => Try.prog.readableRec t && decide (t < Try.prog.types.size)) = true := by kernel_rfl
theorem openI {H : Type} {enc : TypeId × Value → H} {W : World} {r : Reach} {b0 base : Nat} {held : Bool} {v : Value} {d : DataW H} {p : List MemPlace} (hv : Value.okWide Try.prog W r b0 25 v) (h : DataW.Trod enc Try.prog W base (fun _ => true) held 25 v d p) :
    ∃ (I : Img) (sv wv : Value), v = .agg #[.int .i64 I.entry, sv, wv] ∧ Sl W sv 2 I.syms.length (symCells I.syms) ∧ Sl W wv 1 I.words.length (wordCells I.words) ∧ ∀ s ∈ I.syms, s.2 ≤ 9223372036854775807 :=
  open_img (t1 := 22) (t2 := 23) Try.underlying25 (by kernel_rfl) (by kernel_rfl) Try.underlying3 Try.underlying22 Try.underlying49 (by kernel_rfl) rfl rfl (by kernel_rfl) (by kernel_rfl) Try.underlying9 Try.underlying3 Try.underlying23 Try.underlying42 (by kernel_rfl) hv h

set_option maxRecDepth 100000 in
/-- WHAT THE CONTRACT GIVES, FOR EVERY ARGUMENT AND EVERY WORLD. -/
theorem contract (H : Type) (enc : TypeId × Value → H) (W : World) (base : Nat) (args : Array Value) (ds gs : List (DataW H)) (before : List MemPlace)
    (hval : ∀ (j : Nat) t v, Try.f6.params[j]? = some t → args[j]? = some v → Value.okWide Try.prog W .any base t v)
    (hW : DataW.Whole enc Try.prog Try.f6.params.toList Rows.imageUnlikeSpec.vars false W args.toList ds gs before) :
    CallsR Try.prog 6 args W fun v W' => Rows.imageUnlikeSpec.post enc Try.prog Try.f6 false true false false W args v W' := by
  have hW' := hW
  obtain ⟨p, q, hA0, hV, rfl, hfz, hnd⟩ := hW
  have hA : DataW.TrodAll enc Try.prog W 0 (fun _ => true) true Try.f6.params.toList args.toList ds p := hA0
  rw [Try.params6] at hA hval
  obtain ⟨v0, vs0, d0, ds0, p0, q0, hargs, rfl, rfl, h0, r0⟩ := trodAll_cons hA
  obtain ⟨v1, vs1, d1, ds1, p1, q1, rfl, rfl, rfl, h1, r1⟩ := trodAll_cons r0
  obtain ⟨v2, vs2, d2, ds2, p2, q2, rfl, rfl, rfl, h2, r2⟩ := trodAll_cons r1
  obtain ⟨v3, vs3, d3, ds3, p3, q3, rfl, rfl, rfl, h3, r3⟩ := trodAll_cons r2
  obtain ⟨rfl, rfl, rfl⟩ := trodAll_nil r3
  obtain rfl : args = #[v0, v1, v2, v3] := by cases args; simp_all
  have fin : ∀ v W', v = .bool true ∧ Ext W W' → Rows.imageUnlikeSpec.post enc Try.prog Try.f6 false true false false W #[v0, v1, v2, v3] v W' := by
    rintro v W' ⟨rfl, he⟩
    exact post_law laidOut (fun t ht => by have := List.all_eq_true.1 rowed t ht; simpa using this) (by kernel_rfl) Try.underlying4 rfl rfl hW' he.below
  clear hA0 hW'
  obtain ⟨I0, sv0, wv0, rfl, hs0, hw0, ha0⟩ := openI (hval 0 25 v0 rfl rfl) h0
  obtain ⟨I1, sv1, wv1, rfl, hs1, hw1, ha1⟩ := openI (hval 1 25 v1 rfl rfl) h1
  obtain ⟨a2, rfl, rfl, rfl, w2⟩ := open_int Try.underlying43 (hval 2 43 v2 rfl rfl) h2
  obtain ⟨n2, rfl, hn2⟩ := wf_u16 w2
  obtain ⟨a3, rfl, rfl, rfl, w3⟩ := open_int Try.underlying5 (hval 3 5 v3 rfl rfl) h3
  obtain ⟨x3, rfl⟩ := wf_u8b w3
  exact (imageUnlike_spec sv0 wv0 I0 sv1 wv1 I1 n2 x3 W hs0 hw0 hs1 hw1 ha0 ha1 hn2).mono fin

set_option maxRecDepth 100000 in
theorem lifted (os : Os) (started : os.Started) (H : Type) (enc : TypeId × Value → H) :
    ReturnsInHanded {} Try.checked os 6 .any (Rows.imageUnlikeSpec.pre6 enc Try.prog Try.f6 Rows.imageUnlikeRow.domain false) (Rows.imageUnlikeSpec.post enc Try.prog Try.f6 false true false false) := by
  refine returnsInHanded_of_change (C := Try.checked) own started (by kernel_rfl) Try.func6
    (ChangeSpec.witness6 (enc := enc) (C := Try.checked) false ⟨#[], #[Value.agg #[.int .i64 0, .slice none 0 0, .slice none 0 0], Value.agg #[.int .i64 0, .slice none 0 0, .slice none 0 0], Value.int .u16 0, Value.int .u8 0], []⟩ 8 (by kernel_rfl) (by kernel_rfl) (by kernel_rfl) (by kernel_rfl)) ?_
  intro W base args ds gs before hval hW _ _
  exact contract H enc W base args ds gs before hval hW

theorem said : Rows.ImageUnlikeSaid :=
  OpenClaim.holds_of_wide 6 Try.f6 rfl rfl rfl rfl rfl rfl rfl ⟨rfl, rfl, rfl, rfl, rfl⟩ rfl rfl rfl rfl rfl (by kernel_rfl) Try.func6 (by kernel_rfl)
    (of_decide_eq_true (by kernel_rfl)) (by unfold Func.isWrapper; first | (rw [if_pos (by decide +kernel)]; kernel_rfl) | (rw [if_neg (by decide +kernel)]; exact ⟨rfl, rfl⟩))
    (fun os started H enc _ => lifted os started H enc)
end Go.Proofs.Ytljcijdkoncodaa.imageUnlike
