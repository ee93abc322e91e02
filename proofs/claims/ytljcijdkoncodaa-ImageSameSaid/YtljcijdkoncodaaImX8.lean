import Derived.Test.YtljcijdkoncodaaImgBig
import Derived.Test.YtljcijdkoncodaaRows
import Derived.Test.YtljcijdkoncodaaImX7
set_option linter.unusedSimpArgs false
set_option linter.unusedVariables false
namespace Go.Proofs.I
open Go Go.Ux Go.Ux.Image Go.Proofs
theorem zt56 : zeroT Try.prog 56 = some #[.map none] := by kernel_rfl
theorem sz56 : sizeT Try.prog 56 = some 1 := by kernel_rfl
theorem zt3 : zeroT Try.prog 3 = some #[.int .i64 0] := by kernel_rfl
theorem zt57 : zeroT Try.prog 57 = some #[.nilFunc] := by kernel_rfl
theorem sz57 : sizeT Try.prog 57 = some 1 := by kernel_rfl
theorem bls12_13 (b1 b5 : Nat) : ∀ w : World, (Instr.buildSlice 59 4 #[(0, .func (.func 22) #[] #[ptr b1 0]), (1, .func (.func 23) #[] #[ptr b1 0]), (2, .func (.func 24) #[] #[ptr b1 0]), (3, .func (.func 25) #[] #[ptr b1 0, ptr b5 0])]).run Try.prog w = .ok (.slice (some ⟨w.heap.size, 0, none⟩) 4 4) (w.alloc (.cells #[.func (.func 22) #[] #[ptr b1 0], .func (.func 23) #[] #[ptr b1 0], .func (.func 24) #[] #[ptr b1 0], .func (.func 25) #[] #[ptr b1 0, ptr b5 0]] 27)) := fun _ => by kernel_rfl
theorem ca27 : callable Try.prog 27 = true := by kernel_rfl

theorem right_spec (sv wv : Value) (I : Img) (w : World) (hR : Rep w sv wv I) (hN : ∀ s ∈ I.syms, s.1.length ≤ 1000000000 ∧ s.2 ≤ 9223372036854775807) : CallsR Try.prog 12 #[.agg #[.int .i64 (I.entry), sv, wv]] w (fun v w' => v = .bool (rightB I) ∧ Ext w w') := by
  refine callsR_of Try.func12 rfl rfl rfl ?_
  refine WC.seq ?_
  refine WC.region ?_
  refine WL.box (v := .agg #[.int .i64 (I.entry), sv, wv]) rfl rfl ?_
  intro b1 w1 n1
  have E1 : Ext w w1 := Mod.trans (Mod.refl _ _) (n1.ext)
  refine WL.assign (v := .bool (false)) rfl rfl ?_
  refine WL.nil ?_
  refine WC.seq ?_
  refine WC.region ?_
  refine WL.makeMap rfl ?_
  intro r wm hM e7 hr
  have E2 : Ext w wm := Mod.trans (E1) (e7)
  refine WL.allocStore (v := .map (some r)) zt56 rfl sz56 rfl rfl rfl rfl ?_
  intro b3 w3 n3
  have R3 : Ext wm w3 := Mod.trans (Mod.refl _ _) (n3.ext)
  have E4 : Ext w w3 := Mod.trans (E2) (n3.ext)
  refine WL.nil ?_
  refine WC.seq ?_
  refine WC.region ?_
  refine WL.allocStore (v := .int .i64 (-1)) zt3 rfl sz3 rfl rfl rfl rfl ?_
  intro b4 w4 n4
  have R5 : Ext wm w4 := Mod.trans (R3) (n4.ext)
  have E6 : Ext w w4 := Mod.trans (E4) (n4.ext)
  refine WL.nil ?_
  refine WC.seq ?_
  refine WC.region ?_
  refine WL.makeFunc (vs := []) (us := [ptr b3 0, ptr b4 0, ptr b1 0]) rfl rfl rfl ?_
  refine WL.allocStore (v := .func (.func 21) #[] #[ptr b3 0, ptr b4 0, ptr b1 0]) zt57 rfl sz57 rfl rfl rfl rfl ?_
  intro b5 w5 n5
  have R7 : Ext wm w5 := Mod.trans (R5) (n5.ext)
  have E8 : Ext w w5 := Mod.trans (E6) (n5.ext)
  refine WL.nil ?_
  refine WC.seq ?_
  refine WC.region ?_
  refine WL.makeFunc (vs := []) (us := [ptr b1 0]) rfl rfl rfl ?_
  refine WL.makeFunc (vs := []) (us := [ptr b1 0]) rfl rfl rfl ?_
  refine WL.makeFunc (vs := []) (us := [ptr b1 0]) rfl rfl rfl ?_
  refine WL.makeFunc (vs := []) (us := [ptr b1 0, ptr b5 0]) rfl rfl rfl ?_
  refine WL.buildSlice (vs := [(0, .func (.func 22) #[] #[ptr b1 0]), (1, .func (.func 23) #[] #[ptr b1 0]), (2, .func (.func 24) #[] #[ptr b1 0]), (3, .func (.func 25) #[] #[ptr b1 0, ptr b5 0])]) rfl (bls12_13 b1 b5) rfl ?_
  intro b13 w13 n13
  have R9 : Ext wm w13 := Mod.trans (R7) (n13.ext)
  have E10 : Ext w w13 := Mod.trans (E8) (n13.ext)
  refine WL.assign (v := .slice (some ⟨b13, 0, none⟩) 4 4) rfl rfl ?_
  refine WL.nil ?_
  refine WC.seq ?_
  refine WC.region ?_
  refine WL.move (v := .slice (some ⟨b13, 0, none⟩) 4 4) rfl rfl ?_
  have B11 := (((n3.blk).ext (n4.ext)).ext (n5.ext)).ext (n13.ext)
  have B12 := ((n4.blk).ext (n5.ext)).ext (n13.ext)
  have B13 := (((((n1.blk).ext (e7)).ext (n3.ext)).ext (n4.ext)).ext (n5.ext)).ext (n13.ext)
  have B14 := (n5.blk).ext (n13.ext)
  have hnum : b1 = w.heap.size ∧ r = w.heap.size + 1 ∧ w.heap.size + 2 ≤ b3 ∧ b4 = b3 + 1 := by have := n1.num; have := n1.size; have := hM.lt; have := n3.num; have := n3.size; have := n4.num; omega
  have hMc := hM.ext (R9)
  have hRc := hR.ext (E10)
  refine WL.call ca27 (rfl) rfl (contains_must b3 b4 r b1 sv wv I _ B11 B12 B13 hRc hMc (by omega) (by omega) (by omega) (by omega) (by omega) (fun h0 g hg => by have := hR.s.lt h0 (by decide) hg; omega) (fun h0 g hg => by have := hR.w.lt h0 (by decide) hg; omega) hN b5 B14 b13 n13.blk) ?_
  rintro _ wd ⟨rfl, md⟩
  have hEE := (E10).then md (O := fun _ => False) (fun i hi e => by omega)
  refine WL.un rfl rfl UnR.not ?_
  refine WL.assign (v := .bool (!(!rightB I))) rfl rfl ?_
  refine WL.nil ?_
  refine WC.ret ?_
  exact ⟨_, Res.one (v := .bool (!(!rightB I))) rfl rfl, congrArg Value.bool (Bool.not_not _), hEE⟩
end Go.Proofs.I
