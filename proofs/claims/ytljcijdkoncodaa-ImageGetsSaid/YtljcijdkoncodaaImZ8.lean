import Derived.Test.YtljcijdkoncodaaImgBig
import Derived.Test.YtljcijdkoncodaaRows
import Derived.Test.YtljcijdkoncodaaImZ7
set_option linter.unusedSimpArgs false
set_option linter.unusedVariables false
namespace Go.Proofs.I
open Go Go.Ux Go.Ux.Image Go.Proofs


theorem imagePuts_spec (sv wv : Value) (I : Img) (w : World) (hs : Sl w sv 2 I.syms.length (symCells I.syms)) (hw : Sl w wv 1 I.words.length (wordCells I.words)) (hatI : ∀ s ∈ I.syms, s.2 ≤ 9223372036854775807) : CallsR Try.prog 3 #[.agg #[.int .i64 I.entry, sv, wv]] w (fun v w' => v = .bool true ∧ Ext w w') := by
  cases hI : largeB I with
  | true => exact puts_big sv wv I w hs hw hI
  | false =>
    cases hr : rightB I with
    | true => exact puts_ok sv wv I w hs hw hI hatI hr
    | false => exact puts_no sv wv I w hs hw hI hatI hr
theorem imageGets_spec (sb sm : Value) (d m : List UInt8) (atn : Nat) (w : World) (hsb : Sl w sb 1 d.length (bs d)) (hsm : Sl w sm 1 m.length (bs m)) (hatn : atn < 65536) : CallsR Try.prog 4 #[sb, .int .u16 ((atn : Nat) : Int), sm] w (fun v w' => v = .bool true ∧ Ext w w') := by
  by_cases h1 : 3000 < d.length
  · exact gets_big1 sb sm d m atn w hsb hsm h1
  by_cases h2 : 300 < m.length
  · exact gets_big2 sb sm d m atn w hsb hsm (by omega) h2
  by_cases h : ∃ I, rightB I = true ∧ bytesOf I = d
  · obtain ⟨I, hr, hb⟩ := h
    exact gets_ok sb sm d m atn w hsb hsm (by omega) (by omega) hatn I hr hb.symm
  · exact gets_no sb sm d m atn w hsb hsm (by omega) (by omega) hatn (fun I hr hb => h ⟨I, hr, hb⟩)
theorem imageSame_spec (sa wa : Value) (A : Img) (sb wb : Value) (K : Img) (w : World) (hsa : Sl w sa 2 A.syms.length (symCells A.syms)) (hwa : Sl w wa 1 A.words.length (wordCells A.words)) (hsb : Sl w sb 2 K.syms.length (symCells K.syms)) (hwb : Sl w wb 1 K.words.length (wordCells K.words)) : CallsR Try.prog 5 #[.agg #[.int .i64 A.entry, sa, wa], .agg #[.int .i64 K.entry, sb, wb]] w (fun v w' => v = .bool true ∧ Ext w w') := by
  cases hA : largeB A with
  | true => exact samelaw_a sa wa A sb wb K w hsa hwa hsb hwb hA
  | false =>
    cases hK : largeB K with
    | true => exact samelaw_b sa wa A sb wb K w hsa hwa hsb hwb hA hK
    | false => exact samelaw sa wa A sb wb K w hsa hwa hsb hwb hA hK
theorem imageUnlike_spec (sa wa : Value) (A : Img) (sb wb : Value) (K : Img) (atn : Nat) (bb : BitVec 8) (w : World) (hsa : Sl w sa 2 A.syms.length (symCells A.syms)) (hwa : Sl w wa 1 A.words.length (wordCells A.words)) (hsb : Sl w sb 2 K.syms.length (symCells K.syms)) (hwb : Sl w wb 1 K.words.length (wordCells K.words)) (hatA : ∀ s ∈ A.syms, s.2 ≤ 9223372036854775807) (hatK : ∀ s ∈ K.syms, s.2 ≤ 9223372036854775807) (hatn : atn < 65536) : CallsR Try.prog 6 #[.agg #[.int .i64 A.entry, sa, wa], .agg #[.int .i64 K.entry, sb, wb], .int .u16 ((atn : Nat) : Int), U8 bb] w (fun v w' => v = .bool true ∧ Ext w w') := by
  cases hA : largeB A with
  | true => exact unlike_a sa wa A sb wb K atn bb w hsa hwa hsb hwb hA
  | false =>
    cases hK : largeB K with
    | true => exact unlike_b sa wa A sb wb K atn bb w hsa hwa hsb hwb hA hK
    | false =>
      cases hrA : rightB A with
      | false => exact unlike_no sa wa A sb wb K atn bb w hsa hwa hsb hwb hA hK hatA hatK hatn hrA
      | true =>
        cases hrK : rightB K with
        | false => exact unlike_yn sa wa A sb wb K atn bb w hsa hwa hsb hwb hA hK hatA hatK hatn hrA hrK
        | true => exact unlike_yy sa wa A sb wb K atn bb w hsa hwa hsb hwb hA hK hatA hatK hatn hrA hrK
end Go.Proofs.I
