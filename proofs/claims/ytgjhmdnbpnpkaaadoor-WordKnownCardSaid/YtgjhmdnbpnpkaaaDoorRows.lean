/-
  NARROWER THAN 'FOR EVERY INPUT', by the rows' own cells (each row's printed sentence says how): WordMoves: laid · WordOrder: laid · WordDo: laid · WordFacts: laid · WordLaws: laid · WordAll: laid · WordKnown: laid.
  DERIVED. THE GIVEN ROWS OF THIS SEAT. 7 by the template 'for every input the law returns true; each argument reads behind the call as it read before'; 0 by the template 'total and deterministic' (their statements: YtgjhmdnbpnpkaaaDoorTotals.lean).
  GIVEN WITH THE SEED: the statements are not yours to turn. If you find one false, say at which input.
  Laid BY PROGRAM, IN A SANDBOX (cutbox-rows.mjs): the forced cells as the released guide's own fill.sh prints them over the translation 51d82627d3d7958b… (all of the seat's roots in one cut). By AI agents, Wed Nov 11 2026. No macro, syntax, notation, axiom, sorry.
-/
import Derived.Test.YtgjhmdnbpnpkaaaDoorChecked
import GoSem.Claim
import GoSem.ClaimJoined
import GoSem.ClaimMapViews
import Derived.JoinedTies
import Derived.KernelRfl
namespace Go.Proofs.YtgjhmdnbpnpkaaaDoor
/- THE CELL 'sum', in the pinned program and in every row, IS THE sha256 OF THE DUMP (.gsa) THAT YtgjhmdnbpnpkaaaDoorProg.lean LOADS. Nothing in Lean hashes anything: it is a label: what it is worth is what the hold of that sum in a sandbox is worth. -/
noncomputable def Tryd.pinned : Pinned := { name := "ytgjhmdnbpnpkaaadoor", sum := "51d82627d3d7958b392568be9d92908cbffdb46edb58744fb1b1d6d26c458021", checked := Tryd.checked }
namespace Rows
def none {H : Type} : Left H := { results := [], args := [] }

/- WHAT THE LISTED PACKAGE-LEVEL VARIABLES READ AS WHEN THE CALL BEGINS. Each datum BY PROGRAM (the guide's laid-datum.mjs) off the statement by which the dump's own 'gosem.cut.vars' lays the variable. In a bare row this is a premise. The card (YtgjhmdnbpnpkaaaDoorCards.lean) ties it to the program's text. -/
def laid_math_bits_deBruijn64tab {H : Type} : DataW H := .agg [.lit (.int .u8 0), .lit (.int .u8 1), .lit (.int .u8 56), .lit (.int .u8 2), .lit (.int .u8 57), .lit (.int .u8 49), .lit (.int .u8 28), .lit (.int .u8 3), .lit (.int .u8 61), .lit (.int .u8 58), .lit (.int .u8 42), .lit (.int .u8 50), .lit (.int .u8 38), .lit (.int .u8 29), .lit (.int .u8 17), .lit (.int .u8 4), .lit (.int .u8 62), .lit (.int .u8 47), .lit (.int .u8 59), .lit (.int .u8 36), .lit (.int .u8 45), .lit (.int .u8 43), .lit (.int .u8 51), .lit (.int .u8 22), .lit (.int .u8 53), .lit (.int .u8 39), .lit (.int .u8 33), .lit (.int .u8 30), .lit (.int .u8 24), .lit (.int .u8 18), .lit (.int .u8 12), .lit (.int .u8 5), .lit (.int .u8 63), .lit (.int .u8 55), .lit (.int .u8 48), .lit (.int .u8 27), .lit (.int .u8 60), .lit (.int .u8 41), .lit (.int .u8 37), .lit (.int .u8 16), .lit (.int .u8 46), .lit (.int .u8 35), .lit (.int .u8 44), .lit (.int .u8 21), .lit (.int .u8 52), .lit (.int .u8 32), .lit (.int .u8 23), .lit (.int .u8 11), .lit (.int .u8 54), .lit (.int .u8 26), .lit (.int .u8 40), .lit (.int .u8 15), .lit (.int .u8 34), .lit (.int .u8 20), .lit (.int .u8 31), .lit (.int .u8 10), .lit (.int .u8 25), .lit (.int .u8 14), .lit (.int .u8 19), .lit (.int .u8 9), .lit (.int .u8 13), .lit (.int .u8 8), .lit (.int .u8 7), .lit (.int .u8 6)]

/-- 'proofmarklaw01.WordMoves': WHATEVER THE INPUT: true; the input reads as it did. -/
def wordMovesSpec : ChangeSpec := { name := "wordMoves", fn := fun _ => fun
  | [d1, d2, d3] => { results := [.lit (.bool true)], args := [d1, d2, d3] }
  | _ => none }
def wordMovesRow : OpenClaim := { program := "ytgjhmdnbpnpkaaadoor", sum := "51d82627d3d7958b392568be9d92908cbffdb46edb58744fb1b1d6d26c458021", func := "proofmark/proofmarklaw01.WordMoves", spec := "wordMoves", unfollowed := true, recurses := true, named := ["math/bits.deBruijn64tab"], apart := false, laid := [("math/bits.deBruijn64tab", laid_math_bits_deBruijn64tab)] }
def WordMovesSaid : Prop := wordMovesRow.holds Tryd.pinned (OpenSpec.ofChange wordMovesSpec)

/-- ITS FALSE NEIGHBOUR: 'it returns false'. Refute it at one input. -/
def wordMovesWrong : ChangeSpec := { name := "wordMoves", fn := fun _ => fun
  | [d1, d2, d3] => { results := [.lit (.bool false)], args := [d1, d2, d3] }
  | _ => none }
def WordMovesWrongFalsely : Prop := wordMovesRow.holds Tryd.pinned (OpenSpec.ofChange wordMovesWrong)

/-- 'proofmarklaw01.WordOrder': WHATEVER THE INPUT: true; the input reads as it did. -/
def wordOrderSpec : ChangeSpec := { name := "wordOrder", fn := fun _ => fun
  | [d1, d2, d3] => { results := [.lit (.bool true)], args := [d1, d2, d3] }
  | _ => none }
def wordOrderRow : OpenClaim := { program := "ytgjhmdnbpnpkaaadoor", sum := "51d82627d3d7958b392568be9d92908cbffdb46edb58744fb1b1d6d26c458021", func := "proofmark/proofmarklaw01.WordOrder", spec := "wordOrder", unfollowed := true, recurses := true, named := ["math/bits.deBruijn64tab"], apart := false, laid := [("math/bits.deBruijn64tab", laid_math_bits_deBruijn64tab)] }
def WordOrderSaid : Prop := wordOrderRow.holds Tryd.pinned (OpenSpec.ofChange wordOrderSpec)

/-- ITS FALSE NEIGHBOUR: 'it returns false'. Refute it at one input. -/
def wordOrderWrong : ChangeSpec := { name := "wordOrder", fn := fun _ => fun
  | [d1, d2, d3] => { results := [.lit (.bool false)], args := [d1, d2, d3] }
  | _ => none }
def WordOrderWrongFalsely : Prop := wordOrderRow.holds Tryd.pinned (OpenSpec.ofChange wordOrderWrong)

/-- 'proofmarklaw01.WordDo': WHATEVER THE INPUT: true; the input reads as it did. -/
def wordDoSpec : ChangeSpec := { name := "wordDo", fn := fun _ => fun
  | [d1, d2, d3] => { results := [.lit (.bool true)], args := [d1, d2, d3] }
  | _ => none }
def wordDoRow : OpenClaim := { program := "ytgjhmdnbpnpkaaadoor", sum := "51d82627d3d7958b392568be9d92908cbffdb46edb58744fb1b1d6d26c458021", func := "proofmark/proofmarklaw01.WordDo", spec := "wordDo", unfollowed := true, recurses := true, named := ["math/bits.deBruijn64tab"], apart := false, laid := [("math/bits.deBruijn64tab", laid_math_bits_deBruijn64tab)] }
def WordDoSaid : Prop := wordDoRow.holds Tryd.pinned (OpenSpec.ofChange wordDoSpec)

/-- ITS FALSE NEIGHBOUR: 'it returns false'. Refute it at one input. -/
def wordDoWrong : ChangeSpec := { name := "wordDo", fn := fun _ => fun
  | [d1, d2, d3] => { results := [.lit (.bool false)], args := [d1, d2, d3] }
  | _ => none }
def WordDoWrongFalsely : Prop := wordDoRow.holds Tryd.pinned (OpenSpec.ofChange wordDoWrong)

/-- 'proofmarklaw01.WordFacts': WHATEVER THE INPUT: true; the input reads as it did. -/
def wordFactsSpec : ChangeSpec := { name := "wordFacts", fn := fun _ => fun
  | [d1, d2, d3, d4, d5] => { results := [.lit (.bool true)], args := [d1, d2, d3, d4, d5] }
  | _ => none }
def wordFactsRow : OpenClaim := { program := "ytgjhmdnbpnpkaaadoor", sum := "51d82627d3d7958b392568be9d92908cbffdb46edb58744fb1b1d6d26c458021", func := "proofmark/proofmarklaw01.WordFacts", spec := "wordFacts", unfollowed := true, recurses := true, named := ["math/bits.deBruijn64tab"], apart := false, laid := [("math/bits.deBruijn64tab", laid_math_bits_deBruijn64tab)] }
def WordFactsSaid : Prop := wordFactsRow.holds Tryd.pinned (OpenSpec.ofChange wordFactsSpec)

/-- ITS FALSE NEIGHBOUR: 'it returns false'. Refute it at one input. -/
def wordFactsWrong : ChangeSpec := { name := "wordFacts", fn := fun _ => fun
  | [d1, d2, d3, d4, d5] => { results := [.lit (.bool false)], args := [d1, d2, d3, d4, d5] }
  | _ => none }
def WordFactsWrongFalsely : Prop := wordFactsRow.holds Tryd.pinned (OpenSpec.ofChange wordFactsWrong)

/-- 'proofmarklaw01.WordLaws': WHATEVER THE INPUT: true; the input reads as it did. -/
def wordLawsSpec : ChangeSpec := { name := "wordLaws", fn := fun _ => fun
  | [d1, d2, d3, d4] => { results := [.lit (.bool true)], args := [d1, d2, d3, d4] }
  | _ => none }
def wordLawsRow : OpenClaim := { program := "ytgjhmdnbpnpkaaadoor", sum := "51d82627d3d7958b392568be9d92908cbffdb46edb58744fb1b1d6d26c458021", func := "proofmark/proofmarklaw01.WordLaws", spec := "wordLaws", unfollowed := true, recurses := true, named := ["math/bits.deBruijn64tab"], apart := false, laid := [("math/bits.deBruijn64tab", laid_math_bits_deBruijn64tab)] }
def WordLawsSaid : Prop := wordLawsRow.holds Tryd.pinned (OpenSpec.ofChange wordLawsSpec)

/-- ITS FALSE NEIGHBOUR: 'it returns false'. Refute it at one input. -/
def wordLawsWrong : ChangeSpec := { name := "wordLaws", fn := fun _ => fun
  | [d1, d2, d3, d4] => { results := [.lit (.bool false)], args := [d1, d2, d3, d4] }
  | _ => none }
def WordLawsWrongFalsely : Prop := wordLawsRow.holds Tryd.pinned (OpenSpec.ofChange wordLawsWrong)

/-- 'proofmarklaw01.WordAll': WHATEVER THE INPUT: true; the input reads as it did. -/
def wordAllSpec : ChangeSpec := { name := "wordAll", fn := fun _ => fun
  | [d1, d2] => { results := [.lit (.bool true)], args := [d1, d2] }
  | _ => none }
def wordAllRow : OpenClaim := { program := "ytgjhmdnbpnpkaaadoor", sum := "51d82627d3d7958b392568be9d92908cbffdb46edb58744fb1b1d6d26c458021", func := "proofmark/proofmarklaw01.WordAll", spec := "wordAll", unfollowed := true, recurses := true, named := ["math/bits.deBruijn64tab"], apart := false, laid := [("math/bits.deBruijn64tab", laid_math_bits_deBruijn64tab)] }
def WordAllSaid : Prop := wordAllRow.holds Tryd.pinned (OpenSpec.ofChange wordAllSpec)

/-- ITS FALSE NEIGHBOUR: 'it returns false'. Refute it at one input. -/
def wordAllWrong : ChangeSpec := { name := "wordAll", fn := fun _ => fun
  | [d1, d2] => { results := [.lit (.bool false)], args := [d1, d2] }
  | _ => none }
def WordAllWrongFalsely : Prop := wordAllRow.holds Tryd.pinned (OpenSpec.ofChange wordAllWrong)

/-- 'proofmarklaw01.WordKnown': WHATEVER THE INPUT: true; the input reads as it did. -/
def wordKnownSpec : ChangeSpec := { name := "wordKnown", fn := fun _ => fun
  | [] => { results := [.lit (.bool true)], args := [] }
  | _ => none }
def wordKnownRow : OpenClaim := { program := "ytgjhmdnbpnpkaaadoor", sum := "51d82627d3d7958b392568be9d92908cbffdb46edb58744fb1b1d6d26c458021", func := "proofmark/proofmarklaw01.WordKnown", spec := "wordKnown", unfollowed := true, recurses := true, named := ["math/bits.deBruijn64tab"], apart := false, laid := [("math/bits.deBruijn64tab", laid_math_bits_deBruijn64tab)] }
def WordKnownSaid : Prop := wordKnownRow.holds Tryd.pinned (OpenSpec.ofChange wordKnownSpec)

/-- ITS FALSE NEIGHBOUR: 'it returns false'. Refute it at one input. -/
def wordKnownWrong : ChangeSpec := { name := "wordKnown", fn := fun _ => fun
  | [] => { results := [.lit (.bool false)], args := [] }
  | _ => none }
def WordKnownWrongFalsely : Prop := wordKnownRow.holds Tryd.pinned (OpenSpec.ofChange wordKnownWrong)

/- THE SECOND FORM. 'bulk': how many values and letters a reading holds, each counted each time it is reached (what is shared counts as often as it is met; a slice's spare places count too). A statement '..UptoSaid' is the law's where the arguments, and the package variables that the reading takes, are together of bulk at most 1048576: NARROWER than '..Said'. Prove '..Said' where nothing that the law and all that it calls make is longer than what came in: it says more and counts as full. Else prove '..UptoSaid'. A law counts once. -/
mutual
def uptoBulk {H : Type} : DataW H → Nat
  | .lit (.string bytes) => bytes.length + 1
  | .lit _ => 1
  | .nil => 1
  | .ptr d => uptoBulk d + 1
  | .slice elems spare => uptoBulkAll elems + uptoBulkAll spare + 1
  | .agg parts => uptoBulkAll parts + 1
  | .iface _ d => uptoBulk d + 1
  | .map entries => uptoBulkEntries entries + 1
  | .held _ => 1
def uptoBulkAll {H : Type} : List (DataW H) → Nat
  | [] => 0
  | d :: r => uptoBulk d + uptoBulkAll r
def uptoBulkEntries {H : Type} : List (Lit × DataW H) → Nat
  | [] => 0
  | x :: r => uptoBulkEntry x + uptoBulkEntries r
def uptoBulkEntry {H : Type} : Lit × DataW H → Nat
  | (.string bytes, d) => bytes.length + uptoBulk d + 1
  | (_, d) => uptoBulk d + 1
 end
def uptoSmall : (H : Type) → List (DataW H) → Bool := fun _ ds => decide (uptoBulkAll ds ≤ 1048576)
def OpenSpec.upto (s : _root_.Go.ChangeSpec) : _root_.Go.OpenSpec := { _root_.Go.OpenSpec.ofChange s with cond := some uptoSmall }

/-- 'proofmarklaw01.WordMoves', WHERE WHAT IT READS IS OF BULK AT MOST 1048576: true; the input reads as it did. -/
def wordMovesUptoRow : OpenClaim := { program := "ytgjhmdnbpnpkaaadoor", sum := "51d82627d3d7958b392568be9d92908cbffdb46edb58744fb1b1d6d26c458021", func := "proofmark/proofmarklaw01.WordMoves", spec := "wordMoves", unfollowed := true, recurses := true, named := ["math/bits.deBruijn64tab"], apart := false, laid := [("math/bits.deBruijn64tab", laid_math_bits_deBruijn64tab)], narrowed := true }
def WordMovesUptoSaid : Prop := wordMovesUptoRow.holds Tryd.pinned (OpenSpec.upto wordMovesSpec)

/-- 'proofmarklaw01.WordOrder', WHERE WHAT IT READS IS OF BULK AT MOST 1048576: true; the input reads as it did. -/
def wordOrderUptoRow : OpenClaim := { program := "ytgjhmdnbpnpkaaadoor", sum := "51d82627d3d7958b392568be9d92908cbffdb46edb58744fb1b1d6d26c458021", func := "proofmark/proofmarklaw01.WordOrder", spec := "wordOrder", unfollowed := true, recurses := true, named := ["math/bits.deBruijn64tab"], apart := false, laid := [("math/bits.deBruijn64tab", laid_math_bits_deBruijn64tab)], narrowed := true }
def WordOrderUptoSaid : Prop := wordOrderUptoRow.holds Tryd.pinned (OpenSpec.upto wordOrderSpec)

/-- 'proofmarklaw01.WordDo', WHERE WHAT IT READS IS OF BULK AT MOST 1048576: true; the input reads as it did. -/
def wordDoUptoRow : OpenClaim := { program := "ytgjhmdnbpnpkaaadoor", sum := "51d82627d3d7958b392568be9d92908cbffdb46edb58744fb1b1d6d26c458021", func := "proofmark/proofmarklaw01.WordDo", spec := "wordDo", unfollowed := true, recurses := true, named := ["math/bits.deBruijn64tab"], apart := false, laid := [("math/bits.deBruijn64tab", laid_math_bits_deBruijn64tab)], narrowed := true }
def WordDoUptoSaid : Prop := wordDoUptoRow.holds Tryd.pinned (OpenSpec.upto wordDoSpec)

/-- 'proofmarklaw01.WordFacts', WHERE WHAT IT READS IS OF BULK AT MOST 1048576: true; the input reads as it did. -/
def wordFactsUptoRow : OpenClaim := { program := "ytgjhmdnbpnpkaaadoor", sum := "51d82627d3d7958b392568be9d92908cbffdb46edb58744fb1b1d6d26c458021", func := "proofmark/proofmarklaw01.WordFacts", spec := "wordFacts", unfollowed := true, recurses := true, named := ["math/bits.deBruijn64tab"], apart := false, laid := [("math/bits.deBruijn64tab", laid_math_bits_deBruijn64tab)], narrowed := true }
def WordFactsUptoSaid : Prop := wordFactsUptoRow.holds Tryd.pinned (OpenSpec.upto wordFactsSpec)

/-- 'proofmarklaw01.WordLaws', WHERE WHAT IT READS IS OF BULK AT MOST 1048576: true; the input reads as it did. -/
def wordLawsUptoRow : OpenClaim := { program := "ytgjhmdnbpnpkaaadoor", sum := "51d82627d3d7958b392568be9d92908cbffdb46edb58744fb1b1d6d26c458021", func := "proofmark/proofmarklaw01.WordLaws", spec := "wordLaws", unfollowed := true, recurses := true, named := ["math/bits.deBruijn64tab"], apart := false, laid := [("math/bits.deBruijn64tab", laid_math_bits_deBruijn64tab)], narrowed := true }
def WordLawsUptoSaid : Prop := wordLawsUptoRow.holds Tryd.pinned (OpenSpec.upto wordLawsSpec)

/-- 'proofmarklaw01.WordAll', WHERE WHAT IT READS IS OF BULK AT MOST 1048576: true; the input reads as it did. -/
def wordAllUptoRow : OpenClaim := { program := "ytgjhmdnbpnpkaaadoor", sum := "51d82627d3d7958b392568be9d92908cbffdb46edb58744fb1b1d6d26c458021", func := "proofmark/proofmarklaw01.WordAll", spec := "wordAll", unfollowed := true, recurses := true, named := ["math/bits.deBruijn64tab"], apart := false, laid := [("math/bits.deBruijn64tab", laid_math_bits_deBruijn64tab)], narrowed := true }
def WordAllUptoSaid : Prop := wordAllUptoRow.holds Tryd.pinned (OpenSpec.upto wordAllSpec)

/-- 'proofmarklaw01.WordKnown', WHERE WHAT IT READS IS OF BULK AT MOST 1048576: true; the input reads as it did. -/
def wordKnownUptoRow : OpenClaim := { program := "ytgjhmdnbpnpkaaadoor", sum := "51d82627d3d7958b392568be9d92908cbffdb46edb58744fb1b1d6d26c458021", func := "proofmark/proofmarklaw01.WordKnown", spec := "wordKnown", unfollowed := true, recurses := true, named := ["math/bits.deBruijn64tab"], apart := false, laid := [("math/bits.deBruijn64tab", laid_math_bits_deBruijn64tab)], narrowed := true }
def WordKnownUptoSaid : Prop := wordKnownUptoRow.holds Tryd.pinned (OpenSpec.upto wordKnownSpec)

end Rows
end Go.Proofs.YtgjhmdnbpnpkaaaDoor
