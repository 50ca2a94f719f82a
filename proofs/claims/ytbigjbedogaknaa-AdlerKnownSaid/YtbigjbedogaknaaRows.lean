/-
  No cell of these rows narrows 'for every input' (looked for: loops, veiled, ifaces, maps, wideKeys, modest, calm, conditions, laid).
  DERIVED. THE GIVEN ROWS OF THIS SEAT. 6 by the template 'for every input the law returns true; each argument reads behind the call as it read before'; 0 by the template 'total and deterministic' (their statements: YtbigjbedogaknaaTotals.lean).
  GIVEN WITH THE SEED: the statements are not yours to turn. If you find one false, say at which input.
  Laid BY PROGRAM, IN A SANDBOX (cutbox-rows.mjs): the forced cells as the released guide's own fill.sh prints them over the translation c61ddd483b0755f4… (all of the seat's roots in one cut). By AI agents, Wed Nov 11 2026. No macro, syntax, notation, axiom, sorry.
-/
import Derived.Test.YtbigjbedogaknaaChecked
import GoSem.Claim
import GoSem.ClaimJoined
import GoSem.ClaimMapViews
import Derived.JoinedTies
import Derived.KernelRfl
namespace Go.Proofs.Ytbigjbedogaknaa
/- THE CELL 'sum', in the pinned program and in every row, IS THE sha256 OF THE DUMP (.gsa) THAT YtbigjbedogaknaaProg.lean LOADS. Nothing in Lean hashes anything: it is a label: what it is worth is what the hold of that sum in a sandbox is worth. -/
noncomputable def Try.pinned : Pinned := { name := "ytbigjbedogaknaa", sum := "c61ddd483b0755f46c40edadd1384442178afd9718562d4933abfbb9aa029414", checked := Try.checked }
namespace Rows
def none {H : Type} : Left H := { results := [], args := [] }

/-- 'warpbeamlaw03.AdlerAnswers': WHATEVER THE INPUT: true; the input reads as it did. -/
def adlerAnswersSpec : ChangeSpec := { name := "adlerAnswers", fn := fun _ => fun
  | [d1, d2] => { results := [.lit (.bool true)], args := [d1, d2] }
  | _ => none }
def adlerAnswersRow : OpenClaim := { program := "ytbigjbedogaknaa", sum := "c61ddd483b0755f46c40edadd1384442178afd9718562d4933abfbb9aa029414", func := "warpbeam/warpbeamlaw03.AdlerAnswers", spec := "adlerAnswers", unfollowed := true, recurses := true, apart := false }
def AdlerAnswersSaid : Prop := adlerAnswersRow.holds Try.pinned (OpenSpec.ofChange adlerAnswersSpec)

/-- ITS FALSE NEIGHBOUR: 'it returns false'. Refute it at one input. -/
def adlerAnswersWrong : ChangeSpec := { name := "adlerAnswers", fn := fun _ => fun
  | [d1, d2] => { results := [.lit (.bool false)], args := [d1, d2] }
  | _ => none }
def AdlerAnswersWrongFalsely : Prop := adlerAnswersRow.holds Try.pinned (OpenSpec.ofChange adlerAnswersWrong)

/-- 'warpbeamlaw03.AdlerPieces': WHATEVER THE INPUT: true; the input reads as it did. -/
def adlerPiecesSpec : ChangeSpec := { name := "adlerPieces", fn := fun _ => fun
  | [d1, d2, d3] => { results := [.lit (.bool true)], args := [d1, d2, d3] }
  | _ => none }
def adlerPiecesRow : OpenClaim := { program := "ytbigjbedogaknaa", sum := "c61ddd483b0755f46c40edadd1384442178afd9718562d4933abfbb9aa029414", func := "warpbeam/warpbeamlaw03.AdlerPieces", spec := "adlerPieces", unfollowed := true, recurses := true, apart := false }
def AdlerPiecesSaid : Prop := adlerPiecesRow.holds Try.pinned (OpenSpec.ofChange adlerPiecesSpec)

/-- ITS FALSE NEIGHBOUR: 'it returns false'. Refute it at one input. -/
def adlerPiecesWrong : ChangeSpec := { name := "adlerPieces", fn := fun _ => fun
  | [d1, d2, d3] => { results := [.lit (.bool false)], args := [d1, d2, d3] }
  | _ => none }
def AdlerPiecesWrongFalsely : Prop := adlerPiecesRow.holds Try.pinned (OpenSpec.ofChange adlerPiecesWrong)

/-- 'warpbeamlaw03.AdlerOne': WHATEVER THE INPUT: true; the input reads as it did. -/
def adlerOneSpec : ChangeSpec := { name := "adlerOne", fn := fun _ => fun
  | [d1, d2, d3] => { results := [.lit (.bool true)], args := [d1, d2, d3] }
  | _ => none }
def adlerOneRow : OpenClaim := { program := "ytbigjbedogaknaa", sum := "c61ddd483b0755f46c40edadd1384442178afd9718562d4933abfbb9aa029414", func := "warpbeam/warpbeamlaw03.AdlerOne", spec := "adlerOne", unfollowed := true, recurses := true, apart := false }
def AdlerOneSaid : Prop := adlerOneRow.holds Try.pinned (OpenSpec.ofChange adlerOneSpec)

/-- ITS FALSE NEIGHBOUR: 'it returns false'. Refute it at one input. -/
def adlerOneWrong : ChangeSpec := { name := "adlerOne", fn := fun _ => fun
  | [d1, d2, d3] => { results := [.lit (.bool false)], args := [d1, d2, d3] }
  | _ => none }
def AdlerOneWrongFalsely : Prop := adlerOneRow.holds Try.pinned (OpenSpec.ofChange adlerOneWrong)

/-- 'warpbeamlaw03.AdlerSwap': WHATEVER THE INPUT: true; the input reads as it did. -/
def adlerSwapSpec : ChangeSpec := { name := "adlerSwap", fn := fun _ => fun
  | [d1, d2, d3] => { results := [.lit (.bool true)], args := [d1, d2, d3] }
  | _ => none }
def adlerSwapRow : OpenClaim := { program := "ytbigjbedogaknaa", sum := "c61ddd483b0755f46c40edadd1384442178afd9718562d4933abfbb9aa029414", func := "warpbeam/warpbeamlaw03.AdlerSwap", spec := "adlerSwap", unfollowed := true, recurses := true, apart := false }
def AdlerSwapSaid : Prop := adlerSwapRow.holds Try.pinned (OpenSpec.ofChange adlerSwapSpec)

/-- ITS FALSE NEIGHBOUR: 'it returns false'. Refute it at one input. -/
def adlerSwapWrong : ChangeSpec := { name := "adlerSwap", fn := fun _ => fun
  | [d1, d2, d3] => { results := [.lit (.bool false)], args := [d1, d2, d3] }
  | _ => none }
def AdlerSwapWrongFalsely : Prop := adlerSwapRow.holds Try.pinned (OpenSpec.ofChange adlerSwapWrong)

/-- 'warpbeamlaw03.AdlerHalves': WHATEVER THE INPUT: true; the input reads as it did. -/
def adlerHalvesSpec : ChangeSpec := { name := "adlerHalves", fn := fun _ => fun
  | [d] => { results := [.lit (.bool true)], args := [d] }
  | _ => none }
def adlerHalvesRow : OpenClaim := { program := "ytbigjbedogaknaa", sum := "c61ddd483b0755f46c40edadd1384442178afd9718562d4933abfbb9aa029414", func := "warpbeam/warpbeamlaw03.AdlerHalves", spec := "adlerHalves", unfollowed := true, recurses := true, apart := false }
def AdlerHalvesSaid : Prop := adlerHalvesRow.holds Try.pinned (OpenSpec.ofChange adlerHalvesSpec)

/-- ITS FALSE NEIGHBOUR: 'it returns false'. Refute it at one input. -/
def adlerHalvesWrong : ChangeSpec := { name := "adlerHalves", fn := fun _ => fun
  | [d] => { results := [.lit (.bool false)], args := [d] }
  | _ => none }
def AdlerHalvesWrongFalsely : Prop := adlerHalvesRow.holds Try.pinned (OpenSpec.ofChange adlerHalvesWrong)

/-- 'warpbeamlaw03.AdlerKnown': WHATEVER THE INPUT: true; the input reads as it did. -/
def adlerKnownSpec : ChangeSpec := { name := "adlerKnown", fn := fun _ => fun
  | [] => { results := [.lit (.bool true)], args := [] }
  | _ => none }
def adlerKnownRow : OpenClaim := { program := "ytbigjbedogaknaa", sum := "c61ddd483b0755f46c40edadd1384442178afd9718562d4933abfbb9aa029414", func := "warpbeam/warpbeamlaw03.AdlerKnown", spec := "adlerKnown", unfollowed := true, recurses := true, apart := false }
def AdlerKnownSaid : Prop := adlerKnownRow.holds Try.pinned (OpenSpec.ofChange adlerKnownSpec)

/-- ITS FALSE NEIGHBOUR: 'it returns false'. Refute it at one input. -/
def adlerKnownWrong : ChangeSpec := { name := "adlerKnown", fn := fun _ => fun
  | [] => { results := [.lit (.bool false)], args := [] }
  | _ => none }
def AdlerKnownWrongFalsely : Prop := adlerKnownRow.holds Try.pinned (OpenSpec.ofChange adlerKnownWrong)

/- THE SECOND FORM. 'bulk': how many values and letters a reading holds, each counted each time it is reached (what is shared counts as often as it is met; a slice's spare places count too). A statement '..UptoSaid' is the law's where the arguments, and the package variables that the reading takes, are together of bulk at most 1048576: NARROWER than '..Said'. Prove '..Said' where nothing that the law and all that it calls make is longer than what came in: it says more and counts as full. Else prove '..UptoSaid'. A law counts once. -/
mutual
def uptoBulk {H : Type} : DataW H → Nat
  | .lit (.string bytes) => bytes.length + 1
  | .lit _ => 1
  | .nil => 1
  | .ptr d => uptoBulk d + 1
  | .slice elems spare => uptoBulkAll elems + uptoBulkAll spare + 1
  | .agg parts => uptoBulkAll parts + 1
  | .iface _ d => uptoBulk d + 1
  | .map entries => uptoBulkEntries entries + 1
  | .held _ => 1
def uptoBulkAll {H : Type} : List (DataW H) → Nat
  | [] => 0
  | d :: r => uptoBulk d + uptoBulkAll r
def uptoBulkEntries {H : Type} : List (Lit × DataW H) → Nat
  | [] => 0
  | x :: r => uptoBulkEntry x + uptoBulkEntries r
def uptoBulkEntry {H : Type} : Lit × DataW H → Nat
  | (.string bytes, d) => bytes.length + uptoBulk d + 1
  | (_, d) => uptoBulk d + 1
 end
def uptoSmall : (H : Type) → List (DataW H) → Bool := fun _ ds => decide (uptoBulkAll ds ≤ 1048576)
def OpenSpec.upto (s : _root_.Go.ChangeSpec) : _root_.Go.OpenSpec := { _root_.Go.OpenSpec.ofChange s with cond := some uptoSmall }

/-- 'warpbeamlaw03.AdlerAnswers', WHERE WHAT IT READS IS OF BULK AT MOST 1048576: true; the input reads as it did. -/
def adlerAnswersUptoRow : OpenClaim := { program := "ytbigjbedogaknaa", sum := "c61ddd483b0755f46c40edadd1384442178afd9718562d4933abfbb9aa029414", func := "warpbeam/warpbeamlaw03.AdlerAnswers", spec := "adlerAnswers", unfollowed := true, recurses := true, apart := false, narrowed := true }
def AdlerAnswersUptoSaid : Prop := adlerAnswersUptoRow.holds Try.pinned (OpenSpec.upto adlerAnswersSpec)

/-- 'warpbeamlaw03.AdlerPieces', WHERE WHAT IT READS IS OF BULK AT MOST 1048576: true; the input reads as it did. -/
def adlerPiecesUptoRow : OpenClaim := { program := "ytbigjbedogaknaa", sum := "c61ddd483b0755f46c40edadd1384442178afd9718562d4933abfbb9aa029414", func := "warpbeam/warpbeamlaw03.AdlerPieces", spec := "adlerPieces", unfollowed := true, recurses := true, apart := false, narrowed := true }
def AdlerPiecesUptoSaid : Prop := adlerPiecesUptoRow.holds Try.pinned (OpenSpec.upto adlerPiecesSpec)

/-- 'warpbeamlaw03.AdlerOne', WHERE WHAT IT READS IS OF BULK AT MOST 1048576: true; the input reads as it did. -/
def adlerOneUptoRow : OpenClaim := { program := "ytbigjbedogaknaa", sum := "c61ddd483b0755f46c40edadd1384442178afd9718562d4933abfbb9aa029414", func := "warpbeam/warpbeamlaw03.AdlerOne", spec := "adlerOne", unfollowed := true, recurses := true, apart := false, narrowed := true }
def AdlerOneUptoSaid : Prop := adlerOneUptoRow.holds Try.pinned (OpenSpec.upto adlerOneSpec)

/-- 'warpbeamlaw03.AdlerSwap', WHERE WHAT IT READS IS OF BULK AT MOST 1048576: true; the input reads as it did. -/
def adlerSwapUptoRow : OpenClaim := { program := "ytbigjbedogaknaa", sum := "c61ddd483b0755f46c40edadd1384442178afd9718562d4933abfbb9aa029414", func := "warpbeam/warpbeamlaw03.AdlerSwap", spec := "adlerSwap", unfollowed := true, recurses := true, apart := false, narrowed := true }
def AdlerSwapUptoSaid : Prop := adlerSwapUptoRow.holds Try.pinned (OpenSpec.upto adlerSwapSpec)

/-- 'warpbeamlaw03.AdlerHalves', WHERE WHAT IT READS IS OF BULK AT MOST 1048576: true; the input reads as it did. -/
def adlerHalvesUptoRow : OpenClaim := { program := "ytbigjbedogaknaa", sum := "c61ddd483b0755f46c40edadd1384442178afd9718562d4933abfbb9aa029414", func := "warpbeam/warpbeamlaw03.AdlerHalves", spec := "adlerHalves", unfollowed := true, recurses := true, apart := false, narrowed := true }
def AdlerHalvesUptoSaid : Prop := adlerHalvesUptoRow.holds Try.pinned (OpenSpec.upto adlerHalvesSpec)

/-- 'warpbeamlaw03.AdlerKnown', WHERE WHAT IT READS IS OF BULK AT MOST 1048576: true; the input reads as it did. -/
def adlerKnownUptoRow : OpenClaim := { program := "ytbigjbedogaknaa", sum := "c61ddd483b0755f46c40edadd1384442178afd9718562d4933abfbb9aa029414", func := "warpbeam/warpbeamlaw03.AdlerKnown", spec := "adlerKnown", unfollowed := true, recurses := true, apart := false, narrowed := true }
def AdlerKnownUptoSaid : Prop := adlerKnownUptoRow.holds Try.pinned (OpenSpec.upto adlerKnownSpec)

end Rows
end Go.Proofs.Ytbigjbedogaknaa
