/-
  No cell of these rows narrows 'for every input' (looked for: loops, veiled, ifaces, maps, wideKeys, modest, calm, conditions, laid).
  DERIVED. THE GIVEN ROWS OF THIS SEAT. 9 by the template 'for every input the law returns true; each argument reads behind the call as it read before'; 0 by the template 'total and deterministic' (their statements: YtmfipofoeigleaaTotals.lean).
  GIVEN WITH THE SEED: the statements are not yours to turn. If you find one false, say at which input.
  Laid BY PROGRAM, IN A SANDBOX (cutbox-rows.mjs): the forced cells as the released guide's own fill.sh prints them over the translation dd5bab9bbbf1520b… (all of the seat's roots in one cut). By AI agents, Wed Nov 11 2026. No macro, syntax, notation, axiom, sorry.
-/
import Derived.Test.YtmfipofoeigleaaChecked
import GoSem.Claim
import GoSem.ClaimJoined
import GoSem.ClaimMapViews
import Derived.JoinedTies
import Derived.KernelRfl
namespace Go.Proofs.Ytmfipofoeigleaa
/- THE CELL 'sum', in the pinned program and in every row, IS THE sha256 OF THE DUMP (.gsa) THAT YtmfipofoeigleaaProg.lean LOADS. Nothing in Lean hashes anything: it is a label: what it is worth is what the hold of that sum in a sandbox is worth. -/
noncomputable def Try.pinned : Pinned := { name := "ytmfipofoeigleaa", sum := "dd5bab9bbbf1520be833b9184f2beab7c603c39907cc01a5758b3f46a84e6f1f", checked := Try.checked }
namespace Rows
def none {H : Type} : Left H := { results := [], args := [] }

/-- 'warpbeamlaw01.LebShort': WHATEVER THE INPUT: true; the input reads as it did. -/
def lebShortSpec : ChangeSpec := { name := "lebShort", fn := fun _ => fun
  | [d1, d2] => { results := [.lit (.bool true)], args := [d1, d2] }
  | _ => none }
def lebShortRow : OpenClaim := { program := "ytmfipofoeigleaa", sum := "dd5bab9bbbf1520be833b9184f2beab7c603c39907cc01a5758b3f46a84e6f1f", func := "warpbeam/warpbeamlaw01.LebShort", spec := "lebShort", apart := false }
def LebShortSaid : Prop := lebShortRow.holds Try.pinned (OpenSpec.ofChange lebShortSpec)

/-- ITS FALSE NEIGHBOUR: 'it returns false'. Refute it at one input. -/
def lebShortWrong : ChangeSpec := { name := "lebShort", fn := fun _ => fun
  | [d1, d2] => { results := [.lit (.bool false)], args := [d1, d2] }
  | _ => none }
def LebShortWrongFalsely : Prop := lebShortRow.holds Try.pinned (OpenSpec.ofChange lebShortWrong)

/-- 'warpbeamlaw01.LebBig': WHATEVER THE INPUT: true; the input reads as it did. -/
def lebBigSpec : ChangeSpec := { name := "lebBig", fn := fun _ => fun
  | [d1, d2, d3] => { results := [.lit (.bool true)], args := [d1, d2, d3] }
  | _ => none }
def lebBigRow : OpenClaim := { program := "ytmfipofoeigleaa", sum := "dd5bab9bbbf1520be833b9184f2beab7c603c39907cc01a5758b3f46a84e6f1f", func := "warpbeam/warpbeamlaw01.LebBig", spec := "lebBig", apart := false }
def LebBigSaid : Prop := lebBigRow.holds Try.pinned (OpenSpec.ofChange lebBigSpec)

/-- ITS FALSE NEIGHBOUR: 'it returns false'. Refute it at one input. -/
def lebBigWrong : ChangeSpec := { name := "lebBig", fn := fun _ => fun
  | [d1, d2, d3] => { results := [.lit (.bool false)], args := [d1, d2, d3] }
  | _ => none }
def LebBigWrongFalsely : Prop := lebBigRow.holds Try.pinned (OpenSpec.ofChange lebBigWrong)

/-- 'warpbeamlaw01.LebBack': WHATEVER THE INPUT: true; the input reads as it did. -/
def lebBackSpec : ChangeSpec := { name := "lebBack", fn := fun _ => fun
  | [d1, d2] => { results := [.lit (.bool true)], args := [d1, d2] }
  | _ => none }
def lebBackRow : OpenClaim := { program := "ytmfipofoeigleaa", sum := "dd5bab9bbbf1520be833b9184f2beab7c603c39907cc01a5758b3f46a84e6f1f", func := "warpbeam/warpbeamlaw01.LebBack", spec := "lebBack", apart := false }
def LebBackSaid : Prop := lebBackRow.holds Try.pinned (OpenSpec.ofChange lebBackSpec)

/-- ITS FALSE NEIGHBOUR: 'it returns false'. Refute it at one input. -/
def lebBackWrong : ChangeSpec := { name := "lebBack", fn := fun _ => fun
  | [d1, d2] => { results := [.lit (.bool false)], args := [d1, d2] }
  | _ => none }
def LebBackWrongFalsely : Prop := lebBackRow.holds Try.pinned (OpenSpec.ofChange lebBackWrong)

/-- 'warpbeamlaw01.LebAgain': WHATEVER THE INPUT: true; the input reads as it did. -/
def lebAgainSpec : ChangeSpec := { name := "lebAgain", fn := fun _ => fun
  | [d] => { results := [.lit (.bool true)], args := [d] }
  | _ => none }
def lebAgainRow : OpenClaim := { program := "ytmfipofoeigleaa", sum := "dd5bab9bbbf1520be833b9184f2beab7c603c39907cc01a5758b3f46a84e6f1f", func := "warpbeam/warpbeamlaw01.LebAgain", spec := "lebAgain", apart := false }
def LebAgainSaid : Prop := lebAgainRow.holds Try.pinned (OpenSpec.ofChange lebAgainSpec)

/-- ITS FALSE NEIGHBOUR: 'it returns false'. Refute it at one input. -/
def lebAgainWrong : ChangeSpec := { name := "lebAgain", fn := fun _ => fun
  | [d] => { results := [.lit (.bool false)], args := [d] }
  | _ => none }
def LebAgainWrongFalsely : Prop := lebAgainRow.holds Try.pinned (OpenSpec.ofChange lebAgainWrong)

/-- 'warpbeamlaw01.LebCut': WHATEVER THE INPUT: true; the input reads as it did. -/
def lebCutSpec : ChangeSpec := { name := "lebCut", fn := fun _ => fun
  | [d1, d2, d3] => { results := [.lit (.bool true)], args := [d1, d2, d3] }
  | _ => none }
def lebCutRow : OpenClaim := { program := "ytmfipofoeigleaa", sum := "dd5bab9bbbf1520be833b9184f2beab7c603c39907cc01a5758b3f46a84e6f1f", func := "warpbeam/warpbeamlaw01.LebCut", spec := "lebCut", apart := false }
def LebCutSaid : Prop := lebCutRow.holds Try.pinned (OpenSpec.ofChange lebCutSpec)

/-- ITS FALSE NEIGHBOUR: 'it returns false'. Refute it at one input. -/
def lebCutWrong : ChangeSpec := { name := "lebCut", fn := fun _ => fun
  | [d1, d2, d3] => { results := [.lit (.bool false)], args := [d1, d2, d3] }
  | _ => none }
def LebCutWrongFalsely : Prop := lebCutRow.holds Try.pinned (OpenSpec.ofChange lebCutWrong)

/-- 'warpbeamlaw01.LebSizes': WHATEVER THE INPUT: true; the input reads as it did. -/
def lebSizesSpec : ChangeSpec := { name := "lebSizes", fn := fun _ => fun
  | [d] => { results := [.lit (.bool true)], args := [d] }
  | _ => none }
def lebSizesRow : OpenClaim := { program := "ytmfipofoeigleaa", sum := "dd5bab9bbbf1520be833b9184f2beab7c603c39907cc01a5758b3f46a84e6f1f", func := "warpbeam/warpbeamlaw01.LebSizes", spec := "lebSizes", apart := false }
def LebSizesSaid : Prop := lebSizesRow.holds Try.pinned (OpenSpec.ofChange lebSizesSpec)

/-- ITS FALSE NEIGHBOUR: 'it returns false'. Refute it at one input. -/
def lebSizesWrong : ChangeSpec := { name := "lebSizes", fn := fun _ => fun
  | [d] => { results := [.lit (.bool false)], args := [d] }
  | _ => none }
def LebSizesWrongFalsely : Prop := lebSizesRow.holds Try.pinned (OpenSpec.ofChange lebSizesWrong)

/-- 'warpbeamlaw01.LebKnown': WHATEVER THE INPUT: true; the input reads as it did. -/
def lebKnownSpec : ChangeSpec := { name := "lebKnown", fn := fun _ => fun
  | [] => { results := [.lit (.bool true)], args := [] }
  | _ => none }
def lebKnownRow : OpenClaim := { program := "ytmfipofoeigleaa", sum := "dd5bab9bbbf1520be833b9184f2beab7c603c39907cc01a5758b3f46a84e6f1f", func := "warpbeam/warpbeamlaw01.LebKnown", spec := "lebKnown", apart := false }
def LebKnownSaid : Prop := lebKnownRow.holds Try.pinned (OpenSpec.ofChange lebKnownSpec)

/-- ITS FALSE NEIGHBOUR: 'it returns false'. Refute it at one input. -/
def lebKnownWrong : ChangeSpec := { name := "lebKnown", fn := fun _ => fun
  | [] => { results := [.lit (.bool false)], args := [] }
  | _ => none }
def LebKnownWrongFalsely : Prop := lebKnownRow.holds Try.pinned (OpenSpec.ofChange lebKnownWrong)

/-- 'warpbeamlaw01.LebOrder': WHATEVER THE INPUT: true; the input reads as it did. -/
def lebOrderSpec : ChangeSpec := { name := "lebOrder", fn := fun _ => fun
  | [d1, d2, d3] => { results := [.lit (.bool true)], args := [d1, d2, d3] }
  | _ => none }
def lebOrderRow : OpenClaim := { program := "ytmfipofoeigleaa", sum := "dd5bab9bbbf1520be833b9184f2beab7c603c39907cc01a5758b3f46a84e6f1f", func := "warpbeam/warpbeamlaw01.LebOrder", spec := "lebOrder", inPlace := ["internal/bytealg.Compare"], apart := false }
def LebOrderSaid : Prop := lebOrderRow.holds Try.pinned (OpenSpec.ofChange lebOrderSpec)

/-- ITS FALSE NEIGHBOUR: 'it returns false'. Refute it at one input. -/
def lebOrderWrong : ChangeSpec := { name := "lebOrder", fn := fun _ => fun
  | [d1, d2, d3] => { results := [.lit (.bool false)], args := [d1, d2, d3] }
  | _ => none }
def LebOrderWrongFalsely : Prop := lebOrderRow.holds Try.pinned (OpenSpec.ofChange lebOrderWrong)

/-- 'warpbeamlaw01.LebApart': WHATEVER THE INPUT: true; the input reads as it did. -/
def lebApartSpec : ChangeSpec := { name := "lebApart", fn := fun _ => fun
  | [d1, d2] => { results := [.lit (.bool true)], args := [d1, d2] }
  | _ => none }
def lebApartRow : OpenClaim := { program := "ytmfipofoeigleaa", sum := "dd5bab9bbbf1520be833b9184f2beab7c603c39907cc01a5758b3f46a84e6f1f", func := "warpbeam/warpbeamlaw01.LebApart", spec := "lebApart", apart := false }
def LebApartSaid : Prop := lebApartRow.holds Try.pinned (OpenSpec.ofChange lebApartSpec)

/-- ITS FALSE NEIGHBOUR: 'it returns false'. Refute it at one input. -/
def lebApartWrong : ChangeSpec := { name := "lebApart", fn := fun _ => fun
  | [d1, d2] => { results := [.lit (.bool false)], args := [d1, d2] }
  | _ => none }
def LebApartWrongFalsely : Prop := lebApartRow.holds Try.pinned (OpenSpec.ofChange lebApartWrong)

/- THE SECOND FORM. 'bulk': how many values and letters a reading holds, each counted each time it is reached (what is shared counts as often as it is met; a slice's spare places count too). A statement '..UptoSaid' is the law's where the arguments, and the package variables that the reading takes, are together of bulk at most 1048576: NARROWER than '..Said'. Prove '..Said' where nothing that the law and all that it calls make is longer than what came in: it says more and counts as full. Else prove '..UptoSaid'. A law counts once. -/
mutual
def uptoBulk {H : Type} : DataW H → Nat
  | .lit (.string bytes) => bytes.length + 1
  | .lit _ => 1
  | .nil => 1
  | .ptr d => uptoBulk d + 1
  | .slice elems spare => uptoBulkAll elems + uptoBulkAll spare + 1
  | .agg parts => uptoBulkAll parts + 1
  | .iface _ d => uptoBulk d + 1
  | .map entries => uptoBulkEntries entries + 1
  | .held _ => 1
def uptoBulkAll {H : Type} : List (DataW H) → Nat
  | [] => 0
  | d :: r => uptoBulk d + uptoBulkAll r
def uptoBulkEntries {H : Type} : List (Lit × DataW H) → Nat
  | [] => 0
  | x :: r => uptoBulkEntry x + uptoBulkEntries r
def uptoBulkEntry {H : Type} : Lit × DataW H → Nat
  | (.string bytes, d) => bytes.length + uptoBulk d + 1
  | (_, d) => uptoBulk d + 1
 end
def uptoSmall : (H : Type) → List (DataW H) → Bool := fun _ ds => decide (uptoBulkAll ds ≤ 1048576)
def OpenSpec.upto (s : _root_.Go.ChangeSpec) : _root_.Go.OpenSpec := { _root_.Go.OpenSpec.ofChange s with cond := some uptoSmall }

/-- 'warpbeamlaw01.LebShort', WHERE WHAT IT READS IS OF BULK AT MOST 1048576: true; the input reads as it did. -/
def lebShortUptoRow : OpenClaim := { program := "ytmfipofoeigleaa", sum := "dd5bab9bbbf1520be833b9184f2beab7c603c39907cc01a5758b3f46a84e6f1f", func := "warpbeam/warpbeamlaw01.LebShort", spec := "lebShort", apart := false, narrowed := true }
def LebShortUptoSaid : Prop := lebShortUptoRow.holds Try.pinned (OpenSpec.upto lebShortSpec)

/-- 'warpbeamlaw01.LebBig', WHERE WHAT IT READS IS OF BULK AT MOST 1048576: true; the input reads as it did. -/
def lebBigUptoRow : OpenClaim := { program := "ytmfipofoeigleaa", sum := "dd5bab9bbbf1520be833b9184f2beab7c603c39907cc01a5758b3f46a84e6f1f", func := "warpbeam/warpbeamlaw01.LebBig", spec := "lebBig", apart := false, narrowed := true }
def LebBigUptoSaid : Prop := lebBigUptoRow.holds Try.pinned (OpenSpec.upto lebBigSpec)

/-- 'warpbeamlaw01.LebBack', WHERE WHAT IT READS IS OF BULK AT MOST 1048576: true; the input reads as it did. -/
def lebBackUptoRow : OpenClaim := { program := "ytmfipofoeigleaa", sum := "dd5bab9bbbf1520be833b9184f2beab7c603c39907cc01a5758b3f46a84e6f1f", func := "warpbeam/warpbeamlaw01.LebBack", spec := "lebBack", apart := false, narrowed := true }
def LebBackUptoSaid : Prop := lebBackUptoRow.holds Try.pinned (OpenSpec.upto lebBackSpec)

/-- 'warpbeamlaw01.LebAgain', WHERE WHAT IT READS IS OF BULK AT MOST 1048576: true; the input reads as it did. -/
def lebAgainUptoRow : OpenClaim := { program := "ytmfipofoeigleaa", sum := "dd5bab9bbbf1520be833b9184f2beab7c603c39907cc01a5758b3f46a84e6f1f", func := "warpbeam/warpbeamlaw01.LebAgain", spec := "lebAgain", apart := false, narrowed := true }
def LebAgainUptoSaid : Prop := lebAgainUptoRow.holds Try.pinned (OpenSpec.upto lebAgainSpec)

/-- 'warpbeamlaw01.LebCut', WHERE WHAT IT READS IS OF BULK AT MOST 1048576: true; the input reads as it did. -/
def lebCutUptoRow : OpenClaim := { program := "ytmfipofoeigleaa", sum := "dd5bab9bbbf1520be833b9184f2beab7c603c39907cc01a5758b3f46a84e6f1f", func := "warpbeam/warpbeamlaw01.LebCut", spec := "lebCut", apart := false, narrowed := true }
def LebCutUptoSaid : Prop := lebCutUptoRow.holds Try.pinned (OpenSpec.upto lebCutSpec)

/-- 'warpbeamlaw01.LebSizes', WHERE WHAT IT READS IS OF BULK AT MOST 1048576: true; the input reads as it did. -/
def lebSizesUptoRow : OpenClaim := { program := "ytmfipofoeigleaa", sum := "dd5bab9bbbf1520be833b9184f2beab7c603c39907cc01a5758b3f46a84e6f1f", func := "warpbeam/warpbeamlaw01.LebSizes", spec := "lebSizes", apart := false, narrowed := true }
def LebSizesUptoSaid : Prop := lebSizesUptoRow.holds Try.pinned (OpenSpec.upto lebSizesSpec)

/-- 'warpbeamlaw01.LebKnown', WHERE WHAT IT READS IS OF BULK AT MOST 1048576: true; the input reads as it did. -/
def lebKnownUptoRow : OpenClaim := { program := "ytmfipofoeigleaa", sum := "dd5bab9bbbf1520be833b9184f2beab7c603c39907cc01a5758b3f46a84e6f1f", func := "warpbeam/warpbeamlaw01.LebKnown", spec := "lebKnown", apart := false, narrowed := true }
def LebKnownUptoSaid : Prop := lebKnownUptoRow.holds Try.pinned (OpenSpec.upto lebKnownSpec)

/-- 'warpbeamlaw01.LebOrder', WHERE WHAT IT READS IS OF BULK AT MOST 1048576: true; the input reads as it did. -/
def lebOrderUptoRow : OpenClaim := { program := "ytmfipofoeigleaa", sum := "dd5bab9bbbf1520be833b9184f2beab7c603c39907cc01a5758b3f46a84e6f1f", func := "warpbeam/warpbeamlaw01.LebOrder", spec := "lebOrder", inPlace := ["internal/bytealg.Compare"], apart := false, narrowed := true }
def LebOrderUptoSaid : Prop := lebOrderUptoRow.holds Try.pinned (OpenSpec.upto lebOrderSpec)

/-- 'warpbeamlaw01.LebApart', WHERE WHAT IT READS IS OF BULK AT MOST 1048576: true; the input reads as it did. -/
def lebApartUptoRow : OpenClaim := { program := "ytmfipofoeigleaa", sum := "dd5bab9bbbf1520be833b9184f2beab7c603c39907cc01a5758b3f46a84e6f1f", func := "warpbeam/warpbeamlaw01.LebApart", spec := "lebApart", apart := false, narrowed := true }
def LebApartUptoSaid : Prop := lebApartUptoRow.holds Try.pinned (OpenSpec.upto lebApartSpec)

end Rows
end Go.Proofs.Ytmfipofoeigleaa
