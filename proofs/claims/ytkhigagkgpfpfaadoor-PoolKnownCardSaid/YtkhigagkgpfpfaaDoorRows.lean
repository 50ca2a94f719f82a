/-
  NARROWER THAN 'FOR EVERY INPUT', by the rows' own cells (each row's printed sentence says how): PoolReads: laid · PoolMore: laid · PoolBack: laid · PoolAgain: laid · PoolCut: laid · PoolTells: laid · PoolOne: laid · PoolKnown: laid · PoolWrites: laid.
  DERIVED. THE GIVEN ROWS OF THIS SEAT. 9 by the template 'for every input the law returns true; each argument reads behind the call as it read before'; 0 by the template 'total and deterministic' (their statements: YtkhigagkgpfpfaaDoorTotals.lean).
  GIVEN WITH THE SEED: the statements are not yours to turn. If you find one false, say at which input.
  Laid BY PROGRAM, IN A SANDBOX (cutbox-rows.mjs): the forced cells as the released guide's own fill.sh prints them over the translation 224a1478a3b53d02… (all of the seat's roots in one cut). By AI agents, Wed Nov 11 2026. No macro, syntax, notation, axiom, sorry.
-/
import Derived.Test.YtkhigagkgpfpfaaDoorChecked
import GoSem.PinnedTables
import GoSem.Claim
import GoSem.ClaimJoined
import GoSem.ClaimMapViews
import Derived.JoinedTies
import Derived.KernelRfl
namespace Go.Proofs.YtkhigagkgpfpfaaDoor
/- THE CELL 'sum', in the pinned program and in every row, IS THE sha256 OF THE DUMP (.gsa) THAT YtkhigagkgpfpfaaDoorProg.lean LOADS. Nothing in Lean hashes anything: it is a label: what it is worth is what the hold of that sum in a sandbox is worth. -/
noncomputable def Tryd.pinned : Pinned := { name := "ytkhigagkgpfpfaadoor", sum := "224a1478a3b53d02d112b7383e7f7d003d5ee2fe212a274e6eab3e076b8b1082", checked := Tryd.checked }
namespace Rows
def none {H : Type} : Left H := { results := [], args := [] }

/- WHAT THE LISTED PACKAGE-LEVEL VARIABLES READ AS WHEN THE CALL BEGINS. Each datum BY PROGRAM (the guide's laid-datum.mjs) off the statement by which the dump's own 'gosem.cut.vars' lays the variable. In a bare row this is a premise. The card (YtkhigagkgpfpfaaDoorCards.lean) ties it to the program's text. -/
def laid_unicode_utf8_acceptRanges {H : Type} : DataW H := .agg [.agg [.lit (.int .u8 128), .lit (.int .u8 191)], .agg [.lit (.int .u8 160), .lit (.int .u8 191)], .agg [.lit (.int .u8 128), .lit (.int .u8 159)], .agg [.lit (.int .u8 144), .lit (.int .u8 191)], .agg [.lit (.int .u8 128), .lit (.int .u8 143)], .agg [.lit (.int .u8 0), .lit (.int .u8 0)], .agg [.lit (.int .u8 0), .lit (.int .u8 0)], .agg [.lit (.int .u8 0), .lit (.int .u8 0)], .agg [.lit (.int .u8 0), .lit (.int .u8 0)], .agg [.lit (.int .u8 0), .lit (.int .u8 0)], .agg [.lit (.int .u8 0), .lit (.int .u8 0)], .agg [.lit (.int .u8 0), .lit (.int .u8 0)], .agg [.lit (.int .u8 0), .lit (.int .u8 0)], .agg [.lit (.int .u8 0), .lit (.int .u8 0)], .agg [.lit (.int .u8 0), .lit (.int .u8 0)], .agg [.lit (.int .u8 0), .lit (.int .u8 0)]]
def laid_warpbeam_pool_reads {H : Type} : DataW H := .iface "func table" (.agg [.nil, .iface "func" (.lit (.string [40, 42, 119, 97, 114, 112, 98, 101, 97, 109, 47, 112, 111, 111, 108, 46, 114, 101, 97, 100, 101, 114, 41, 46, 116, 101, 120, 116])), .iface "func" (.lit (.string [40, 42, 119, 97, 114, 112, 98, 101, 97, 109, 47, 112, 111, 111, 108, 46, 114, 101, 97, 100, 101, 114, 41, 46, 110, 117, 109, 98, 101, 114])), .iface "func" (.lit (.string [40, 42, 119, 97, 114, 112, 98, 101, 97, 109, 47, 112, 111, 111, 108, 46, 114, 101, 97, 100, 101, 114, 41, 46, 110, 117, 109, 98, 101, 114])), .iface "func" (.lit (.string [40, 42, 119, 97, 114, 112, 98, 101, 97, 109, 47, 112, 111, 111, 108, 46, 114, 101, 97, 100, 101, 114, 41, 46, 99, 108, 97, 115, 115])), .iface "func" (.lit (.string [40, 42, 119, 97, 114, 112, 98, 101, 97, 109, 47, 112, 111, 111, 108, 46, 114, 101, 97, 100, 101, 114, 41, 46, 114, 101, 102])), .iface "func" (.lit (.string [40, 42, 119, 97, 114, 112, 98, 101, 97, 109, 47, 112, 111, 111, 108, 46, 114, 101, 97, 100, 101, 114, 41, 46, 114, 101, 102]))])
/-- One of Go's own tables, pinned by name: the form's constant. -/
def laid_unicode_utf8_first : DataW Unit := Go.Pinned.utf8First
def laid_math_bits_deBruijn32tab {H : Type} : DataW H := .agg [.lit (.int .u8 0), .lit (.int .u8 1), .lit (.int .u8 28), .lit (.int .u8 2), .lit (.int .u8 29), .lit (.int .u8 14), .lit (.int .u8 24), .lit (.int .u8 3), .lit (.int .u8 30), .lit (.int .u8 22), .lit (.int .u8 20), .lit (.int .u8 15), .lit (.int .u8 25), .lit (.int .u8 17), .lit (.int .u8 4), .lit (.int .u8 8), .lit (.int .u8 31), .lit (.int .u8 27), .lit (.int .u8 13), .lit (.int .u8 23), .lit (.int .u8 21), .lit (.int .u8 19), .lit (.int .u8 16), .lit (.int .u8 7), .lit (.int .u8 26), .lit (.int .u8 12), .lit (.int .u8 18), .lit (.int .u8 6), .lit (.int .u8 11), .lit (.int .u8 5), .lit (.int .u8 10), .lit (.int .u8 9)]
def laid_math_bits_deBruijn64tab {H : Type} : DataW H := .agg [.lit (.int .u8 0), .lit (.int .u8 1), .lit (.int .u8 56), .lit (.int .u8 2), .lit (.int .u8 57), .lit (.int .u8 49), .lit (.int .u8 28), .lit (.int .u8 3), .lit (.int .u8 61), .lit (.int .u8 58), .lit (.int .u8 42), .lit (.int .u8 50), .lit (.int .u8 38), .lit (.int .u8 29), .lit (.int .u8 17), .lit (.int .u8 4), .lit (.int .u8 62), .lit (.int .u8 47), .lit (.int .u8 59), .lit (.int .u8 36), .lit (.int .u8 45), .lit (.int .u8 43), .lit (.int .u8 51), .lit (.int .u8 22), .lit (.int .u8 53), .lit (.int .u8 39), .lit (.int .u8 33), .lit (.int .u8 30), .lit (.int .u8 24), .lit (.int .u8 18), .lit (.int .u8 12), .lit (.int .u8 5), .lit (.int .u8 63), .lit (.int .u8 55), .lit (.int .u8 48), .lit (.int .u8 27), .lit (.int .u8 60), .lit (.int .u8 41), .lit (.int .u8 37), .lit (.int .u8 16), .lit (.int .u8 46), .lit (.int .u8 35), .lit (.int .u8 44), .lit (.int .u8 21), .lit (.int .u8 52), .lit (.int .u8 32), .lit (.int .u8 23), .lit (.int .u8 11), .lit (.int .u8 54), .lit (.int .u8 26), .lit (.int .u8 40), .lit (.int .u8 15), .lit (.int .u8 34), .lit (.int .u8 20), .lit (.int .u8 31), .lit (.int .u8 10), .lit (.int .u8 25), .lit (.int .u8 14), .lit (.int .u8 19), .lit (.int .u8 9), .lit (.int .u8 13), .lit (.int .u8 8), .lit (.int .u8 7), .lit (.int .u8 6)]
def laid_internal_strconv_uint64pow10 {H : Type} : DataW H := .agg [.lit (.int .u64 1), .lit (.int .u64 10), .lit (.int .u64 100), .lit (.int .u64 1000), .lit (.int .u64 10000), .lit (.int .u64 100000), .lit (.int .u64 1000000), .lit (.int .u64 10000000), .lit (.int .u64 100000000), .lit (.int .u64 1000000000), .lit (.int .u64 10000000000), .lit (.int .u64 100000000000), .lit (.int .u64 1000000000000), .lit (.int .u64 10000000000000), .lit (.int .u64 100000000000000), .lit (.int .u64 1000000000000000), .lit (.int .u64 10000000000000000), .lit (.int .u64 100000000000000000), .lit (.int .u64 1000000000000000000), .lit (.int .u64 10000000000000000000)]

/-- 'warpbeamlaw04.PoolReads': WHATEVER THE INPUT: true; the input reads as it did. -/
def poolReadsSpec : ChangeSpec := { name := "poolReads", fn := fun _ => fun
  | [d] => { results := [.lit (.bool true)], args := [d] }
  | _ => none }
def poolReadsRow : OpenClaim := { program := "ytkhigagkgpfpfaadoor", sum := "224a1478a3b53d02d112b7383e7f7d003d5ee2fe212a274e6eab3e076b8b1082", func := "warpbeam/warpbeamlaw04.PoolReads", spec := "poolReads", unfollowed := true, recurses := true, named := ["warpbeam/pool.reads", "unicode/utf8.first", "unicode/utf8.acceptRanges"], apart := false, laid := [("unicode/utf8.acceptRanges", laid_unicode_utf8_acceptRanges), ("warpbeam/pool.reads", laid_warpbeam_pool_reads), ("unicode/utf8.first", laid_unicode_utf8_first)] }
def PoolReadsSaid : Prop := poolReadsRow.holds Tryd.pinned (OpenSpec.ofChange poolReadsSpec)

/-- ITS FALSE NEIGHBOUR: 'it returns false'. Refute it at one input. -/
def poolReadsWrong : ChangeSpec := { name := "poolReads", fn := fun _ => fun
  | [d] => { results := [.lit (.bool false)], args := [d] }
  | _ => none }
def PoolReadsWrongFalsely : Prop := poolReadsRow.holds Tryd.pinned (OpenSpec.ofChange poolReadsWrong)

/-- 'warpbeamlaw04.PoolMore': WHATEVER THE INPUT: true; the input reads as it did. -/
def poolMoreSpec : ChangeSpec := { name := "poolMore", fn := fun _ => fun
  | [d1, d2, d3] => { results := [.lit (.bool true)], args := [d1, d2, d3] }
  | _ => none }
def poolMoreRow : OpenClaim := { program := "ytkhigagkgpfpfaadoor", sum := "224a1478a3b53d02d112b7383e7f7d003d5ee2fe212a274e6eab3e076b8b1082", func := "warpbeam/warpbeamlaw04.PoolMore", spec := "poolMore", unfollowed := true, recurses := true, named := ["warpbeam/pool.reads", "unicode/utf8.first", "unicode/utf8.acceptRanges", "internal/strconv.uint64pow10", "math/bits.deBruijn32tab", "math/bits.deBruijn64tab"], apart := false, laid := [("math/bits.deBruijn32tab", laid_math_bits_deBruijn32tab), ("math/bits.deBruijn64tab", laid_math_bits_deBruijn64tab), ("internal/strconv.uint64pow10", laid_internal_strconv_uint64pow10), ("unicode/utf8.acceptRanges", laid_unicode_utf8_acceptRanges), ("warpbeam/pool.reads", laid_warpbeam_pool_reads), ("unicode/utf8.first", laid_unicode_utf8_first)] }
def PoolMoreSaid : Prop := poolMoreRow.holds Tryd.pinned (OpenSpec.ofChange poolMoreSpec)

/-- ITS FALSE NEIGHBOUR: 'it returns false'. Refute it at one input. -/
def poolMoreWrong : ChangeSpec := { name := "poolMore", fn := fun _ => fun
  | [d1, d2, d3] => { results := [.lit (.bool false)], args := [d1, d2, d3] }
  | _ => none }
def PoolMoreWrongFalsely : Prop := poolMoreRow.holds Tryd.pinned (OpenSpec.ofChange poolMoreWrong)

/-- 'warpbeamlaw04.PoolBack': WHATEVER THE INPUT: true; the input reads as it did. -/
def poolBackSpec : ChangeSpec := { name := "poolBack", fn := fun _ => fun
  | [d1, d2] => { results := [.lit (.bool true)], args := [d1, d2] }
  | _ => none }
def poolBackRow : OpenClaim := { program := "ytkhigagkgpfpfaadoor", sum := "224a1478a3b53d02d112b7383e7f7d003d5ee2fe212a274e6eab3e076b8b1082", func := "warpbeam/warpbeamlaw04.PoolBack", spec := "poolBack", unfollowed := true, recurses := true, named := ["warpbeam/pool.reads", "unicode/utf8.first", "unicode/utf8.acceptRanges"], apart := false, laid := [("unicode/utf8.acceptRanges", laid_unicode_utf8_acceptRanges), ("warpbeam/pool.reads", laid_warpbeam_pool_reads), ("unicode/utf8.first", laid_unicode_utf8_first)] }
def PoolBackSaid : Prop := poolBackRow.holds Tryd.pinned (OpenSpec.ofChange poolBackSpec)

/-- ITS FALSE NEIGHBOUR: 'it returns false'. Refute it at one input. -/
def poolBackWrong : ChangeSpec := { name := "poolBack", fn := fun _ => fun
  | [d1, d2] => { results := [.lit (.bool false)], args := [d1, d2] }
  | _ => none }
def PoolBackWrongFalsely : Prop := poolBackRow.holds Tryd.pinned (OpenSpec.ofChange poolBackWrong)

/-- 'warpbeamlaw04.PoolAgain': WHATEVER THE INPUT: true; the input reads as it did. -/
def poolAgainSpec : ChangeSpec := { name := "poolAgain", fn := fun _ => fun
  | [d] => { results := [.lit (.bool true)], args := [d] }
  | _ => none }
def poolAgainRow : OpenClaim := { program := "ytkhigagkgpfpfaadoor", sum := "224a1478a3b53d02d112b7383e7f7d003d5ee2fe212a274e6eab3e076b8b1082", func := "warpbeam/warpbeamlaw04.PoolAgain", spec := "poolAgain", unfollowed := true, recurses := true, named := ["warpbeam/pool.reads", "unicode/utf8.first", "unicode/utf8.acceptRanges"], apart := false, laid := [("unicode/utf8.acceptRanges", laid_unicode_utf8_acceptRanges), ("warpbeam/pool.reads", laid_warpbeam_pool_reads), ("unicode/utf8.first", laid_unicode_utf8_first)] }
def PoolAgainSaid : Prop := poolAgainRow.holds Tryd.pinned (OpenSpec.ofChange poolAgainSpec)

/-- ITS FALSE NEIGHBOUR: 'it returns false'. Refute it at one input. -/
def poolAgainWrong : ChangeSpec := { name := "poolAgain", fn := fun _ => fun
  | [d] => { results := [.lit (.bool false)], args := [d] }
  | _ => none }
def PoolAgainWrongFalsely : Prop := poolAgainRow.holds Tryd.pinned (OpenSpec.ofChange poolAgainWrong)

/-- 'warpbeamlaw04.PoolCut': WHATEVER THE INPUT: true; the input reads as it did. -/
def poolCutSpec : ChangeSpec := { name := "poolCut", fn := fun _ => fun
  | [d1, d2] => { results := [.lit (.bool true)], args := [d1, d2] }
  | _ => none }
def poolCutRow : OpenClaim := { program := "ytkhigagkgpfpfaadoor", sum := "224a1478a3b53d02d112b7383e7f7d003d5ee2fe212a274e6eab3e076b8b1082", func := "warpbeam/warpbeamlaw04.PoolCut", spec := "poolCut", unfollowed := true, recurses := true, named := ["warpbeam/pool.reads", "unicode/utf8.first", "unicode/utf8.acceptRanges"], apart := false, laid := [("unicode/utf8.acceptRanges", laid_unicode_utf8_acceptRanges), ("warpbeam/pool.reads", laid_warpbeam_pool_reads), ("unicode/utf8.first", laid_unicode_utf8_first)] }
def PoolCutSaid : Prop := poolCutRow.holds Tryd.pinned (OpenSpec.ofChange poolCutSpec)

/-- ITS FALSE NEIGHBOUR: 'it returns false'. Refute it at one input. -/
def poolCutWrong : ChangeSpec := { name := "poolCut", fn := fun _ => fun
  | [d1, d2] => { results := [.lit (.bool false)], args := [d1, d2] }
  | _ => none }
def PoolCutWrongFalsely : Prop := poolCutRow.holds Tryd.pinned (OpenSpec.ofChange poolCutWrong)

/-- 'warpbeamlaw04.PoolTells': WHATEVER THE INPUT: true; the input reads as it did. -/
def poolTellsSpec : ChangeSpec := { name := "poolTells", fn := fun _ => fun
  | [d1, d2, d3] => { results := [.lit (.bool true)], args := [d1, d2, d3] }
  | _ => none }
def poolTellsRow : OpenClaim := { program := "ytkhigagkgpfpfaadoor", sum := "224a1478a3b53d02d112b7383e7f7d003d5ee2fe212a274e6eab3e076b8b1082", func := "warpbeam/warpbeamlaw04.PoolTells", spec := "poolTells", unfollowed := true, recurses := true, named := ["warpbeam/pool.reads", "unicode/utf8.first", "unicode/utf8.acceptRanges"], apart := false, laid := [("unicode/utf8.acceptRanges", laid_unicode_utf8_acceptRanges), ("warpbeam/pool.reads", laid_warpbeam_pool_reads), ("unicode/utf8.first", laid_unicode_utf8_first)] }
def PoolTellsSaid : Prop := poolTellsRow.holds Tryd.pinned (OpenSpec.ofChange poolTellsSpec)

/-- ITS FALSE NEIGHBOUR: 'it returns false'. Refute it at one input. -/
def poolTellsWrong : ChangeSpec := { name := "poolTells", fn := fun _ => fun
  | [d1, d2, d3] => { results := [.lit (.bool false)], args := [d1, d2, d3] }
  | _ => none }
def PoolTellsWrongFalsely : Prop := poolTellsRow.holds Tryd.pinned (OpenSpec.ofChange poolTellsWrong)

/-- 'warpbeamlaw04.PoolOne': WHATEVER THE INPUT: true; the input reads as it did. -/
def poolOneSpec : ChangeSpec := { name := "poolOne", fn := fun _ => fun
  | [d1, d2] => { results := [.lit (.bool true)], args := [d1, d2] }
  | _ => none }
def poolOneRow : OpenClaim := { program := "ytkhigagkgpfpfaadoor", sum := "224a1478a3b53d02d112b7383e7f7d003d5ee2fe212a274e6eab3e076b8b1082", func := "warpbeam/warpbeamlaw04.PoolOne", spec := "poolOne", unfollowed := true, recurses := true, named := ["warpbeam/pool.reads", "unicode/utf8.first", "unicode/utf8.acceptRanges"], apart := false, laid := [("unicode/utf8.acceptRanges", laid_unicode_utf8_acceptRanges), ("warpbeam/pool.reads", laid_warpbeam_pool_reads), ("unicode/utf8.first", laid_unicode_utf8_first)] }
def PoolOneSaid : Prop := poolOneRow.holds Tryd.pinned (OpenSpec.ofChange poolOneSpec)

/-- ITS FALSE NEIGHBOUR: 'it returns false'. Refute it at one input. -/
def poolOneWrong : ChangeSpec := { name := "poolOne", fn := fun _ => fun
  | [d1, d2] => { results := [.lit (.bool false)], args := [d1, d2] }
  | _ => none }
def PoolOneWrongFalsely : Prop := poolOneRow.holds Tryd.pinned (OpenSpec.ofChange poolOneWrong)

/-- 'warpbeamlaw04.PoolKnown': WHATEVER THE INPUT: true; the input reads as it did. -/
def poolKnownSpec : ChangeSpec := { name := "poolKnown", fn := fun _ => fun
  | [] => { results := [.lit (.bool true)], args := [] }
  | _ => none }
def poolKnownRow : OpenClaim := { program := "ytkhigagkgpfpfaadoor", sum := "224a1478a3b53d02d112b7383e7f7d003d5ee2fe212a274e6eab3e076b8b1082", func := "warpbeam/warpbeamlaw04.PoolKnown", spec := "poolKnown", unfollowed := true, recurses := true, named := ["unicode/utf8.first", "unicode/utf8.acceptRanges", "warpbeam/pool.reads"], apart := false, laid := [("unicode/utf8.acceptRanges", laid_unicode_utf8_acceptRanges), ("warpbeam/pool.reads", laid_warpbeam_pool_reads), ("unicode/utf8.first", laid_unicode_utf8_first)] }
def PoolKnownSaid : Prop := poolKnownRow.holds Tryd.pinned (OpenSpec.ofChange poolKnownSpec)

/-- ITS FALSE NEIGHBOUR: 'it returns false'. Refute it at one input. -/
def poolKnownWrong : ChangeSpec := { name := "poolKnown", fn := fun _ => fun
  | [] => { results := [.lit (.bool false)], args := [] }
  | _ => none }
def PoolKnownWrongFalsely : Prop := poolKnownRow.holds Tryd.pinned (OpenSpec.ofChange poolKnownWrong)

/-- 'warpbeamlaw04.PoolWrites': WHATEVER THE INPUT: true; the input reads as it did. -/
def poolWritesSpec : ChangeSpec := { name := "poolWrites", fn := fun _ => fun
  | [d] => { results := [.lit (.bool true)], args := [d] }
  | _ => none }
def poolWritesRow : OpenClaim := { program := "ytkhigagkgpfpfaadoor", sum := "224a1478a3b53d02d112b7383e7f7d003d5ee2fe212a274e6eab3e076b8b1082", func := "warpbeam/warpbeamlaw04.PoolWrites", spec := "poolWrites", unfollowed := true, recurses := true, named := ["unicode/utf8.first", "unicode/utf8.acceptRanges", "warpbeam/pool.reads"], apart := false, laid := [("unicode/utf8.acceptRanges", laid_unicode_utf8_acceptRanges), ("warpbeam/pool.reads", laid_warpbeam_pool_reads), ("unicode/utf8.first", laid_unicode_utf8_first)] }
def PoolWritesSaid : Prop := poolWritesRow.holds Tryd.pinned (OpenSpec.ofChange poolWritesSpec)

/-- ITS FALSE NEIGHBOUR: 'it returns false'. Refute it at one input. -/
def poolWritesWrong : ChangeSpec := { name := "poolWrites", fn := fun _ => fun
  | [d] => { results := [.lit (.bool false)], args := [d] }
  | _ => none }
def PoolWritesWrongFalsely : Prop := poolWritesRow.holds Tryd.pinned (OpenSpec.ofChange poolWritesWrong)

/- THE SECOND FORM. 'bulk': how many values and letters a reading holds, each counted each time it is reached (what is shared counts as often as it is met; a slice's spare places count too). A statement '..UptoSaid' is the law's where the arguments, and the package variables that the reading takes, are together of bulk at most 1048576: NARROWER than '..Said'. Prove '..Said' where nothing that the law and all that it calls make is longer than what came in: it says more and counts as full. Else prove '..UptoSaid'. A law counts once. -/
mutual
def uptoBulk {H : Type} : DataW H → Nat
  | .lit (.string bytes) => bytes.length + 1
  | .lit _ => 1
  | .nil => 1
  | .ptr d => uptoBulk d + 1
  | .slice elems spare => uptoBulkAll elems + uptoBulkAll spare + 1
  | .agg parts => uptoBulkAll parts + 1
  | .iface _ d => uptoBulk d + 1
  | .map entries => uptoBulkEntries entries + 1
  | .held _ => 1
def uptoBulkAll {H : Type} : List (DataW H) → Nat
  | [] => 0
  | d :: r => uptoBulk d + uptoBulkAll r
def uptoBulkEntries {H : Type} : List (Lit × DataW H) → Nat
  | [] => 0
  | x :: r => uptoBulkEntry x + uptoBulkEntries r
def uptoBulkEntry {H : Type} : Lit × DataW H → Nat
  | (.string bytes, d) => bytes.length + uptoBulk d + 1
  | (_, d) => uptoBulk d + 1
 end
def uptoSmall : (H : Type) → List (DataW H) → Bool := fun _ ds => decide (uptoBulkAll ds ≤ 1048576)
def OpenSpec.upto (s : _root_.Go.ChangeSpec) : _root_.Go.OpenSpec := { _root_.Go.OpenSpec.ofChange s with cond := some uptoSmall }

/-- 'warpbeamlaw04.PoolReads', WHERE WHAT IT READS IS OF BULK AT MOST 1048576: true; the input reads as it did. -/
def poolReadsUptoRow : OpenClaim := { program := "ytkhigagkgpfpfaadoor", sum := "224a1478a3b53d02d112b7383e7f7d003d5ee2fe212a274e6eab3e076b8b1082", func := "warpbeam/warpbeamlaw04.PoolReads", spec := "poolReads", unfollowed := true, recurses := true, named := ["warpbeam/pool.reads", "unicode/utf8.first", "unicode/utf8.acceptRanges"], apart := false, laid := [("unicode/utf8.acceptRanges", laid_unicode_utf8_acceptRanges), ("warpbeam/pool.reads", laid_warpbeam_pool_reads), ("unicode/utf8.first", laid_unicode_utf8_first)], narrowed := true }
def PoolReadsUptoSaid : Prop := poolReadsUptoRow.holds Tryd.pinned (OpenSpec.upto poolReadsSpec)

/-- 'warpbeamlaw04.PoolMore', WHERE WHAT IT READS IS OF BULK AT MOST 1048576: true; the input reads as it did. -/
def poolMoreUptoRow : OpenClaim := { program := "ytkhigagkgpfpfaadoor", sum := "224a1478a3b53d02d112b7383e7f7d003d5ee2fe212a274e6eab3e076b8b1082", func := "warpbeam/warpbeamlaw04.PoolMore", spec := "poolMore", unfollowed := true, recurses := true, named := ["warpbeam/pool.reads", "unicode/utf8.first", "unicode/utf8.acceptRanges", "internal/strconv.uint64pow10", "math/bits.deBruijn32tab", "math/bits.deBruijn64tab"], apart := false, laid := [("math/bits.deBruijn32tab", laid_math_bits_deBruijn32tab), ("math/bits.deBruijn64tab", laid_math_bits_deBruijn64tab), ("internal/strconv.uint64pow10", laid_internal_strconv_uint64pow10), ("unicode/utf8.acceptRanges", laid_unicode_utf8_acceptRanges), ("warpbeam/pool.reads", laid_warpbeam_pool_reads), ("unicode/utf8.first", laid_unicode_utf8_first)], narrowed := true }
def PoolMoreUptoSaid : Prop := poolMoreUptoRow.holds Tryd.pinned (OpenSpec.upto poolMoreSpec)

/-- 'warpbeamlaw04.PoolBack', WHERE WHAT IT READS IS OF BULK AT MOST 1048576: true; the input reads as it did. -/
def poolBackUptoRow : OpenClaim := { program := "ytkhigagkgpfpfaadoor", sum := "224a1478a3b53d02d112b7383e7f7d003d5ee2fe212a274e6eab3e076b8b1082", func := "warpbeam/warpbeamlaw04.PoolBack", spec := "poolBack", unfollowed := true, recurses := true, named := ["warpbeam/pool.reads", "unicode/utf8.first", "unicode/utf8.acceptRanges"], apart := false, laid := [("unicode/utf8.acceptRanges", laid_unicode_utf8_acceptRanges), ("warpbeam/pool.reads", laid_warpbeam_pool_reads), ("unicode/utf8.first", laid_unicode_utf8_first)], narrowed := true }
def PoolBackUptoSaid : Prop := poolBackUptoRow.holds Tryd.pinned (OpenSpec.upto poolBackSpec)

/-- 'warpbeamlaw04.PoolAgain', WHERE WHAT IT READS IS OF BULK AT MOST 1048576: true; the input reads as it did. -/
def poolAgainUptoRow : OpenClaim := { program := "ytkhigagkgpfpfaadoor", sum := "224a1478a3b53d02d112b7383e7f7d003d5ee2fe212a274e6eab3e076b8b1082", func := "warpbeam/warpbeamlaw04.PoolAgain", spec := "poolAgain", unfollowed := true, recurses := true, named := ["warpbeam/pool.reads", "unicode/utf8.first", "unicode/utf8.acceptRanges"], apart := false, laid := [("unicode/utf8.acceptRanges", laid_unicode_utf8_acceptRanges), ("warpbeam/pool.reads", laid_warpbeam_pool_reads), ("unicode/utf8.first", laid_unicode_utf8_first)], narrowed := true }
def PoolAgainUptoSaid : Prop := poolAgainUptoRow.holds Tryd.pinned (OpenSpec.upto poolAgainSpec)

/-- 'warpbeamlaw04.PoolCut', WHERE WHAT IT READS IS OF BULK AT MOST 1048576: true; the input reads as it did. -/
def poolCutUptoRow : OpenClaim := { program := "ytkhigagkgpfpfaadoor", sum := "224a1478a3b53d02d112b7383e7f7d003d5ee2fe212a274e6eab3e076b8b1082", func := "warpbeam/warpbeamlaw04.PoolCut", spec := "poolCut", unfollowed := true, recurses := true, named := ["warpbeam/pool.reads", "unicode/utf8.first", "unicode/utf8.acceptRanges"], apart := false, laid := [("unicode/utf8.acceptRanges", laid_unicode_utf8_acceptRanges), ("warpbeam/pool.reads", laid_warpbeam_pool_reads), ("unicode/utf8.first", laid_unicode_utf8_first)], narrowed := true }
def PoolCutUptoSaid : Prop := poolCutUptoRow.holds Tryd.pinned (OpenSpec.upto poolCutSpec)

/-- 'warpbeamlaw04.PoolTells', WHERE WHAT IT READS IS OF BULK AT MOST 1048576: true; the input reads as it did. -/
def poolTellsUptoRow : OpenClaim := { program := "ytkhigagkgpfpfaadoor", sum := "224a1478a3b53d02d112b7383e7f7d003d5ee2fe212a274e6eab3e076b8b1082", func := "warpbeam/warpbeamlaw04.PoolTells", spec := "poolTells", unfollowed := true, recurses := true, named := ["warpbeam/pool.reads", "unicode/utf8.first", "unicode/utf8.acceptRanges"], apart := false, laid := [("unicode/utf8.acceptRanges", laid_unicode_utf8_acceptRanges), ("warpbeam/pool.reads", laid_warpbeam_pool_reads), ("unicode/utf8.first", laid_unicode_utf8_first)], narrowed := true }
def PoolTellsUptoSaid : Prop := poolTellsUptoRow.holds Tryd.pinned (OpenSpec.upto poolTellsSpec)

/-- 'warpbeamlaw04.PoolOne', WHERE WHAT IT READS IS OF BULK AT MOST 1048576: true; the input reads as it did. -/
def poolOneUptoRow : OpenClaim := { program := "ytkhigagkgpfpfaadoor", sum := "224a1478a3b53d02d112b7383e7f7d003d5ee2fe212a274e6eab3e076b8b1082", func := "warpbeam/warpbeamlaw04.PoolOne", spec := "poolOne", unfollowed := true, recurses := true, named := ["warpbeam/pool.reads", "unicode/utf8.first", "unicode/utf8.acceptRanges"], apart := false, laid := [("unicode/utf8.acceptRanges", laid_unicode_utf8_acceptRanges), ("warpbeam/pool.reads", laid_warpbeam_pool_reads), ("unicode/utf8.first", laid_unicode_utf8_first)], narrowed := true }
def PoolOneUptoSaid : Prop := poolOneUptoRow.holds Tryd.pinned (OpenSpec.upto poolOneSpec)

/-- 'warpbeamlaw04.PoolKnown', WHERE WHAT IT READS IS OF BULK AT MOST 1048576: true; the input reads as it did. -/
def poolKnownUptoRow : OpenClaim := { program := "ytkhigagkgpfpfaadoor", sum := "224a1478a3b53d02d112b7383e7f7d003d5ee2fe212a274e6eab3e076b8b1082", func := "warpbeam/warpbeamlaw04.PoolKnown", spec := "poolKnown", unfollowed := true, recurses := true, named := ["unicode/utf8.first", "unicode/utf8.acceptRanges", "warpbeam/pool.reads"], apart := false, laid := [("unicode/utf8.acceptRanges", laid_unicode_utf8_acceptRanges), ("warpbeam/pool.reads", laid_warpbeam_pool_reads), ("unicode/utf8.first", laid_unicode_utf8_first)], narrowed := true }
def PoolKnownUptoSaid : Prop := poolKnownUptoRow.holds Tryd.pinned (OpenSpec.upto poolKnownSpec)

/-- 'warpbeamlaw04.PoolWrites', WHERE WHAT IT READS IS OF BULK AT MOST 1048576: true; the input reads as it did. -/
def poolWritesUptoRow : OpenClaim := { program := "ytkhigagkgpfpfaadoor", sum := "224a1478a3b53d02d112b7383e7f7d003d5ee2fe212a274e6eab3e076b8b1082", func := "warpbeam/warpbeamlaw04.PoolWrites", spec := "poolWrites", unfollowed := true, recurses := true, named := ["unicode/utf8.first", "unicode/utf8.acceptRanges", "warpbeam/pool.reads"], apart := false, laid := [("unicode/utf8.acceptRanges", laid_unicode_utf8_acceptRanges), ("warpbeam/pool.reads", laid_warpbeam_pool_reads), ("unicode/utf8.first", laid_unicode_utf8_first)], narrowed := true }
def PoolWritesUptoSaid : Prop := poolWritesUptoRow.holds Tryd.pinned (OpenSpec.upto poolWritesSpec)

end Rows
end Go.Proofs.YtkhigagkgpfpfaaDoor
