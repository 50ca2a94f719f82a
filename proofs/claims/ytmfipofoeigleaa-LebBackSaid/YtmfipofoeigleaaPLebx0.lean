/- The law of this text: for every input that its row speaks of, the Go functions that it reaches return just what the Lean functions here say, and the law returns true. Written by a program of this session after the kit's print; conditions: none beyond the row's own. -/
import Derived.Test.YtmfipofoeigleaaProg
import Derived.Below
import Derived.Deep.Draws
import Derived.Deep.AppendLies
import Derived.Maps.AppendAt
import Derived.OwnWalk
import Derived.Laws.BytesArg
import Derived.Laws.MakeOwn
import Derived.Laws.OwnMore
import Derived.Deep.OwnRows
import Derived.Tactics
import Derived.Lib.ConvBytes
import Derived.Laws.Slices
import Derived.WalkKit
import Derived.KernelRfl
import Derived.RowKit3
import Derived.Deep.LoopGhost
import Derived.Deep.QuietTactic
import Derived.BigQuiet
import Derived.WideLaws
import Derived.Deep.DeepCutAuto
import Derived.Deep.CutBlock
import Derived.Deep.RegionHeld3
import Derived.Laws.Rows
import Derived.Lib.AppendStr
import Derived.ArgAppend
import Derived.Laws.IdiomCopy
import Derived.OrdersHeld
import Derived.Laws.BitsLemmas
import Derived.RowKit
import Derived.Test.YtmfipofoeigleaaLebExt3
import Derived.Test.YtmfipofoeigleaaWWords
import Derived.Test.YtmfipofoeigleaaWLast
import Derived.Test.YtmfipofoeigleaaWTab
import Derived.Test.YtmfipofoeigleaaWFour
import Derived.Test.YtmfipofoeigleaaWQPut
import Derived.Test.YtmfipofoeigleaaWApart
import Derived.Test.YtmfipofoeigleaaWArr
import Derived.Test.YtmfipofoeigleaaWZeros
import Derived.Test.YtmfipofoeigleaaWFoot
import Derived.Test.YtmfipofoeigleaaWKept
import Derived.Test.YtmfipofoeigleaaWShare
import Derived.Test.YtmfipofoeigleaaWN
import Derived.Test.YtmfipofoeigleaaWFootNe
import Derived.Test.YtmfipofoeigleaaWAt
import Derived.Test.YtmfipofoeigleaaWEqStruct
import Derived.Test.YtmfipofoeigleaaWRepsOne
import Derived.Test.YtmfipofoeigleaaWInv
import Derived.Test.YtmfipofoeigleaaWInvWords
import Derived.Test.YtmfipofoeigleaaWGuard
import Derived.Test.YtmfipofoeigleaaWNEv
import Derived.Test.YtmfipofoeigleaaWMore
namespace Go.Proofs.Ytmfipofoeigleaa.PLeb
open Go.RowKit Go.Proofs.YtmfipofoeigleaaW.PrintWords Go.Proofs.YtmfipofoeigleaaW.PrintLast Go.Proofs.YtmfipofoeigleaaW.PrintMore Go.Proofs.Ytmfipofoeigleaa.Ext
attribute [local go_sem] max2_int min2_int max_two min_two max_three min_three max_four min_four   -- for this text's walks alone
set_option linter.unusedVariables false
set_option linter.unusedSimpArgs false



def errW : Option Int → Value
  | none => .nilIface
  | some c => .iface 0 (.int .i64 c)
theorem errW_none : errW none = .nilIface := rfl
theorem errW_some (c : Int) : errW (some c) = .iface 0 (.int .i64 c) := rfl

theorem info5 : (Try.prog.info? 5).map (fun i => (i.zero, i.size, i.bytes)) = some (some (.int .u8 0), 1, 1) := by kernel_rfl
-- the values' own types

end Go.Proofs.Ytmfipofoeigleaa.PLeb
