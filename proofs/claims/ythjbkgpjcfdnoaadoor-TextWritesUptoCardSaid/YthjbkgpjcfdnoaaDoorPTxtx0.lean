/- The law of this text: for every input that its row speaks of, the Go functions that it reaches return just what the Lean functions here say, and the law returns true. Written by a program of this session after the kit's print; conditions: none beyond the row's own. -/
import Derived.Test.YthjbkgpjcfdnoaaDoorProg
import Derived.Below
import Derived.Deep.Draws
import Derived.Deep.AppendLies
import Derived.Maps.AppendAt
import Derived.OwnWalk
import Derived.Laws.BytesArg
import Derived.Laws.MakeOwn
import Derived.Laws.OwnMore
import Derived.Deep.OwnRows
import Derived.Tactics
import Derived.Lib.ConvBytes
import Derived.Laws.Slices
import Derived.WalkKit
import Derived.KernelRfl
import Derived.RowKit3
import Derived.Deep.LoopGhost
import Derived.Deep.QuietTactic
import Derived.BigQuiet
import Derived.WideLaws
import Derived.Deep.DeepCutAuto
import Derived.Deep.CutBlock
import Derived.Deep.RegionHeld3
import Derived.Laws.Rows
import Derived.Lib.AppendStr
import Derived.ArgAppend
import Derived.Laws.IdiomCopy
import Derived.OrdersHeld
import Derived.Laws.BitsLemmas
import Derived.RowKit
import Derived.Test.YthjbkgpjcfdnoaaDoorTextMath
import Derived.Test.YthjbkgpjcfdnoaaDoorWWords
import Derived.Test.YthjbkgpjcfdnoaaDoorWLast
import Derived.Test.YthjbkgpjcfdnoaaDoorWTab
import Derived.Test.YthjbkgpjcfdnoaaDoorWFour
import Derived.Test.YthjbkgpjcfdnoaaDoorWQPut
import Derived.Test.YthjbkgpjcfdnoaaDoorWApart
import Derived.Test.YthjbkgpjcfdnoaaDoorWArr
import Derived.Test.YthjbkgpjcfdnoaaDoorWZeros
import Derived.Test.YthjbkgpjcfdnoaaDoorWFoot
import Derived.Test.YthjbkgpjcfdnoaaDoorWKept
import Derived.Test.YthjbkgpjcfdnoaaDoorWShare
import Derived.Test.YthjbkgpjcfdnoaaDoorWN
import Derived.Test.YthjbkgpjcfdnoaaDoorWFootNe
import Derived.Test.YthjbkgpjcfdnoaaDoorWAt
import Derived.Test.YthjbkgpjcfdnoaaDoorWEqStruct
import Derived.Test.YthjbkgpjcfdnoaaDoorWRepsOne
import Derived.Test.YthjbkgpjcfdnoaaDoorWInv
import Derived.Test.YthjbkgpjcfdnoaaDoorWInvWords
import Derived.Test.YthjbkgpjcfdnoaaDoorWGuard
import Derived.Test.YthjbkgpjcfdnoaaDoorWNEv
import Derived.Test.YthjbkgpjcfdnoaaDoorWMore
namespace Go.Proofs.YthjbkgpjcfdnoaaDoor.PTxt
open Go.RowKit Go.Proofs.YthjbkgpjcfdnoaaDoorW.PrintWords Go.Proofs.YthjbkgpjcfdnoaaDoorW.PrintLast Go.Proofs.YthjbkgpjcfdnoaaDoorW.PrintMore Go.Proofs.YthjbkgpjcfdnoaaDoor.Ext
attribute [local go_sem] max2_int min2_int max_two min_two max_three min_three max_four min_four   -- for this text's walks alone
set_option linter.unusedVariables false
set_option linter.unusedSimpArgs false



def errW : Option Int → Value
  | none => .nilIface
  | some c => .iface 0 (.int .i64 c)
theorem errW_none : errW none = .nilIface := rfl
theorem errW_some (c : Int) : errW (some c) = .iface 0 (.int .i64 c) := rfl

theorem info5 : (Tryd.prog.info? 5).map (fun i => (i.zero, i.size, i.bytes)) = some (some (.int .u8 0), 1, 1) := by kernel_rfl
-- the values' own types

end Go.Proofs.YthjbkgpjcfdnoaaDoor.PTxt
