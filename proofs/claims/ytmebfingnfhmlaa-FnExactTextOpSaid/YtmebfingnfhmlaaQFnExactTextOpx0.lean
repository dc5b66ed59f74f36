-- made by a program of this session (myprint.py)
import Derived.Test.YtmebfingnfhmlaaProg
import Derived.Below
import Derived.Deep.Draws
import Derived.Deep.AppendLies
import Derived.Maps.AppendAt
import Derived.OwnWalk
import Derived.Laws.BytesArg
import Derived.Laws.MakeOwn
import Derived.Laws.OwnMore
import Derived.Deep.OwnRows
import Derived.Tactics
import Derived.Lib.ConvBytes
import Derived.Laws.Slices
import Derived.WalkKit
import Derived.KernelRfl
import Derived.RowKit3
import Derived.Deep.LoopGhost
import Derived.Deep.QuietTactic
import Derived.BigQuiet
import Derived.WideLaws
import Derived.Deep.DeepCutAuto
import Derived.Deep.CutBlock
import Derived.Deep.RegionHeld3
import Derived.Laws.Rows
import Derived.Lib.AppendStr
import Derived.ArgAppend
import Derived.Laws.IdiomCopy
import Derived.OrdersHeld
import Derived.Laws.BitsLemmas
import Derived.RowKit
import Derived.Test.YtmebfingnfhmlaaMo
import Derived.Test.YtmebfingnfhmlaaWWords
import Derived.Test.YtmebfingnfhmlaaWLast
import Derived.Test.YtmebfingnfhmlaaWTab
import Derived.Test.YtmebfingnfhmlaaWFour
import Derived.Test.YtmebfingnfhmlaaWQPut
import Derived.Test.YtmebfingnfhmlaaWApart
import Derived.Test.YtmebfingnfhmlaaWArr
import Derived.Test.YtmebfingnfhmlaaWZeros
import Derived.Test.YtmebfingnfhmlaaWFoot
import Derived.Test.YtmebfingnfhmlaaWKept
import Derived.Test.YtmebfingnfhmlaaWShare
import Derived.Test.YtmebfingnfhmlaaWN
import Derived.Test.YtmebfingnfhmlaaWFootNe
import Derived.Test.YtmebfingnfhmlaaWAt
import Derived.Test.YtmebfingnfhmlaaWEqStruct
import Derived.Test.YtmebfingnfhmlaaWRepsOne
import Derived.Test.YtmebfingnfhmlaaWInv
import Derived.Test.YtmebfingnfhmlaaWInvWords
import Derived.Test.YtmebfingnfhmlaaWGuard
import Derived.Test.YtmebfingnfhmlaaWNEv
import Derived.Test.YtmebfingnfhmlaaWMore
namespace Go.Proofs.Ytmebfingnfhmlaa.QFnExactTextOp
open Go.RowKit Go.Proofs.YtmebfingnfhmlaaW.PrintWords Go.Proofs.YtmebfingnfhmlaaW.PrintLast Go.Proofs.YtmebfingnfhmlaaW.PrintMore
attribute [local go_sem] max2_int min2_int max_two min_two max_three min_three max_four min_four   -- for this text's walks alone
set_option linter.unusedVariables false
set_option linter.unusedSimpArgs false



def errW : Option Int → Value
 | none => .nilIface
 | some c => .iface 0 (.int .i64 c)
theorem errW_none : errW none = .nilIface := rfl
theorem errW_some (c : Int) : errW (some c) = .iface 0 (.int .i64 c) := rfl

theorem info9 : (Try.prog.info? 9).map (fun i => (i.zero, i.size, i.bytes)) = some (some (.string ⟨#[]⟩), 1, 16) := by kernel_rfl
-- the values' own types

end Go.Proofs.Ytmebfingnfhmlaa.QFnExactTextOp
