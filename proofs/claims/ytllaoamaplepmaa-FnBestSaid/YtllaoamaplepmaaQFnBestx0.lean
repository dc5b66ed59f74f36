-- made by a program of this session (myprint.py)
import Derived.Test.YtllaoamaplepmaaProg
import Derived.Below
import Derived.Deep.Draws
import Derived.Deep.AppendLies
import Derived.Maps.AppendAt
import Derived.OwnWalk
import Derived.Laws.BytesArg
import Derived.Laws.MakeOwn
import Derived.Laws.OwnMore
import Derived.Deep.OwnRows
import Derived.Tactics
import Derived.Lib.ConvBytes
import Derived.Laws.Slices
import Derived.WalkKit
import Derived.KernelRfl
import Derived.RowKit3
import Derived.Deep.LoopGhost
import Derived.Deep.QuietTactic
import Derived.BigQuiet
import Derived.WideLaws
import Derived.Deep.DeepCutAuto
import Derived.Deep.CutBlock
import Derived.Deep.RegionHeld3
import Derived.Laws.Rows
import Derived.Lib.AppendStr
import Derived.ArgAppend
import Derived.Laws.IdiomCopy
import Derived.OrdersHeld
import Derived.Laws.BitsLemmas
import Derived.RowKit
import Derived.Test.YtllaoamaplepmaaMo
import Derived.Test.YtllaoamaplepmaaWWords
import Derived.Test.YtllaoamaplepmaaWLast
import Derived.Test.YtllaoamaplepmaaWTab
import Derived.Test.YtllaoamaplepmaaWFour
import Derived.Test.YtllaoamaplepmaaWQPut
import Derived.Test.YtllaoamaplepmaaWApart
import Derived.Test.YtllaoamaplepmaaWArr
import Derived.Test.YtllaoamaplepmaaWZeros
import Derived.Test.YtllaoamaplepmaaWFoot
import Derived.Test.YtllaoamaplepmaaWKept
import Derived.Test.YtllaoamaplepmaaWShare
import Derived.Test.YtllaoamaplepmaaWN
import Derived.Test.YtllaoamaplepmaaWFootNe
import Derived.Test.YtllaoamaplepmaaWAt
import Derived.Test.YtllaoamaplepmaaWEqStruct
import Derived.Test.YtllaoamaplepmaaWRepsOne
import Derived.Test.YtllaoamaplepmaaWInv
import Derived.Test.YtllaoamaplepmaaWInvWords
import Derived.Test.YtllaoamaplepmaaWGuard
import Derived.Test.YtllaoamaplepmaaWNEv
import Derived.Test.YtllaoamaplepmaaWMore
namespace Go.Proofs.Ytllaoamaplepmaa.QFnBest
open Go.RowKit Go.Proofs.YtllaoamaplepmaaW.PrintWords Go.Proofs.YtllaoamaplepmaaW.PrintLast Go.Proofs.YtllaoamaplepmaaW.PrintMore
attribute [local go_sem] max2_int min2_int max_two min_two max_three min_three max_four min_four   -- for this text's walks alone
set_option linter.unusedVariables false
set_option linter.unusedSimpArgs false



def errW : Option Int → Value
  | none => .nilIface
  | some c => .iface 0 (.int .i64 c)
theorem errW_none : errW none = .nilIface := rfl
theorem errW_some (c : Int) : errW (some c) = .iface 0 (.int .i64 c) := rfl

theorem info4 : (Try.prog.info? 4).map (fun i => (i.zero, i.size, i.bytes)) = some (some (.bool false), 1, 1) := by kernel_rfl
theorem info9 : (Try.prog.info? 9).map (fun i => (i.zero, i.size, i.bytes)) = some (some (.string ⟨#[]⟩), 1, 16) := by kernel_rfl
-- the values' own types

end Go.Proofs.Ytllaoamaplepmaa.QFnBest
