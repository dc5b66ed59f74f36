/- The data that the law FnExactTextOp takes, opened; its pure statement. No condition. -/
import Derived.Test.YtmebfingnfhmlaaQFnExactTextOpx5
import Derived.Test.YtmebfingnfhmlaaRd
namespace Go.Proofs.Ytmebfingnfhmlaa.DFnExactTextOp
open Go.ChangeShapes Go.WideShapes Go.RowKit Go.Proofs.YtmebfingnfhmlaaW.PrintWords Go.Proofs.Ytmebfingnfhmlaa.Rd Go.Proofs.Ytmebfingnfhmlaa.QFnExactTextOp
set_option maxRecDepth 100000
set_option linter.unusedVariables false
theorem o9 : Opens Try.prog 9 Kd.string (fun x : ByteArray => x.size ≤ maxLen) := opens_string Try.underlying9 (by kernel_rfl)
def Pure : Prop := ∀ (a0 : ByteArray), a0.size ≤ maxLen → ∃ k, laws_FnExactTextOp.f k a0 = some true
end Go.Proofs.Ytmebfingnfhmlaa.DFnExactTextOp
