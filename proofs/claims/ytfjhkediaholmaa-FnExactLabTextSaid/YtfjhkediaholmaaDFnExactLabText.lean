/- The data that the law FnExactLabText takes, opened; its pure statement. No condition. -/
import Derived.Test.YtfjhkediaholmaaQFnExactLabTextx9
import Derived.Test.YtfjhkediaholmaaRd
namespace Go.Proofs.Ytfjhkediaholmaa.DFnExactLabText
open Go.ChangeShapes Go.WideShapes Go.RowKit Go.Proofs.YtfjhkediaholmaaW.PrintWords Go.Proofs.Ytfjhkediaholmaa.Rd Go.Proofs.Ytfjhkediaholmaa.QFnExactLabText
set_option maxRecDepth 100000
set_option linter.unusedVariables false
theorem o3 : Opens Try.prog 3 (Kd.int .i64) (fun x : Int => (Lit.int .i64 x).wf = true) := opens_int Try.underlying3 (by kernel_rfl)
def Pure : Prop := ∀ (a0_0_0 : Int) (a0_0_1 : Int) (a0_0_2 : Int) (a0_1 : Int) (a0_2 : Int), (Lit.int .i64 a0_0_0).wf = true → (Lit.int .i64 a0_0_1).wf = true → (Lit.int .i64 a0_0_2).wf = true → (Lit.int .i64 a0_1).wf = true → (Lit.int .i64 a0_2).wf = true → ∃ k, laws_FnExactLabText.f k a0_0_0 a0_0_1 a0_0_2 a0_1 a0_2 = some true
end Go.Proofs.Ytfjhkediaholmaa.DFnExactLabText
