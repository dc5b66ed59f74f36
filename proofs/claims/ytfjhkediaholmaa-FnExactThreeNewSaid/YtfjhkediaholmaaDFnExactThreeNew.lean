/- The data that the law FnExactThreeNew takes, opened; its pure statement. No condition. -/
import Derived.Test.YtfjhkediaholmaaQFnExactThreeNewx9
import Derived.Test.YtfjhkediaholmaaRd
namespace Go.Proofs.Ytfjhkediaholmaa.DFnExactThreeNew
open Go.ChangeShapes Go.WideShapes Go.RowKit Go.Proofs.YtfjhkediaholmaaW.PrintWords Go.Proofs.Ytfjhkediaholmaa.Rd Go.Proofs.Ytfjhkediaholmaa.QFnExactThreeNew
set_option maxRecDepth 100000
set_option linter.unusedVariables false
theorem o3 : Opens Try.prog 3 (Kd.int .i64) (fun x : Int => (Lit.int .i64 x).wf = true) := opens_int Try.underlying3 (by kernel_rfl)
def Pure : Prop := ∀ (a0 : Int) (a1 : Int), (Lit.int .i64 a0).wf = true → (Lit.int .i64 a1).wf = true → ∃ k, laws_FnExactThreeNew.f k a0 a1 = some true
end Go.Proofs.Ytfjhkediaholmaa.DFnExactThreeNew
