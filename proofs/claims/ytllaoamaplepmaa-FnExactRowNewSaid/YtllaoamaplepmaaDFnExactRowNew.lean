/- The data that the law FnExactRowNew takes, opened; its pure statement. No condition. -/
import Derived.Test.YtllaoamaplepmaaQFnExactRowNewx5
import Derived.Test.YtllaoamaplepmaaRd
namespace Go.Proofs.Ytllaoamaplepmaa.DFnExactRowNew
open Go.ChangeShapes Go.WideShapes Go.RowKit Go.Proofs.YtllaoamaplepmaaW.PrintWords Go.Proofs.Ytllaoamaplepmaa.Rd Go.Proofs.Ytllaoamaplepmaa.QFnExactRowNew
set_option maxRecDepth 100000
set_option linter.unusedVariables false
theorem o3 : Opens Try.prog 3 (Kd.int .i64) (fun x : Int => (Lit.int .i64 x).wf = true) := opens_int Try.underlying3 (by kernel_rfl)
def Pure : Prop := ∀ (a0 : Int) (a1 : Int), (Lit.int .i64 a0).wf = true → (Lit.int .i64 a1).wf = true → ∃ k, laws_FnExactRowNew.f k a0 a1 = some true
end Go.Proofs.Ytllaoamaplepmaa.DFnExactRowNew
