/- The data that the law FnExactRate takes, opened; its pure statement. No condition. -/
import Derived.Test.YtellflhmnbgikaaPFnExactRatex1
import Derived.Test.YtellflhmnbgikaaRd
namespace Go.Proofs.Ytellflhmnbgikaa.DFnExactRate
open Go.ChangeShapes Go.WideShapes Go.RowKit Go.Proofs.YtellflhmnbgikaaW.PrintWords Go.Proofs.Ytellflhmnbgikaa.Rd Go.Proofs.Ytellflhmnbgikaa.PFnExactRate
set_option maxRecDepth 100000
theorem o3 : Opens Try.prog 3 (Kd.int .i64) (fun x : Int => (Lit.int .i64 x).wf = true) := opens_int Try.underlying3 (by kernel_rfl)
def Pure : Prop := ∀ (a0_0 : Int) (a0_1 : Int) (a0_2 : Int) (a0_3 : Int), (Lit.int .i64 a0_0).wf = true → (Lit.int .i64 a0_1).wf = true → (Lit.int .i64 a0_2).wf = true → (Lit.int .i64 a0_3).wf = true → laws_FnExactRate.f a0_0 a0_1 a0_2 a0_3 = some true
end Go.Proofs.Ytellflhmnbgikaa.DFnExactRate
